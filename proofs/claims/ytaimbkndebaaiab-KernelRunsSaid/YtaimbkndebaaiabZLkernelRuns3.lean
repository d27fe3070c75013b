/- Texts for the law, 3. -/
import Derived.Test.YtaimbkndebaaiabZLkernelRuns2
import Derived.Test.YtaimbkndebaaiabProg
import Derived.KernelRfl
set_option linter.unusedVariables false
set_option linter.unusedSimpArgs false
set_option maxRecDepth 8000
section
namespace Go.Rd
def Lt (a b : Edg) : Prop := ordV a b < 0
theorem Lt.trans {a b c : Edg} (h : Lt a b) (h' : Lt b c) : Lt a c := by unfold Lt at *; rw [ordV_neg] at *; omega
def Strict (l : List Edg) : Prop := l.Pairwise Lt
def Srt (l : List Edg) : Prop := l.Pairwise fun a b => ¬ Lt b a
theorem Srt.at {l : List Edg} (h : Srt l) {i j : Nat} (hij : i < j) (hj : j < l.length) : ¬ Lt (ele l (j : Int)) (ele l (i : Int)) := by
 have := List.pairwise_iff_getElem.1 h i j (by omega) hj hij
 simpa [ele_nat, List.getD_eq_getElem?_getD, hj, show i < l.length from by omega] using this
structure CptI (s : List Edg) (k0 : Nat) (ows : List Edg) (k j : Nat) : Prop where
 len : ows.length = s.length
 kp : 1 ≤ k0
 j1 : 1 ≤ j
 jn : k0 + j ≤ s.length
 kk : k0 ≤ k
 kj : k + 1 ≤ k0 + j
 st : Strict (ows.take k)
 mem : ∀ e, e ∈ ows.take k ↔ e ∈ s.take (k0 + j)
 last : ele ows ((k - 1 : Nat) : Int) = ele s ((k0 + j - 1 : Nat) : Int)
 rest : ∀ p : Nat, k0 + j - 1 ≤ p → p < s.length → ele ows (p : Int) = ele s (p : Int)
theorem bdG_any {α β : Type} [Inhabited α] {c : Bool} {x : α} {k : α → Option β} : bdG c (some x) k = k (if c = true then x else default) := by cases c <;> rfl
structure UpTo (l : Lp) (t : Tgt) (p : Edg) (b : Int) (v : List Edg) : Prop where
 st : Strict v
 mem : ∀ e, e ∈ v ↔ EdgeP l t e ∧ Lt e p
 len : (v.length : Int) ≤ b
structure Cnt (P : Edg → Prop) (b : Nat) (v : List Edg) : Prop where
 mem : ∀ e, e ∈ v ↔ P e
 len : v.length ≤ b
def keyK (l : Lp) (p : Pln) (i : Nat) : Int × Int := (Int.tmod (ele p.times (i : Int)) p.pace, clsV (ele l.body (i : Int)).op)
def cntK (l : Lp) (p : Pln) (k : Nat) (κ : Int × Int) : Nat := (List.range k).countP fun j => decide (keyK l p j = κ)
def unitsV (t : Tgt) (c : Int) : Int := sel3 t.u0 t.u1 t.u2 c
theorem units_bd {t : Tgt} (ht : tgtOk t = true) (c : Int) : 1 ≤ unitsV t c ∧ unitsV t c ≤ 4 := by
 rw [tgtOk_iff] at ht
 exact sel3_bd ⟨ht.1.1, ht.1.2.1⟩ ⟨ht.2.1.1, ht.2.1.2.1⟩ ⟨ht.2.2.1.1, ht.2.2.1.2.1⟩
def RngP (p : Pln) (i : Nat) : Prop := 0 ≤ ele p.times (i : Int) ∧ ele p.times (i : Int) ≤ 1000
def EdgOk (p : Pln) (e : Edg) : Prop := ele p.times e.fr + e.wt ≤ ele p.times e.to + e.bk * p.pace
structure LegalP (l : Lp) (t : Tgt) (p : Pln) : Prop where
 loop : LoopOk l
 tgt : tgtOk t = true
 pace : 1 ≤ p.pace ∧ p.pace ≤ 200
 len : p.times.length = l.body.length
 rng : ∀ i, i < l.body.length → RngP p i
 units : ∀ i, i < l.body.length → (cntK l p l.body.length (keyK l p i) : Int) ≤ unitsV t (keyK l p i).2
 edge : ∀ e, EdgeP l t e → EdgOk p e
structure LayD where
 (logs : List Int)
 (body : List Stm)
 (outs : List Int)
 (pace regs : Int)
 (time ready places : List Int)
structure LayD.Ok (y : LayD) : Prop where
 n : 1 ≤ y.body.length ∧ y.body.length ≤ 16
 lt : y.time.length = y.body.length
 lr : y.ready.length = y.body.length
 lp : y.places.length = y.body.length
 lo : y.outs.length ≤ 100000
 pace : 1 ≤ y.pace ∧ y.pace ≤ 200
 regs : 1 ≤ y.regs ∧ y.regs ≤ 128
 tm : ∀ i : Nat, i < y.body.length → 0 ≤ ele y.time (i : Int) ∧ ele y.time (i : Int) ≤ 1000
 rd : ∀ i : Nat, i < y.body.length → 0 ≤ ele y.ready (i : Int) ∧ ele y.ready (i : Int) ≤ 1006
 pl : ∀ i : Nat, i < y.body.length → -100000 ≤ ele y.places (i : Int) ∧ ele y.places (i : Int) ≤ 100000
 us : ∀ i : Nat, i < y.body.length → ∀ r ∈ usesL (ele y.body (i : Int)), 0 ≤ r.st ∧ r.st < y.body.length ∧ 0 ≤ r.bk ∧ r.bk ≤ 3
structure LookP (y : LayD) (a m j : Int) (k : Nat) (r : Rf) : Prop where
 kn : k < y.body.length
 mem : r ∈ usesL (ele y.body (k : Int))
 st : r.st = a
 near : (ele y.ready a ≤ ele y.ready m + j * y.pace ∧ ele y.ready m + j * y.pace ≤ ele y.time (k : Int) + r.bk * y.pace) ∨ (0 < r.bk ∧ 0 < j ∧ ele y.ready m + j * y.pace ≤ ele y.time (k : Int) + r.bk * y.pace)
def usesN (op : Int) : Int := if op = 4 then 1 else if op > 10 then 2 else 0
def turnS : Stm := ⟨2, ⟨0, 0⟩, ⟨0, 0⟩, 0, 0, 0, 0⟩
def stmO (o : Opr) : Stm := ⟨o.op, ⟨0, 0⟩, ⟨0, 0⟩, o.ar, o.sp, o.pl, o.n⟩
def lpO (logs : List Int) (o : Opr) : Lp := ⟨logs, [turnS, stmO o], []⟩
def SlotP (k : Krn) (o : Opr) : Prop := 0 ≤ o.slot ∧ o.slot < k.pace ∧ 0 ≤ o.stage ∧ o.stage < k.stages ∧ o.stage * k.pace + o.slot ≤ 1000
def NamesP (t : Tgt) (o : Opr) : Prop := 0 ≤ o.dest ∧ o.dest < t.regs ∧ 0 ≤ o.a ∧ o.a < t.regs ∧ 0 ≤ o.b ∧ o.b < t.regs ∧ (usesN o.op < 1 → o.a = 0) ∧ (usesN o.op < 2 → o.b = 0)
def OneP (t : Tgt) (k : Krn) (o : Opr) (logs : List Int) : Prop := SlotP k o ∧ NamesP t o ∧ LoopOk (lpO logs o)
theorem rUses_s (op : Int) : R5_Uses_m op = some (usesN op) := by
 unfold R5_Uses_m usesN
 by_cases h : op = 4
 ·simp [h, br]
 ·by_cases h2 : op > 10
  ·have h3 : (op == 4) = false := by simp [h]
   simp [h, h2, h3, br]
  ·have h3 : (op == 4) = false := by simp [h]
   simp [h, h2, h3, br]
theorem one_s {t : Tgt} {k : Krn} {o : Opr} {logs : List Int} (hp : 1 ≤ k.pace ∧ k.pace ≤ 200) (hs : 1 ≤ k.stages ∧ k.stages ≤ 1001) (hf : (lpO logs o).Fine) : R5_one_m t k o logs = some (tb (OneP t k o logs)) := by
 unfold R5_one_m
 have hir : (!((((decide (o.slot < 0)) || (decide (o.slot ≥ k.pace))) || (decide (o.stage < 0))) || (decide (o.stage ≥ k.stages)))) = true → (0 ≤ o.stage * k.pace ∧ o.stage * k.pace ≤ 1001 * 200 ∧ 0 ≤ o.slot ∧ o.slot < 200) := fun h => by
  simp only [Bool.not_eq_true', Bool.or_eq_false_iff, decide_eq_false_iff_not] at h
  have m1 := mul_le (a := o.stage) (A := 1001) (b := k.pace) (B := 200) (by omega) (by omega) (by omega) (by omega)
  have m2 := Int.mul_nonneg (show 0 ≤ o.stage by omega) (show 0 ≤ k.pace by omega)
  omega
 rw [ck_imp (fun h => by have := hir h; exact ⟨by omega, by omega⟩), ck_imp (fun h => by have := hir h; exact ⟨by omega, by omega⟩)]
 have hb : (((((decide (o.slot < 0)) || (decide (o.slot ≥ k.pace))) || (decide (o.stage < 0))) || (decide (o.stage ≥ k.stages))) || (decide (((o.stage * k.pace) + o.slot) > 1000))) = !tb (SlotP k o) := by
  rw [show tb (SlotP k o) = !(((((decide (o.slot < 0)) || (decide (o.slot ≥ k.pace))) || (decide (o.stage < 0))) || (decide (o.stage ≥ k.stages))) || (decide (((o.stage * k.pace) + o.slot) > 1000))) from (tb_eq (by unfold SlotP; simp [and_assoc])).symm, Bool.not_not]
 rw [hb, rUses_s, bd_ret]
 have hc : ((((((((decide (o.dest < 0)) || (decide (o.dest ≥ t.regs))) || (decide (o.a < 0))) || (decide (o.b < 0))) || (decide (o.a ≥ t.regs))) || (decide (o.b ≥ t.regs))) || ((decide (usesN o.op < 1)) && (o.a != 0))) || ((decide (usesN o.op < 2)) && (o.b != 0))) = !tb (NamesP t o) := by
  rw [show tb (NamesP t o) = !((((((((decide (o.dest < 0)) || (decide (o.dest ≥ t.regs))) || (decide (o.a < 0))) || (decide (o.b < 0))) || (decide (o.a ≥ t.regs))) || (decide (o.b ≥ t.regs))) || ((decide (usesN o.op < 1)) && (o.a != 0))) || ((decide (usesN o.op < 2)) && (o.b != 0))) from (tb_eq (by
   unfold NamesP
   simp only [Bool.not_eq_true', Bool.or_eq_false_iff, decide_eq_false_iff_not, Bool.and_eq_false_iff, bne_eq_false_iff_eq, Int.not_lt, Int.not_le, ge_iff_le]
   constructor
   ·rintro ⟨⟨⟨⟨⟨⟨⟨a1, a2⟩, a3⟩, a4⟩, a5⟩, a6⟩, a7⟩, a8⟩
    exact ⟨a1, a2, a3, a5, a4, a6, fun h => a7.resolve_left (by omega), fun h => a8.resolve_left (by omega)⟩
   ·rintro ⟨a1, a2, a3, a5, a4, a6, a7, a8⟩
    refine ⟨⟨⟨⟨⟨⟨⟨a1, a2⟩, a3⟩, a4⟩, a5⟩, a6⟩, ?_⟩, ?_⟩
    ·by_cases h : usesN o.op < 1
     ·exact .inr (a7 h)
     ·exact .inl (by omega)
    ·by_cases h : usesN o.op < 2
     ·exact .inr (a8 h)
     ·exact .inl (by omega))).symm, Bool.not_not]
 rw [hc, show R2_May_m (Lp.mk logs [(Stm.mk 2 (Rf.mk 0 0) (Rf.mk 0 0) 0 0 0 0), (Stm.mk o.op (Rf.mk 0 0) (Rf.mk 0 0) o.ar o.sp o.pl o.n)] []) = _ from ref_May_s (lpO logs o) hf, bd_ret]
 by_cases h1 : SlotP k o
 ·by_cases h2 : NamesP t o
  ·rw [tb_t h1, tb_t h2]
   show some _ = some _
   congr 1
   exact tb_congr ⟨fun h => ⟨h1, h2, h⟩, fun h => h.2.2⟩
  ·rw [tb_t h1, tb_f h2, tb_f fun h : OneP t k o logs => h2 h.2.1]; rfl
 ·rw [tb_f h1, tb_f fun h : OneP t k o logs => h1 h.1]; rfl
def keyO (k : Krn) (i : Nat) : Int × Int := ((ele k.ops (i : Int)).slot, clsV (ele k.ops (i : Int)).op)
def cntO (k : Krn) (n : Nat) (κ : Int × Int) : Nat := (List.range n).countP fun j => decide (keyO k j = κ)
theorem cntO_succ (k : Krn) (n : Nat) (κ : Int × Int) : cntO k (n + 1) κ = cntO k n κ + if keyO k n = κ then 1 else 0 := by
 unfold cntO
 rw [List.range_succ, List.countP_append, List.countP_singleton]
 by_cases h : keyO k n = κ <;> simp [h]
theorem cntO_le (k : Krn) (κ : Int × Int) : ∀ n, cntO k n κ ≤ n
 | 0 => Nat.le_refl _
 | n + 1 => by rw [cntO_succ]; have := cntO_le k κ n; split <;> omega
structure KMayP (t : Tgt) (k : Krn) (logs : List Int) : Prop where
 tgt : tgtOk t = true
 pace : 1 ≤ k.pace ∧ k.pace ≤ 200
 stages : 1 ≤ k.stages ∧ k.stages ≤ 1001
 n : 1 ≤ k.ops.length ∧ k.ops.length ≤ 16
 one : ∀ i : Nat, i < k.ops.length → OneP t k (ele k.ops (i : Int)) logs
 units : ∀ i : Nat, i < k.ops.length → (cntO k k.ops.length (keyO k i) : Int) ≤ unitsV t (keyO k i).2
theorem within_s (n a b : Int) : R2_Within_m n a b = some (tb (a ≤ n ∧ n ≤ b)) := by
 unfold R2_Within_m
 congr 1
 exact tb_eq (by simp)
theorem kMay_s {t : Tgt} {k : Krn} {logs : List Int} (hf : ∀ i : Nat, i < k.ops.length → (lpO logs (ele k.ops (i : Int))).Fine) : R5_May_m t k logs = some (tb (KMayP t k logs)) := by
 unfold R5_May_m
 rw [ref_tMay_s, bd_ret, within_s, bdG_some', within_s, bdG_some', within_s, bdG_some']
 by_cases h : (tgtOk t = true ∧ (1 ≤ k.pace ∧ k.pace ≤ 200)) ∧ (1 ≤ k.stages ∧ k.stages ≤ 1001) ∧ (1 ≤ k.ops.length ∧ k.ops.length ≤ 16)
 ·obtain ⟨⟨h1, h2⟩, h3, h4⟩ := h
  rw [h1, tb_t h2, tb_t h3, tb_t (p := 1 ≤ ln k.ops ∧ ln k.ops ≤ 16) ⟨by unfold ln; omega, by unfold ln; omega⟩]
  simp only [Bool.not_true, Bool.or_self, Bool.not_false, if_true, br_false]
  have X := lp_det2 (f := R5_May_L0 t k logs) (ρ := Bool) (fun i => (i : Int)) k.ops.length (fun i => OneP t k (ele k.ops (i : Int)) logs ∧ (cntO k k.ops.length (keyO k i) : Int) ≤ unitsV t (keyO k i).2) (fun _ => false) (fun i hi _ => by
   have hc := clsV_range (ele k.ops (i : Int)).op
   have Y := lp_det (f := R5_May_L2 k i (clsV (ele k.ops (i : Int)).op)) (ρ := Empty) (fun j => ((cntO k j (keyO k i) : Int), (j : Int))) k.ops.length (fun j hj => by
    have hcl := cntO_le k (keyO k i) j
    unfold R5_May_L2
    simp only
    rw [br_T (by unfold ln; omega), ck_IX (by omega) (by unfold ln; omega), ck_IX (by omega) (by unfold ln; omega), ck_imp (fun _ => ⟨by omega, by unfold ln; omega⟩), ref_Class_s, bdG_any, cntO_succ]
    have hb : (((ele k.ops (j : Int)).slot == (ele k.ops (i : Int)).slot) && ((if ((ele k.ops (j : Int)).slot == (ele k.ops (i : Int)).slot) = true then clsV (ele k.ops (j : Int)).op else default) == clsV (ele k.ops (i : Int)).op)) = tb (keyO k j = keyO k i) := by
     refine tb_eq ?_
     unfold keyO
     by_cases hq : (ele k.ops (j : Int)).slot = (ele k.ops (i : Int)).slot
     ·simp [hq]
     ·simp [hq]
    rw [hb]
    by_cases hq : keyO k j = keyO k i
    ·rw [tb_t hq, br_true, ck_IR (by omega) (by omega), ck_IR (by omega) (by omega), if_pos hq]; rfl
    ·rw [tb_f hq, br_false, ck_IR (by omega) (by omega), if_neg hq]; rfl) (by unfold R5_May_L2; exact br_F (by unfold ln; omega))
   unfold R5_May_L0
   rw [br_T (by unfold ln; omega), ck_IX (by omega) (by unfold ln; omega), one_s h2 h3 (hf i hi), bd_ret]
   by_cases h5 : OneP t k (ele k.ops (i : Int)) logs
   ·rw [tb_t h5, Bool.not_true, br_false, ck_IX (by omega) (by unfold ln; omega), ref_Class_s, bd_ret, show lp (R5_May_L2 k i (clsV (ele k.ops (i : Int)).op)) (0, 0) = _ from Y, bd_ret, Out.on_go]
    simp only
    rw [ck_IX hc.1 hc.2]
    have he : sel3 t.u0 t.u1 t.u2 (clsV (ele k.ops (i : Int)).op) = unitsV t (keyO k i).2 := rfl
    rw [he]
    exact ⟨fun h => by rw [br_F (by omega), ck_IR (by omega) (by omega)]; rfl, fun h => by rw [br_T (by have : ¬ (cntO k k.ops.length (keyO k i) : Int) ≤ unitsV t (keyO k i).2 := fun h' => h ⟨h5, h'⟩; omega)]⟩
   ·rw [tb_f h5]
    exact ⟨fun h => absurd h.1 h5, fun _ => rfl⟩) (by unfold R5_May_L0; exact br_F (by unfold ln; omega))
  rcases X with ⟨q1, e⟩ | ⟨i, q1, q2, _, e⟩
  ·rw [show lp (R5_May_L0 t k logs) 0 = _ from e, bd_ret, Out.on_go, tb_t (p := KMayP t k logs) ⟨h1, h2, h3, h4, fun i hi => (q1 i hi).1, fun i hi => (q1 i hi).2⟩]
  ·rw [show lp (R5_May_L0 t k logs) 0 = _ from e, bd_ret, Out.on_ret, tb_f fun h : KMayP t k logs => q2 ⟨h.one i q1, h.units i q1⟩]
 ·rw [tb_f fun hk : KMayP t k logs => h ⟨⟨hk.tgt, hk.pace⟩, hk.stages, hk.n⟩]
  by_cases h1 : tgtOk t = true
  ·by_cases h2 : 1 ≤ k.pace ∧ k.pace ≤ 200
   ·by_cases h3 : 1 ≤ k.stages ∧ k.stages ≤ 1001
    ·have h4 : ¬ (1 ≤ ln k.ops ∧ ln k.ops ≤ 16) := fun hh => h ⟨⟨h1, h2⟩, h3, by unfold ln at hh; omega⟩
     rw [h1, tb_t h2, tb_t h3, tb_f h4]; rfl
    ·rw [h1, tb_t h2, tb_f h3]; rfl
   ·rw [h1, tb_f h2]; rfl
  ·rw [show tgtOk t = false from by cases hh : tgtOk t with | true => exact absurd hh h1 | false => rfl]; rfl
theorem ele_mid {α : Type} [Inhabited α] {P W : List α} {x : α} {i : Int} (h : i = P.length) : ele (P ++ x :: W) i = x := by
 subst h
 rw [ele_nat, List.getD_eq_getElem?_getD, List.getElem?_append_right (Nat.le_refl _), Nat.sub_self]; rfl
theorem upd_mid {α : Type} {P W : List α} {x z : α} {i : Int} (h : i = P.length) : upd (P ++ x :: W) i z = P ++ z :: W := by
 subst h
 unfold upd
 rw [Int.toNat_natCast, List.set_append_right _ _ (Nat.le_refl _), Nat.sub_self]; rfl
def atT (T : Int) (l : List Due) : List Due := l.filter fun d => decide (d.due = T)
theorem atT_app (T : Int) (a b : List Due) : atT T (a ++ b) = atT T a ++ atT T b := List.filter_append ..
theorem atT_none {T : Int} {l : List Due} (h : ∀ d ∈ l, d.due ≠ T) : atT T l = [] := List.filter_eq_nil_iff.2 fun d hd => by simpa using h d hd
def Stb (x y : List Due) : Prop := x.length = y.length ∧ ∀ T, atT T x = atT T y
theorem Stb.rfl' (x : List Due) : Stb x x := ⟨rfl, fun _ => rfl⟩
theorem Stb.trans {x y z : List Due} (h : Stb x y) (k : Stb y z) : Stb x z := ⟨h.1.trans k.1, fun T => (h.2 T).trans (k.2 T)⟩
theorem Stb.symm {x y : List Due} (h : Stb x y) : Stb y x := ⟨h.1.symm, fun T => (h.2 T).symm⟩
theorem Stb.app {a a' b b' : List Due} (h : Stb a a') (k : Stb b b') : Stb (a ++ b) (a' ++ b') := ⟨by rw [List.length_append, List.length_append, h.1, k.1], fun T => by rw [atT_app, atT_app, h.2, k.2]⟩
theorem Stb.mem {x y : List Due} (h : Stb x y) {d : Due} : d ∈ x ↔ d ∈ y := by
 have := h.2 d.due
 constructor
 ·intro hd
  have h1 : d ∈ atT d.due x := List.mem_filter.2 ⟨hd, by simp⟩
  rw [this] at h1
  exact (List.mem_filter.1 h1).1
 ·intro hd
  have h1 : d ∈ atT d.due y := List.mem_filter.2 ⟨hd, by simp⟩
  rw [← this] at h1
  exact (List.mem_filter.1 h1).1
theorem Stb.swap {a b : List Due} (h : ∀ x ∈ a, ∀ y ∈ b, y.due < x.due) : Stb (a ++ b) (b ++ a) := ⟨by rw [List.length_append, List.length_append, Nat.add_comm], fun T => by
 rw [atT_app, atT_app]
 by_cases c : ∃ x ∈ a, x.due = T
 ·obtain ⟨x, hx, hT⟩ := c
  rw [atT_none (l := b) fun y hy => by have := h x hx y hy; omega]
  simp
 ·rw [atT_none (l := a) fun x hx e => c ⟨x, hx, e⟩]
  simp⟩
def SrtD (l : List Due) : Prop := l.Pairwise fun x y => x.due ≤ y.due
theorem swapR_s (a b : Int) : ∀ (X Y A B Z : List Due) (i : Nat), X.length = Y.length → (A.length : Int) = a + i → (A.length : Int) + X.length + B.length = b + i → 0 ≤ a → 0 ≤ b → A.length + X.length + B.length + Y.length + Z.length ≤ 1000000 →
  lp (slices_swapRangeCmpFunc_kernel_result__L0 a b ((i + X.length : Nat) : Int)) (A ++ (X ++ (B ++ (Y ++ Z))), (i : Int)) = some (.go (A ++ (Y ++ (B ++ (X ++ Z))), ((i + X.length : Nat) : Int)))
 | [], [], A, B, Z, i, _, _, _, _, _, _ => by
  refine lp_brk ?_
  unfold slices_swapRangeCmpFunc_kernel_result__L0
  exact br_F (by simp)
 | x :: X, y :: Y, A, B, Z, i, hl, ha, hb, h0, h1, hs => by
  simp only [List.length_cons] at hl hb hs
  have ih := swapR_s a b X Y (A ++ [y]) (B ++ [x]) Z (i + 1) (by omega) (by rw [List.length_append, List.length_singleton]; omega) (by rw [List.length_append, List.length_append, List.length_singleton, List.length_singleton]; omega) h0 h1 (by rw [List.length_append, List.length_append, List.length_singleton, List.length_singleton]; omega)
  rw [show ((i + (x :: X).length : Nat) : Int) = ((i + 1 + X.length : Nat) : Int) from by simp only [List.length_cons]; omega]
  have e1 : A ++ ((x :: X) ++ (B ++ ((y :: Y) ++ Z))) = A ++ x :: (X ++ (B ++ y :: (Y ++ Z))) := by simp
  have e2 : A ++ (y :: (X ++ (B ++ y :: (Y ++ Z)))) = (A ++ y :: (X ++ B)) ++ y :: (Y ++ Z) := by simp
  have e3 : A ++ x :: (X ++ (B ++ y :: (Y ++ Z))) = (A ++ x :: (X ++ B)) ++ y :: (Y ++ Z) := by simp
  have hln : ln (A ++ ((x :: X) ++ (B ++ ((y :: Y) ++ Z)))) = ((A.length + (X.length + 1) + B.length + (Y.length + 1) + Z.length : Nat) : Int) := by unfold ln; simp only [List.length_append, List.length_cons]; omega
  refine lp_step (g' := (A ++ [y] ++ (X ++ (B ++ [x] ++ (Y ++ Z))), ((i + 1 : Nat) : Int))) ?_ ?_
  ·unfold slices_swapRangeCmpFunc_kernel_result__L0
   simp only
   have lu : ∀ (l : List Due) (i : Int) (z : Due), ln (upd l i z) = ln l := fun l i z => by unfold ln; rw [upd_length]
   rw [br_T (by omega), ck_IR (by omega) (by omega), ck_IR (by omega) (by omega), ck_IR (by omega) (by omega), ck_IX (by omega) (by rw [hln]; omega), ck_IR (by omega) (by omega), ck_IX (by omega) (by rw [hln]; omega), ck_IX (by omega) (by rw [hln]; omega), lu, ck_IX (by omega) (by rw [hln]; omega), ck_IR (by omega) (by omega)]
   have q1 : ele (A ++ ((x :: X) ++ (B ++ ((y :: Y) ++ Z)))) (a + i) = x := by rw [e1]; exact ele_mid (by omega)
   have q2 : ele (A ++ ((x :: X) ++ (B ++ ((y :: Y) ++ Z)))) (b + i) = y := by rw [e1, e3]; exact ele_mid (by simp only [List.length_append, List.length_cons]; omega)
   rw [q1, q2, e1, upd_mid (by omega), e2, upd_mid (by simp only [List.length_append, List.length_cons]; omega)]
   have : A ++ y :: (X ++ B) ++ x :: (Y ++ Z) = A ++ [y] ++ (X ++ (B ++ [x] ++ (Y ++ Z))) := by simp
   rw [this]; rfl
  ·rw [ih]
   simp
theorem swapRange_s {a b : Int} {X Y A B Z : List Due} (hl : X.length = Y.length) (ha : (A.length : Int) = a) (hb : (A.length : Int) + X.length + B.length = b) (hs : A.length + X.length + B.length + Y.length + Z.length ≤ 1000000) {n : Int} (hn : n = X.length) :
  slices_swapRangeCmpFunc_kernel_result__m (A ++ (X ++ (B ++ (Y ++ Z)))) a b n = some (A ++ (Y ++ (B ++ (X ++ Z)))) := by
 subst hn
 have := swapR_s a b X Y A B Z 0 hl (by omega) (by omega) (by omega) (by omega) hs
 rw [Nat.zero_add] at this
 unfold slices_swapRangeCmpFunc_kernel_result__m
 rw [show lp (slices_swapRangeCmpFunc_kernel_result__L0 a b (X.length : Int)) (A ++ (X ++ (B ++ (Y ++ Z))), 0) = _ from this, bd_ret, Out.on_go]
theorem rot_loop (m : Int) : ∀ (s : Nat) (A X Y Z : List Due), X.length + Y.length ≤ s → 1 ≤ X.length → 1 ≤ Y.length → (A.length : Int) + X.length = m → A.length + X.length + Y.length + Z.length ≤ 1000000 →
  ∃ A' X' Y' Z' : List Due, ∃ k : Nat, lp (slices_rotateCmpFunc_kernel_result__L0 m) (A ++ (X ++ (Y ++ Z)), (X.length : Int), (Y.length : Int)) = some (.go (A' ++ (X' ++ (Y' ++ Z')), (k : Int), (k : Int))) ∧ X'.length = k ∧ Y'.length = k ∧ (A'.length : Int) + k = m ∧ A' ++ (Y' ++ (X' ++ Z')) = A ++ (Y ++ (X ++ Z)) ∧ A'.length + k + k + Z'.length ≤ 1000000
 | 0, _, X, _, _, h, h1, _, _, _ => by omega
 | s + 1, A, X, Y, Z, h, h1, h2, hm, hs => by
  rcases Nat.lt_trichotomy X.length Y.length with c | c | c
  ·skip
   have hY : Y = Y.take (Y.length - X.length) ++ Y.drop (Y.length - X.length) := (List.take_append_drop _ _).symm
   have l1 : (Y.take (Y.length - X.length)).length = Y.length - X.length := by rw [List.length_take]; omega
   have l2 : (Y.drop (Y.length - X.length)).length = X.length := by rw [List.length_drop]; omega
   generalize Y.take (Y.length - X.length) = Y1 at *
   generalize Y.drop (Y.length - X.length) = Y2 at *
   have hYl : Y.length = Y1.length + Y2.length := by rw [hY, List.length_append]
   obtain ⟨A', X', Y', Z', k, e, r⟩ := rot_loop m s A Y2 Y1 (X ++ Z) (by omega) (by omega) (by omega) (by omega) (by rw [List.length_append]; omega)
   refine ⟨A', X', Y', Z', k, ?_, r.1, r.2.1, r.2.2.1, ?_, r.2.2.2.2⟩
   ·refine lp_step (g' := (A ++ (Y2 ++ (Y1 ++ (X ++ Z))), (Y2.length : Int), (Y1.length : Int))) ?_ e
    unfold slices_rotateCmpFunc_kernel_result__L0
    simp only
    have sw := swapRange_s (a := m - X.length) (b := m + Y.length - X.length) (X := X) (Y := Y2) (A := A) (B := Y1) (Z := Z) (by omega) (by omega) (by omega) (by omega) (n := (X.length : Int)) rfl
    rw [show ((X.length : Int) != (Y.length : Int)) = true from by simp; omega, br_true, br_F (by omega), ck_IR (by omega) (by omega), ck_IR (by omega) (by omega), ck_IR (by omega) (by omega), hY, List.append_assoc, show (((Y1 ++ Y2).length : Nat) : Int) = (Y.length : Int) from by rw [← hY], sw, bd_ret, ck_IR (by omega) (by omega)]
    rw [l2, show (Y.length : Int) - X.length = (Y1.length : Int) from by omega]
   ·rw [r.2.2.2.1, hY]; simp
  ·skip
   refine ⟨A, X, Y, Z, X.length, ?_, rfl, c.symm, hm, rfl, by omega⟩
   rw [show (Y.length : Int) = (X.length : Int) from by omega]
   refine lp_brk ?_
   unfold slices_rotateCmpFunc_kernel_result__L0
   simp only
   rw [show ((X.length : Int) != (X.length : Int)) = false from by simp, br_false]
  ·have hX : X = X.take Y.length ++ X.drop Y.length := (List.take_append_drop _ _).symm
   have l1 : (X.take Y.length).length = Y.length := by rw [List.length_take]; omega
   have l2 : (X.drop Y.length).length = X.length - Y.length := by rw [List.length_drop]
   generalize X.take Y.length = X1 at *
   generalize X.drop Y.length = X2 at *
   have hXl : X.length = X1.length + X2.length := by rw [hX, List.length_append]
   obtain ⟨A', X', Y', Z', k, e, r⟩ := rot_loop m s (A ++ Y) X2 X1 Z (by omega) (by omega) (by omega) (by rw [List.length_append]; omega) (by rw [List.length_append]; omega)
   refine ⟨A', X', Y', Z', k, ?_, r.1, r.2.1, r.2.2.1, ?_, r.2.2.2.2⟩
   ·refine lp_step (g' := ((A ++ Y) ++ (X2 ++ (X1 ++ Z)), (X2.length : Int), (X1.length : Int))) ?_ e
    unfold slices_rotateCmpFunc_kernel_result__L0
    simp only
    have sw := swapRange_s (a := m - X.length) (b := m) (X := X1) (Y := Y) (A := A) (B := X2) (Z := Z) (by omega) (by omega) (by omega) (by omega) (n := (Y.length : Int)) (by omega)
    rw [show ((X.length : Int) != (Y.length : Int)) = true from by simp; omega, br_true, br_T (by omega), ck_IR (by omega) (by omega), show A ++ (X ++ (Y ++ Z)) = A ++ (X1 ++ (X2 ++ (Y ++ Z))) from by rw [hX]; simp, sw, bd_ret, ck_IR (by omega) (by omega)]
    rw [l1, show (X.length : Int) - Y.length = (X2.length : Int) from by omega, List.append_assoc]
   ·rw [r.2.2.2.1, hX]; simp
theorem rotate_s {A X Y Z : List Due} (h1 : 1 ≤ X.length) (h2 : 1 ≤ Y.length) (hs : A.length + X.length + Y.length + Z.length ≤ 1000000) {a m b : Int} (ha : a = A.length) (hm : m = A.length + X.length) (hb : b = A.length + X.length + Y.length) :
  slices_rotateCmpFunc_kernel_result__m (A ++ (X ++ (Y ++ Z))) a m b = some (A ++ (Y ++ (X ++ Z))) := by
 obtain ⟨A', X', Y', Z', k, e, r1, r2, r3, r4, r5⟩ := rot_loop m (X.length + Y.length) A X Y Z (Nat.le_refl _) h1 h2 (by omega) hs
 unfold slices_rotateCmpFunc_kernel_result__m
 have sw := swapRange_s (a := m - k) (b := m) (X := X') (Y := Y') (A := A') (B := []) (Z := Z') (by omega) (by omega) (by simp; omega) (by simp; omega) (n := (k : Int)) (by omega)
 rw [ck_IR (by omega) (by omega), ck_IR (by omega) (by omega), show m - a = (X.length : Int) from by omega, show b - m = (Y.length : Int) from by omega, e, bd_ret, Out.on_go]
 simp only
 rw [ck_IR (by omega) (by omega), show A' ++ (X' ++ (Y' ++ Z')) = A' ++ (X' ++ ([] ++ (Y' ++ Z'))) from rfl, sw, bd_ret, ← r4]
 rfl
def In9 (d : Due) : Prop := 0 ≤ d.due ∧ d.due ≤ 1000000000
theorem cmp_b {x y : Due} (hx : In9 x) (hy : In9 y) : kernel_machine_land_c1_m x y = some (x.due - y.due) := by
 obtain ⟨_, _⟩ := hx
 obtain ⟨_, _⟩ := hy
 unfold kernel_machine_land_c1_m
 rw [ck_IR (by omega) (by omega)]
theorem srt_app {a b : List Due} : SrtD (a ++ b) ↔ SrtD a ∧ SrtD b ∧ ∀ x ∈ a, ∀ y ∈ b, x.due ≤ y.due := List.pairwise_append
theorem srt_cons {x : Due} {b : List Due} : SrtD (x :: b) ↔ (∀ y ∈ b, x.due ≤ y.due) ∧ SrtD b := List.pairwise_cons
theorem srt_nil : SrtD [] := List.Pairwise.nil
theorem ln_upd {l : List Due} {i : Int} {z : Due} : ln (upd l i z) = ln l := by unfold ln; rw [upd_length]
theorem ins_loop (A : List Due) (x : Due) (hx : In9 x) : ∀ (n : Nat) (P W : List Due), P.length = n → (∀ d ∈ P, In9 d) → SrtD P → A.length + P.length + 1 + W.length ≤ 1000000 →
  ∃ P1 P2, P = P1 ++ P2 ∧ (∀ d ∈ P2, x.due < d.due) ∧ (∀ d ∈ P1, d.due ≤ x.due) ∧ lp (slices_insertionSortCmpFunc_kernel_result__L2 (A.length : Int)) (A ++ (P ++ (x :: W)), ((A.length + P.length : Nat) : Int)) = some (.go (A ++ (P1 ++ (x :: (P2 ++ W))), ((A.length + P1.length : Nat) : Int)))
 | 0, P, W, hn, _, _, hs => by
  obtain rfl := List.eq_nil_of_length_eq_zero hn
  refine ⟨[], [], rfl, fun d hd => (by cases hd), fun d hd => (by cases hd), lp_brk ?_⟩
  unfold slices_insertionSortCmpFunc_kernel_result__L2
  simp only
  rw [show decide ((((A.length + ([] : List Due).length : Nat)) : Int) > (A.length : Int)) = false from by simp]
  rw [ck_imp (fun h => by cases h), ck_imp (fun h => by cases h), ck_imp (fun h => by cases h), bdG_f]
  rfl
 | n + 1, P, W, hn, hb, hP, hs => by
  obtain ⟨L, y, rfl⟩ : ∃ L y, P = L ++ [y] := by
   rcases List.eq_nil_or_concat P with rfl | ⟨L, y, rfl⟩
   ·cases hn
   ·exact ⟨L, y, by simp⟩
  have hll : (L ++ [y]).length = L.length + 1 := by simp
  rw [hll] at hn hs
  obtain ⟨p1, p2, p3⟩ := srt_app.1 hP
  have hy := hb y (by simp)
  have e1 : A ++ ((L ++ [y]) ++ (x :: W)) = (A ++ L) ++ y :: (x :: W) := by simp
  have e2 : A ++ ((L ++ [y]) ++ (x :: W)) = (A ++ (L ++ [y])) ++ x :: W := by simp
  have q1 : ele (A ++ ((L ++ [y]) ++ (x :: W))) ((A.length + (L ++ [y]).length : Nat) : Int) = x := by rw [e2]; exact ele_mid (congrArg Nat.cast List.length_append.symm)
  have q2 : ele (A ++ ((L ++ [y]) ++ (x :: W))) (((A.length + (L ++ [y]).length : Nat) : Int) - 1) = y := by rw [e1]; exact ele_mid (by simp only [List.length_append, List.length_singleton]; omega)
  have hln : ln (A ++ ((L ++ [y]) ++ (x :: W))) = ((A.length + (L.length + 1) + (W.length + 1) : Nat) : Int) := by unfold ln; simp only [List.length_append, List.length_cons, List.length_singleton]; simp; omega
  by_cases c : x.due < y.due
  ·obtain ⟨P1, P2, h1, h2, h3, h4⟩ := ins_loop A x hx n L (y :: W) (by omega) (fun d hd => hb d (by simp [hd])) p1 (by simp only [List.length_cons]; omega)
   refine ⟨P1, P2 ++ [y], by rw [h1]; simp, fun d hd => ?_, h3, ?_⟩
   ·rcases List.mem_append.1 hd with hd | hd
    ·exact h2 d hd
    ·rw [List.mem_singleton.1 hd]; exact c
   ·refine lp_step (g' := (A ++ (L ++ (x :: (y :: W))), ((A.length + L.length : Nat) : Int))) ?_ ?_
    ·unfold slices_insertionSortCmpFunc_kernel_result__L2
     simp only
     rw [show decide (((A.length + (L ++ [y]).length : Nat) : Int) > (A.length : Int)) = true from decide_eq_true (by rw [hll]; omega)]
     rw [ck_imp (fun _ => ⟨by omega, by rw [hln, hll]; omega⟩), ck_imp (fun _ => ⟨by rw [hll]; omega, by rw [hll]; omega⟩), ck_imp (fun _ => ⟨by rw [hll]; omega, by rw [hln, hll]; omega⟩), bdG_t, q1, q2, cmp_b hx hy, bd_ret, Bool.true_and, br_T (by omega), ck_IR (by rw [hll]; omega) (by rw [hll]; omega), ck_IR (by rw [hll]; omega) (by rw [hll]; omega),
      ck_IX (by rw [hll]; omega) (by rw [hln, hll]; omega), ck_IX (by omega) (by rw [hln, hll]; omega), ck_IX (by omega) (by rw [hln, hll]; omega), ln_upd, ck_IX (by rw [hll]; omega) (by rw [hln, hll]; omega), ck_IR (by rw [hll]; omega) (by rw [hll]; omega)]
     rw [e2, upd_mid (congrArg Nat.cast List.length_append.symm), show (A ++ (L ++ [y])) ++ y :: W = (A ++ L) ++ y :: (y :: W) from by simp, upd_mid (by simp only [List.length_append, List.length_singleton]; omega), hll]
     rw [show ((A.length + (L.length + 1) : Nat) : Int) - 1 = ((A.length + L.length : Nat) : Int) from by omega, List.append_assoc]
    ·rw [h4]; simp
  ·refine ⟨L ++ [y], [], by simp, fun d hd => (by cases hd), fun d hd => ?_, ?_⟩
   ·rcases List.mem_append.1 hd with hd | hd
    ·have := p3 d hd y (by simp); omega
    ·rw [List.mem_singleton.1 hd]; omega
   ·refine lp_brk ?_
    unfold slices_insertionSortCmpFunc_kernel_result__L2
    simp only
    rw [show decide (((A.length + (L ++ [y]).length : Nat) : Int) > (A.length : Int)) = true from decide_eq_true (by rw [hll]; omega)]
    rw [ck_imp (fun _ => ⟨by omega, by rw [hln, hll]; omega⟩), ck_imp (fun _ => ⟨by rw [hll]; omega, by rw [hll]; omega⟩), ck_imp (fun _ => ⟨by rw [hll]; omega, by rw [hln, hll]; omega⟩), bdG_t, q1, q2, cmp_b hx hy, bd_ret, Bool.true_and, br_F (by omega)]
    rfl
theorem ins_outer (A Z : List Due) {b : Int} : ∀ (W S : List Due), (∀ d ∈ S ++ W, In9 d) → SrtD S → (A.length : Int) + S.length + W.length = b → A.length + S.length + W.length + Z.length ≤ 1000000 →
  ∃ S', SrtD S' ∧ Stb (S ++ W) S' ∧ lp (slices_insertionSortCmpFunc_kernel_result__L0 (A.length : Int) b) (A ++ (S ++ (W ++ Z)), ((A.length + S.length : Nat) : Int)) = some (.go (A ++ (S' ++ Z), b))
 | [], S, _, hS, hb, _ => by
  refine ⟨S, hS, by rw [List.append_nil]; exact Stb.rfl' S, ?_⟩
  simp only [List.length_nil] at hb
  rw [show ((A.length + S.length : Nat) : Int) = b from by omega]
  refine lp_brk ?_
  unfold slices_insertionSortCmpFunc_kernel_result__L0
  exact br_F (by omega)
 | x :: W, S, hi, hS, hb, hs => by
  simp only [List.length_cons] at hb hs
  obtain ⟨P1, P2, h1, h2, h3, h4⟩ := ins_loop A x (hi x (by simp)) S.length S (W ++ Z) rfl (fun d hd => hi d (by simp [hd])) hS (by rw [List.length_append]; omega)
  have hl : S.length = P1.length + P2.length := by rw [h1, List.length_append]
  have hS2 := hS
  rw [h1] at hS2
  obtain ⟨s1, s2, s3⟩ := srt_app.1 hS2
  obtain ⟨S', k1, k2, k3⟩ := ins_outer A Z (b := b) W (P1 ++ x :: P2) (fun d hd => hi d (by rw [h1]; simp at hd ⊢; rcases hd with h | h | h | h <;> simp [h])) (srt_app.2 ⟨s1, srt_cons.2 ⟨fun d hd => by have := h2 d hd; omega, s2⟩, fun p hp q hq => by
   rcases List.mem_cons.1 hq with rfl | hq
   ·exact h3 p hp
   ·exact s3 p hp q hq⟩) (by simp only [List.length_append, List.length_cons]; omega) (by simp only [List.length_append, List.length_cons]; omega)
  refine ⟨S', k1, ?_, ?_⟩
  ·refine Stb.trans ?_ k2
   rw [h1, show (P1 ++ P2) ++ x :: W = P1 ++ ((P2 ++ [x]) ++ W) from by simp, show (P1 ++ x :: P2) ++ W = P1 ++ (([x] ++ P2) ++ W) from by simp]
   exact Stb.app (Stb.rfl' _) (Stb.app (Stb.swap fun a ha b hb => by rw [List.mem_singleton.1 hb]; exact h2 a ha) (Stb.rfl' _))
  ·refine lp_step (g' := (A ++ ((P1 ++ x :: P2) ++ (W ++ Z)), ((A.length + (P1 ++ x :: P2).length : Nat) : Int))) ?_ k3
   unfold slices_insertionSortCmpFunc_kernel_result__L0
   simp only
   rw [br_T (by omega), show A ++ (S ++ (x :: W ++ Z)) = A ++ (S ++ (x :: (W ++ Z))) from by simp, h4, bd_ret, Out.on_go]
   simp only
   rw [ck_IR (by omega) (by omega)]
   rw [show A ++ (P1 ++ x :: (P2 ++ (W ++ Z))) = A ++ ((P1 ++ x :: P2) ++ (W ++ Z)) from by simp, show ((A.length + S.length : Nat) : Int) + 1 = ((A.length + (P1 ++ x :: P2).length : Nat) : Int) from by simp only [List.length_append, List.length_cons]; omega]
theorem insertion_s {A S Z : List Due} (hi : ∀ d ∈ S, In9 d) (h1 : 1 ≤ S.length) (hs : A.length + S.length + Z.length ≤ 1000000) {a b : Int} (ha : a = A.length) (hb : b = A.length + S.length) :
  ∃ S', SrtD S' ∧ Stb S S' ∧ slices_insertionSortCmpFunc_kernel_result__m (A ++ (S ++ Z)) a b = some (A ++ (S' ++ Z)) := by
 cases S with
 | nil => simp at h1
 | cons x W =>
  simp only [List.length_cons] at hb hs
  obtain ⟨S', k1, k2, k3⟩ := ins_outer A Z (b := b) W [x] hi (srt_cons.2 ⟨fun y hy => (by cases hy), srt_nil⟩) (by simp only [List.length_singleton]; omega) (by simp only [List.length_singleton]; omega)
  refine ⟨S', k1, k2, ?_⟩
  unfold slices_insertionSortCmpFunc_kernel_result__m
  rw [ck_IR (by omega) (by omega), ha, show A ++ (x :: W ++ Z) = A ++ ([x] ++ (W ++ Z)) from by simp, show (A.length : Int) + 1 = ((A.length + [x].length : Nat) : Int) from by simp, k3, bd_ret, Out.on_go]
theorem insertion_0 {D : List Due} {a b : Int} (h : b ≤ a + 1) (h0 : 0 ≤ a) (h1 : a ≤ 1000000) : slices_insertionSortCmpFunc_kernel_result__m D a b = some D := by
 unfold slices_insertionSortCmpFunc_kernel_result__m
 rw [ck_IR (by omega) (by omega), show lp (slices_insertionSortCmpFunc_kernel_result__L0 a b) (D, a + 1) = some (.go (D, a + 1)) from lp_brk (by unfold slices_insertionSortCmpFunc_kernel_result__L0; exact br_F (by omega)), bd_ret, Out.on_go]
theorem half_s {n : Int} (h0 : 0 ≤ n) (h1 : n ≤ 10000000) : IntKind.i64.wrap (shrD (IntKind.u64.wrap n) 1) = n / 2 := by
 have e1 : IntKind.u64.wrap n = n := by
  show n % (2 ^ 64 : Int) = n
  exact Int.emod_eq_of_lt h0 (by omega)
 have e2 : shrD n 1 = n / 2 := by
  unfold shrD
  show Int.fdiv n (2 ^ (min (1 : Int).toNat 64)) = n / 2
  rw [show (2 : Int) ^ (min (1 : Int).toNat 64) = 2 from rfl, Int.fdiv_eq_ediv_of_nonneg _ (by omega)]
 rw [e1, e2]
 exact wrap_i64 (by omega) (by omega)
theorem bsearch {ρ : Type} {f : Int × Int → Option (Stp (Int × Int) ρ)} (P : Nat → Prop) {lo hi : Nat} (mono : ∀ x y, lo ≤ x → x ≤ y → y < hi → P y → P x)
  (step : ∀ i j : Nat, lo ≤ i → i < j → j ≤ hi → (P ((i + j) / 2) → f ((i : Int), (j : Int)) = some (.next (((((i + j) / 2 : Nat) : Int) + 1), (j : Int)))) ∧ (¬ P ((i + j) / 2) → f ((i : Int), (j : Int)) = some (.next ((i : Int), (((i + j) / 2 : Nat) : Int)))))
  (hend : ∀ i : Nat, f ((i : Int), (i : Int)) = some (.brk ((i : Int), (i : Int)))) : ∀ (s i j : Nat), j - i ≤ s → lo ≤ i → i ≤ j → j ≤ hi → (∀ x, lo ≤ x → x < i → P x) → (∀ x, j ≤ x → x < hi → ¬ P x) →
  ∃ k : Nat, i ≤ k ∧ k ≤ j ∧ (∀ x, lo ≤ x → x < k → P x) ∧ (∀ x, k ≤ x → x < hi → ¬ P x) ∧ lp f ((i : Int), (j : Int)) = some (.go ((k : Int), (k : Int)))
 | 0, i, j, h, h1, h2, h3, h4, h5 => by
  obtain rfl : i = j := by omega
  exact ⟨i, by omega, by omega, h4, h5, lp_brk (hend i)⟩
 | s + 1, i, j, h, h1, h2, h3, h4, h5 => by
  by_cases e : i = j
  ·subst e
   exact ⟨i, by omega, by omega, h4, h5, lp_brk (hend i)⟩
  ·have hij : i < j := by omega
   obtain ⟨s1, s2⟩ := step i j h1 hij h3
   by_cases c : P ((i + j) / 2)
   ·obtain ⟨k, k1, k2, k3, k4, k5⟩ := bsearch P mono step hend s ((i + j) / 2 + 1) j (by omega) (by omega) (by omega) h3 (fun x hx hlt => mono x _ hx (by omega) (by omega) c) h5
    exact ⟨k, by omega, k2, k3, k4, lp_step (s1 c) k5⟩
   ·obtain ⟨k, k1, k2, k3, k4, k5⟩ := bsearch P mono step hend s i ((i + j) / 2) (by omega) h1 (by omega) (by omega) h4 (fun x hx hlt hp => c (mono _ x (by omega) hx hlt hp))
    exact ⟨k, k1, by omega, k3, k4, lp_step (s2 c) k5⟩
theorem ele_app_l {P W : List Due} {i : Nat} (h : i < P.length) : ele (P ++ W) (i : Int) = ele P (i : Int) := by
 rw [ele_nat, ele_nat, List.getD_eq_getElem?_getD, List.getD_eq_getElem?_getD, List.getElem?_append_left h]
theorem ele_app_r {P W : List Due} {i : Nat} : ele (P ++ W) ((P.length + i : Nat) : Int) = ele W (i : Int) := by
 rw [ele_nat, ele_nat, List.getD_eq_getElem?_getD, List.getD_eq_getElem?_getD, List.getElem?_append_right (by omega), Nat.add_sub_cancel_left]
theorem srt_at {l : List Due} (h : SrtD l) {i j : Nat} (hij : i ≤ j) (hj : j < l.length) : (ele l (i : Int)).due ≤ (ele l (j : Int)).due := by
 rcases Nat.lt_or_ge i j with c | c
 ·have := List.pairwise_iff_getElem.1 h i j (by omega) hj c
  simpa [ele_nat, List.getD_eq_getElem?_getD, hj, show i < l.length from by omega] using this
 ·obtain rfl : i = j := by omega
  exact Int.le_refl _
theorem memT {l : List Due} {n : Nat} {d : Due} (h : d ∈ l.take n) : ∃ i : Nat, i < n ∧ i < l.length ∧ ele l (i : Int) = d := by
 obtain ⟨i, hi, rfl⟩ := List.getElem_of_mem h
 rw [List.length_take] at hi
 exact ⟨i, by omega, by omega, by rw [List.getElem_take, ele_nat, List.getD_eq_getElem?_getD, List.getElem?_eq_getElem (by omega)]; rfl⟩
theorem memD {l : List Due} {n : Nat} {d : Due} (h : d ∈ l.drop n) : ∃ i : Nat, n ≤ i ∧ i < l.length ∧ ele l (i : Int) = d := by
 obtain ⟨i, hi, rfl⟩ := List.getElem_of_mem h
 rw [List.length_drop] at hi
 exact ⟨n + i, by omega, by omega, by rw [List.getElem_drop, ele_nat, List.getD_eq_getElem?_getD, List.getElem?_eq_getElem (by omega)]; rfl⟩
theorem shiftR (x : Due) {i : Int} : ∀ (R A W : List Due), i - 1 = (A.length : Int) + R.length → A.length + 1 + R.length + W.length ≤ 1000000 →
  lp (slices_symMergeCmpFunc_kernel_result__L2 i) (A ++ x :: (R ++ W), (A.length : Int)) = some (.go (A ++ (R ++ x :: W), ((A.length + R.length : Nat) : Int)))
 | [], A, W, h, hs => by
  simp only [List.length_nil] at h hs
  refine lp_brk ?_
  unfold slices_symMergeCmpFunc_kernel_result__L2
  simp only
  rw [ck_IR (by omega) (by omega)]
  exact br_F (by omega)
 | y :: R, A, W, h, hs => by
  simp only [List.length_cons] at h hs
  have ih := shiftR x (i := i) R (A ++ [y]) W (by rw [List.length_append, List.length_singleton]; omega) (by rw [List.length_append, List.length_singleton]; omega)
  have e1 : A ++ x :: (y :: R ++ W) = (A ++ [x]) ++ y :: (R ++ W) := by simp
  have hln : ln (A ++ x :: (y :: R ++ W)) = ((A.length + 2 + R.length + W.length : Nat) : Int) := by unfold ln; simp only [List.length_append, List.length_cons]; omega
  have q1 : ele (A ++ x :: (y :: R ++ W)) (A.length : Int) = x := ele_mid rfl
  have q2 : ele (A ++ x :: (y :: R ++ W)) ((A.length : Int) + 1) = y := by rw [e1]; exact ele_mid (by simp)
  refine lp_step (g' := ((A ++ [y]) ++ x :: (R ++ W), ((A ++ [y]).length : Int))) ?_ ?_
  ·unfold slices_symMergeCmpFunc_kernel_result__L2
   simp only
   rw [ck_IR (by omega) (by omega), br_T (by omega), ck_IR (by omega) (by omega), ck_IR (by omega) (by omega), ck_IX (by omega) (by rw [hln]; omega), ck_IX (by omega) (by rw [hln]; omega), ck_IX (by omega) (by rw [hln]; omega), ln_upd, ck_IX (by omega) (by rw [hln]; omega), ck_IR (by omega) (by omega), q1, q2, upd_mid rfl,
    show A ++ y :: (y :: R ++ W) = (A ++ [y]) ++ y :: (R ++ W) from by simp, upd_mid (by simp)]
   rw [show ((A ++ [y]).length : Int) = (A.length : Int) + 1 from by simp]
  ·rw [ih, show (A ++ [y]).length + R.length = A.length + (y :: R).length from by simp only [List.length_append, List.length_cons, List.length_nil]; omega]
   simp
theorem shiftL (y : Due) {i : Int} : ∀ (n : Nat) (A R W : List Due), R.length = n → i = (A.length : Int) → A.length + 1 + R.length + W.length ≤ 1000000 →
  lp (slices_symMergeCmpFunc_kernel_result__L6 i) (A ++ (R ++ y :: W), ((A.length + R.length : Nat) : Int)) = some (.go (A ++ y :: (R ++ W), (A.length : Int)))
 | 0, A, R, W, hn, h, hs => by
  obtain rfl := List.eq_nil_of_length_eq_zero hn
  refine lp_brk ?_
  unfold slices_symMergeCmpFunc_kernel_result__L6
  exact br_F (by simp; omega)
 | n + 1, A, R, W, hn, h, hs => by
  obtain ⟨L, x, rfl⟩ : ∃ L x, R = L ++ [x] := by
   rcases List.eq_nil_or_concat R with rfl | ⟨L, x, rfl⟩
   ·cases hn
   ·exact ⟨L, x, by simp⟩
  have hll : (L ++ [x]).length = L.length + 1 := by simp
  rw [hll] at hn hs
  have ih := shiftL y (i := i) n A L (x :: W) (by omega) h (by simp only [List.length_cons]; omega)
  have e1 : A ++ ((L ++ [x]) ++ y :: W) = (A ++ L) ++ x :: (y :: W) := by simp
  have e2 : A ++ ((L ++ [x]) ++ y :: W) = (A ++ (L ++ [x])) ++ y :: W := by simp
  have hln : ln (A ++ ((L ++ [x]) ++ y :: W)) = ((A.length + L.length + 2 + W.length : Nat) : Int) := by unfold ln; simp only [List.length_append, List.length_cons, List.length_nil]; omega
  have q1 : ele (A ++ ((L ++ [x]) ++ y :: W)) ((A.length + (L ++ [x]).length : Nat) : Int) = y := by rw [e2]; exact ele_mid (congrArg Nat.cast List.length_append.symm)
  have q2 : ele (A ++ ((L ++ [x]) ++ y :: W)) (((A.length + (L ++ [x]).length : Nat) : Int) - 1) = x := by rw [e1]; exact ele_mid (by rw [hll, List.length_append]; omega)
  refine lp_step (g' := (A ++ (L ++ y :: (x :: W)), ((A.length + L.length : Nat) : Int))) ?_ ?_
  ·unfold slices_symMergeCmpFunc_kernel_result__L6
   simp only
   rw [br_T (by rw [hll]; omega), ck_IR (by rw [hll]; omega) (by rw [hll]; omega), ck_IR (by rw [hll]; omega) (by rw [hll]; omega), ck_IX (by rw [hll]; omega) (by rw [hln, hll]; omega), ck_IX (by omega) (by rw [hln, hll]; omega), ck_IX (by omega) (by rw [hln, hll]; omega), ln_upd, ck_IX (by rw [hll]; omega) (by rw [hln, hll]; omega), ck_IR (by rw [hll]; omega) (by rw [hll]; omega), q1, q2,
    e2, upd_mid (congrArg Nat.cast List.length_append.symm), show (A ++ (L ++ [x])) ++ x :: W = (A ++ L) ++ x :: (x :: W) from by simp, upd_mid (by rw [hll, List.length_append]; omega), hll]
   rw [show ((A.length + (L.length + 1) : Nat) : Int) - 1 = ((A.length + L.length : Nat) : Int) from by omega, List.append_assoc]
  ·rw [ih]; simp
theorem app4 (a b c d : List Due) : (a ++ b) ++ (c ++ d) = a ++ ((b ++ c) ++ d) := by simp
theorem symMerge_s : ∀ (fl : Nat) (A L R Z : List Due), 1 ≤ L.length → 1 ≤ R.length → L.length + R.length ≤ 2 ^ fl → SrtD L → SrtD R → (∀ d ∈ L ++ R, In9 d) → A.length + L.length + R.length + Z.length ≤ 1000000 →
  ∃ S, SrtD S ∧ Stb (L ++ R) S ∧ slices_symMergeCmpFunc_kernel_result__m (fl + 1) (A ++ (L ++ (R ++ Z))) (A.length : Int) ((A.length + L.length : Nat) : Int) ((A.length + L.length + R.length : Nat) : Int) = some (A ++ (S ++ Z))
 | fl, A, L, R, Z, hL1, hR1, hfl, hL, hR, hi, hs => by
  have hiL : ∀ i : Nat, i < L.length → In9 (ele L (i : Int)) := fun i h => hi _ (List.mem_append.2 (.inl (ele_mem' h)))
  have hiR : ∀ i : Nat, i < R.length → In9 (ele R (i : Int)) := fun i h => hi _ (List.mem_append.2 (.inr (ele_mem' h)))
  generalize hD : A ++ (L ++ (R ++ Z)) = D
  have hln : ln D = ((A.length + L.length + R.length + Z.length : Nat) : Int) := by rw [← hD]; unfold ln; simp only [List.length_append]; omega
  have dL : ∀ i : Nat, i < L.length → ele D ((A.length + i : Nat) : Int) = ele L (i : Int) := fun i h => by rw [← hD, ele_app_r, ele_app_l h]
  have dR : ∀ i : Nat, i < R.length → ele D ((A.length + L.length + i : Nat) : Int) = ele R (i : Int) := fun i h => by rw [← hD, Nat.add_assoc, ele_app_r, ele_app_r, ele_app_l h]
  unfold slices_symMergeCmpFunc_kernel_result__m
  rw [ck_IR (by omega) (by omega)]
  by_cases c1 : L.length = 1
  ·skip
   obtain ⟨x, rfl⟩ := List.length_eq_one_iff.1 c1
   have hx : In9 x := hi x (by simp)
   have dx : ele D (A.length : Int) = x := dL 0 (by simp)
   obtain ⟨k, k1, k2, k3, k4, k5⟩ := bsearch (f := slices_symMergeCmpFunc_kernel_result__L0 D (A.length : Int)) (ρ := Empty) (fun h => (ele D (h : Int)).due < x.due) (lo := A.length + 1) (hi := A.length + 1 + R.length) (fun p q h1 h2 h3 h4 => by
     obtain ⟨p', rfl⟩ : ∃ p', p = A.length + 1 + p' := ⟨p - (A.length + 1), by omega⟩
     obtain ⟨q', rfl⟩ : ∃ q', q = A.length + 1 + q' := ⟨q - (A.length + 1), by omega⟩
     have e1 := dR p' (by omega); have e2 := dR q' (by omega)
     rw [c1] at e1 e2
     rw [e2] at h4
     rw [e1]
     have := srt_at hR (i := p') (j := q') (by omega) (by omega)
     omega) (fun i j h1 h2 h3 => by
     obtain ⟨t, ht⟩ : ∃ t, (i + j) / 2 = A.length + 1 + t := ⟨(i + j) / 2 - (A.length + 1), by omega⟩
     have e1 := dR t (by omega)
     rw [c1, ← ht] at e1
     have hy := hiR t (by omega)
     rw [← e1] at hy
     have hh : ((i : Int) + j) / 2 = (((i + j) / 2 : Nat) : Int) := by omega
     unfold slices_symMergeCmpFunc_kernel_result__L0
     simp only
     rw [br_T (by omega), ck_IR (by omega) (by omega), half_s (by omega) (by omega), hh, ck_IX (by omega) (by rw [hln]; omega), ck_IX (by omega) (by rw [hln]; omega), dx, cmp_b hy hx, bd_ret]
     exact ⟨fun h => by rw [br_T (by omega), ck_IR (by omega) (by omega)], fun h => by rw [br_F (by omega)]⟩) (fun i => by unfold slices_symMergeCmpFunc_kernel_result__L0; exact br_F (by omega)) (R.length) (A.length + 1) (A.length + 1 + R.length) (by omega) (by omega) (by omega) (by omega) (fun y h1 h2 => by omega) (fun y h1 h2 => by omega)
   obtain ⟨t, ht⟩ : ∃ t, k = A.length + 1 + t := ⟨k - (A.length + 1), by omega⟩
   have hRs : R = R.take t ++ R.drop t := (List.take_append_drop _ _).symm
   have hT : ∀ d ∈ R.take t, d.due < x.due := fun d hd => by
    obtain ⟨i, i1, i2, rfl⟩ := memT hd
    have := k3 (A.length + 1 + i) (by omega) (by omega)
    have e1 := dR i i2
    rw [c1] at e1
    rw [e1] at this
    exact this
   have hDr : ∀ d ∈ R.drop t, x.due ≤ d.due := fun d hd => by
    obtain ⟨i, i1, i2, rfl⟩ := memD hd
    have := k4 (A.length + 1 + i) (by omega) (by omega)
    have e1 := dR i i2
    rw [c1] at e1
    rw [e1] at this
    omega
   have htl : (R.take t).length = t := by rw [List.length_take]; omega
   have hR' := hR
   rw [hRs] at hR'
   obtain ⟨r1, r2, r3⟩ := srt_app.1 hR'
   refine ⟨R.take t ++ x :: R.drop t, srt_app.2 ⟨r1, srt_cons.2 ⟨hDr, r2⟩, fun p hp q hq => ?_⟩, ?_, ?_⟩
   ·have := hT p hp
    rcases List.mem_cons.1 hq with rfl | hq
    ·omega
    ·have := hDr q hq; omega
   ·conv => lhs; rw [hRs]
    rw [show [x] ++ (R.take t ++ R.drop t) = ([x] ++ R.take t) ++ R.drop t from by simp, show R.take t ++ x :: R.drop t = (R.take t ++ [x]) ++ R.drop t from by simp]
    exact Stb.app (Stb.swap fun a ha b hb => by rw [List.mem_singleton.1 ha]; exact hT b hb) (Stb.rfl' _)
   ·rw [show ((((A.length + [x].length : Nat)) : Int) - (A.length : Int) == 1) = true from by rw [c1]; simp; omega, br_true]
    rw [show ((A.length + [x].length : Nat) : Int) = ((A.length + 1 : Nat) : Int) from rfl, show ((A.length + [x].length + R.length : Nat) : Int) = ((A.length + 1 + R.length : Nat) : Int) from rfl, k5, bd_ret, Out.on_go]
    simp only
    have sh := shiftR x (i := (k : Int)) (R.take t) A (R.drop t ++ Z) (by rw [htl]; omega) (by rw [htl, List.length_append, List.length_drop]; simp only [List.length_singleton] at hs; omega)
    have hDe : D = A ++ x :: (R.take t ++ (R.drop t ++ Z)) := by
     rw [← hD, show R ++ Z = R.take t ++ (R.drop t ++ Z) from by rw [← List.append_assoc, List.take_append_drop]]; rfl
    rw [hDe, sh, bd_ret, Out.on_go]
    simp
  rw [show ((((A.length + L.length : Nat)) : Int) - (A.length : Int) == 1) = false from by simp; omega, br_false, ck_IR (by omega) (by omega)]
  by_cases c2 : R.length = 1
  ·skip
   obtain ⟨y, rfl⟩ := List.length_eq_one_iff.1 c2
   have hy : In9 y := hi y (by simp)
   have dy : ele D ((A.length + L.length : Nat) : Int) = y := dR 0 (by simp)
   obtain ⟨k, k1, k2, k3, k4, k5⟩ := bsearch (f := slices_symMergeCmpFunc_kernel_result__L4 D ((A.length + L.length : Nat) : Int)) (ρ := Empty) (fun h => (ele D (h : Int)).due ≤ y.due) (lo := A.length) (hi := A.length + L.length) (fun p q h1 h2 h3 h4 => by
     obtain ⟨p', rfl⟩ : ∃ p', p = A.length + p' := ⟨p - A.length, by omega⟩
     obtain ⟨q', rfl⟩ : ∃ q', q = A.length + q' := ⟨q - A.length, by omega⟩
     rw [dL q' (by omega)] at h4
     rw [dL p' (by omega)]
     have := srt_at hL (i := p') (j := q') (by omega) (by omega)
     omega) (fun i j h1 h2 h3 => by
     obtain ⟨t, ht⟩ : ∃ t, (i + j) / 2 = A.length + t := ⟨(i + j) / 2 - A.length, by omega⟩
     have e1 := dL t (by omega)
     rw [← ht] at e1
     have hx := hiL t (by omega)
     rw [← e1] at hx
     have hh : ((i : Int) + j) / 2 = (((i + j) / 2 : Nat) : Int) := by omega
     unfold slices_symMergeCmpFunc_kernel_result__L4
     simp only
     rw [br_T (by omega), ck_IR (by omega) (by omega), half_s (by omega) (by omega), hh, ck_IX (by omega) (by rw [hln]; omega), ck_IX (by omega) (by rw [hln]; omega), dy, cmp_b hy hx, bd_ret]
     exact ⟨fun h => by rw [decide_eq_false (by omega), Bool.not_false, br_true, ck_IR (by omega) (by omega)], fun h => by rw [decide_eq_true (by omega), Bool.not_true, br_false]⟩) (fun i => by unfold slices_symMergeCmpFunc_kernel_result__L4; exact br_F (by omega)) (L.length) A.length (A.length + L.length) (by omega) (by omega) (by omega) (by omega) (fun y h1 h2 => by omega) (fun y h1 h2 => by omega)
   obtain ⟨t, ht⟩ : ∃ t, k = A.length + t := ⟨k - A.length, by omega⟩
   have hLs : L = L.take t ++ L.drop t := (List.take_append_drop _ _).symm
   have hT : ∀ d ∈ L.take t, d.due ≤ y.due := fun d hd => by
    obtain ⟨i, i1, i2, rfl⟩ := memT hd
    have := k3 (A.length + i) (by omega) (by omega)
    rw [dL i i2] at this
    exact this
   have hDr : ∀ d ∈ L.drop t, y.due < d.due := fun d hd => by
    obtain ⟨i, i1, i2, rfl⟩ := memD hd
    have := k4 (A.length + i) (by omega) (by omega)
    rw [dL i i2] at this
    omega
   have htl : (L.take t).length = t := by rw [List.length_take]; omega
   have hL' := hL
   rw [hLs] at hL'
   obtain ⟨r1, r2, r3⟩ := srt_app.1 hL'
   refine ⟨L.take t ++ y :: L.drop t, srt_app.2 ⟨r1, srt_cons.2 ⟨fun d hd => by have := hDr d hd; omega, r2⟩, fun p hp q hq => ?_⟩, ?_, ?_⟩
   ·rcases List.mem_cons.1 hq with rfl | hq
    ·exact hT p hp
    ·exact r3 p hp q hq
   ·rw [show L ++ [y] = L.take t ++ (L.drop t ++ [y]) from by rw [← List.append_assoc, List.take_append_drop], show L.take t ++ y :: L.drop t = L.take t ++ ([y] ++ L.drop t) from by simp]
    exact Stb.app (Stb.rfl' _) (Stb.swap fun a ha b hb => by rw [List.mem_singleton.1 hb]; exact hDr a ha)
   ·rw [show ((((A.length + L.length + [y].length : Nat)) : Int) - ((A.length + L.length : Nat) : Int) == 1) = true from by rw [c2]; simp; omega, br_true, k5, bd_ret, Out.on_go]
    simp only
    have hdl : (L.drop t).length = L.length - t := List.length_drop
    have sh := shiftL y (i := (k : Int)) (L.length - t) (A ++ L.take t) (L.drop t) Z hdl (by rw [List.length_append, htl]; omega) (by rw [List.length_append, htl, hdl]; simp only [List.length_singleton] at hs; omega)
    have hDe : D = (A ++ L.take t) ++ (L.drop t ++ y :: Z) := by
     rw [← hD, show L ++ ([y] ++ Z) = L.take t ++ (L.drop t ++ ([y] ++ Z)) from by rw [← List.append_assoc (L.take t), List.take_append_drop], List.append_assoc]; rfl
    rw [hDe, show ((A.length + L.length : Nat) : Int) = (((A ++ L.take t).length + (L.drop t).length : Nat) : Int) from by rw [List.length_append, htl, hdl]; omega, sh, bd_ret, Out.on_go]
    simp
  rw [show ((((A.length + L.length + R.length : Nat)) : Int) - ((A.length + L.length : Nat) : Int) == 1) = false from by simp; omega, br_false, ck_IR (by omega) (by omega)]
  -- halves
  obtain ⟨M, hM⟩ : ∃ M : Nat, M = (A.length + (A.length + L.length + R.length)) / 2 := ⟨_, rfl⟩
  have hmid : IntKind.i64.wrap (shrD (IntKind.u64.wrap ((A.length : Int) + ((A.length + L.length + R.length : Nat) : Int))) 1) = (M : Int) := by rw [half_s (by omega) (by omega)]; omega
  rw [hmid, ck_IR (by omega) (by omega)]
  obtain ⟨s0, r0, hgo, g1, g2, g3, g4, g5, g6, g7⟩ : ∃ s0 r0 : Nat, (br (decide (((A.length + L.length : Nat) : Int) > (M : Int))) (ck (IR ((M : Int) + ((A.length + L.length : Nat) : Int) - ((A.length + L.length + R.length : Nat) : Int))) (some (Out.go ((M : Int) + ((A.length + L.length : Nat) : Int) - ((A.length + L.length + R.length : Nat) : Int), (M : Int)) : Out (Int × Int) Empty))) (some (.go ((A.length : Int), ((A.length + L.length : Nat) : Int)))) = some (.go ((s0 : Int), (r0 : Int)))) ∧ A.length ≤ s0 ∧ s0 ≤ r0 ∧ r0 ≤ M ∧ r0 ≤ A.length + L.length ∧ (s0 = A.length ∨ s0 + (A.length + L.length + R.length) = M + (A.length + L.length)) ∧ (r0 = M ∨ r0 = A.length + L.length) ∧ M + (A.length + L.length) ≤ s0 + (A.length + L.length + R.length) := by
   by_cases c : ((A.length + L.length : Nat) : Int) > (M : Int)
   ·refine ⟨M + (A.length + L.length) - (A.length + L.length + R.length), M, ?_, by omega, by omega, by omega, by omega, by omega, by omega, by omega⟩
    rw [br_T c, ck_IR (by omega) (by omega), show (M : Int) + ((A.length + L.length : Nat) : Int) - ((A.length + L.length + R.length : Nat) : Int) = ((M + (A.length + L.length) - (A.length + L.length + R.length) : Nat) : Int) from by omega]
   ·exact ⟨A.length, A.length + L.length, br_F c, by omega, by omega, by omega, by omega, by omega, by omega, by omega⟩
  rw [hgo, bd_ret, Out.on_go]
  simp only
  rw [ck_IR (by omega) (by omega)]
  obtain ⟨k, k1, k2, k3, k4, k5⟩ := bsearch (f := slices_symMergeCmpFunc_kernel_result__L8 D (A.length : Int) ((A.length + L.length : Nat) : Int) ((A.length + L.length + R.length : Nat) : Int)) (ρ := Empty) (fun h => (ele D (h : Int)).due ≤ (ele D ((M + (A.length + L.length) - 1 - h : Nat) : Int)).due) (lo := s0) (hi := r0) (fun p q h1 h2 h3 h4 => by
    obtain ⟨p', hp'⟩ : ∃ p', p = A.length + p' := ⟨p - A.length, by omega⟩
    obtain ⟨q', hq'⟩ : ∃ q', q = A.length + q' := ⟨q - A.length, by omega⟩
    rw [show M + (A.length + L.length) - 1 - q = A.length + L.length + (M - 1 - q) from by omega, dR _ (by omega), hq', dL q' (by omega)] at h4
    rw [show M + (A.length + L.length) - 1 - p = A.length + L.length + (M - 1 - p) from by omega, dR _ (by omega), hp', dL p' (by omega)]
    have e1 := srt_at hL (i := p') (j := q') (by omega) (by omega)
    have e2 := srt_at hR (i := M - 1 - q) (j := M - 1 - p) (by omega) (by omega)
    rw [hq', hp'] at e2
    omega) (fun i j h1 h2 h3 => by
    obtain ⟨t, ht⟩ : ∃ t, (i + j) / 2 = A.length + t := ⟨(i + j) / 2 - A.length, by omega⟩
    have e1 := dL t (by omega)
    rw [← ht] at e1
    have hx := hiL t (by omega)
    rw [← e1] at hx
    have e2 := dR (M - 1 - (i + j) / 2) (by omega)
    rw [show A.length + L.length + (M - 1 - (i + j) / 2) = M + (A.length + L.length) - 1 - (i + j) / 2 from by omega] at e2
    have hy := hiR (M - 1 - (i + j) / 2) (by omega)
    rw [← e2] at hy
    have hh : ((i : Int) + j) / 2 = (((i + j) / 2 : Nat) : Int) := by omega
    unfold slices_symMergeCmpFunc_kernel_result__L8
    simp only
    rw [br_T (by omega), ck_IR (by omega) (by omega), hmid, half_s (n := (i : Int) + (j : Int)) (by omega) (by omega), hh, show (M : Int) + ((A.length + L.length : Nat) : Int) - 1 - (((i + j) / 2 : Nat) : Int) = ((M + (A.length + L.length) - 1 - (i + j) / 2 : Nat) : Int) from by omega, ck_IR (by omega) (by omega), ck_IX (by omega) (by rw [hln]; omega), ck_IX (by omega) (by rw [hln]; omega), cmp_b hy hx, bd_ret]
    exact ⟨fun h => by rw [decide_eq_false (by omega), Bool.not_false, br_true, ck_IR (by omega) (by omega)], fun h => by rw [decide_eq_true (by omega), Bool.not_true, br_false]⟩) (fun i => by unfold slices_symMergeCmpFunc_kernel_result__L8; exact br_F (by omega)) (r0 - s0) s0 r0 (by omega) (by omega) (by omega) (by omega) (fun y h1 h2 => by omega) (fun y h1 h2 => by omega)
  rw [k5, bd_ret, Out.on_go]
  simp only
  have hend : (M : Int) + ((A.length + L.length : Nat) : Int) - (k : Int) = ((A.length + L.length + (M - k) : Nat) : Int) := by omega
  rw [hend, ck_IR (by omega) (by omega)]
  obtain ⟨t, ht⟩ : ∃ t, k = A.length + t := ⟨k - A.length, by omega⟩
  obtain ⟨u, hu⟩ : ∃ u, u = M - k := ⟨_, rfl⟩
  rw [← hu]
  have hLs : L = L.take t ++ L.drop t := (List.take_append_drop _ _).symm
  have hRs : R = R.take u ++ R.drop u := (List.take_append_drop _ _).symm
  have l1 : (L.take t).length = t := by rw [List.length_take]; omega
  have l2 : (L.drop t).length = L.length - t := List.length_drop
  have l3 : (R.take u).length = u := by rw [List.length_take]; omega
  have l4 : (R.drop u).length = R.length - u := List.length_drop
  have q1 : ∀ x ∈ L.drop t, ∀ y ∈ R.take u, y.due < x.due := fun x hx y hy => by
   obtain ⟨i, i1, i2, rfl⟩ := memD hx
   obtain ⟨j, j1, j2, rfl⟩ := memT hy
   have := k4 k (by omega) (by omega)
   rw [show M + (A.length + L.length) - 1 - k = A.length + L.length + (M - 1 - k) from by omega, dR _ (by omega), ht, dL t (by omega), ← ht] at this
   have e1 := srt_at hL (i := t) (j := i) (by omega) i2
   have e2 := srt_at hR (i := j) (j := M - 1 - k) (by omega) (by omega)
   omega
  have q2 : ∀ x ∈ L.take t, ∀ y ∈ R.drop u, x.due ≤ y.due := fun x hx y hy => by
   obtain ⟨i, i1, i2, rfl⟩ := memT hx
   obtain ⟨j, j1, j2, rfl⟩ := memD hy
   have := k3 (k - 1) (by omega) (by omega)
   rw [show M + (A.length + L.length) - 1 - (k - 1) = A.length + L.length + u from by omega, dR _ (by omega), show k - 1 = A.length + (t - 1) from by omega, dL _ (by omega)] at this
   have e1 := srt_at hL (i := i) (j := t - 1) (by omega) (by omega)
   have e2 := srt_at hR (i := u) (j := j) (by omega) j2
   omega
  have hL' := hL
  rw [hLs] at hL'
  obtain ⟨a1, a2, a3⟩ := srt_app.1 hL'
  have hR' := hR
  rw [hRs] at hR'
  obtain ⟨b1, b2, b3⟩ := srt_app.1 hR'
  have hDe : D = A ++ (L.take t ++ (L.drop t ++ (R.take u ++ (R.drop u ++ Z)))) := by
   have e1 : L ++ (R ++ Z) = L.take t ++ (L.drop t ++ (R ++ Z)) := by rw [← List.append_assoc (L.take t), List.take_append_drop]
   have e2 : R ++ Z = R.take u ++ (R.drop u ++ Z) := by rw [← List.append_assoc (R.take u), List.take_append_drop]
   rw [← hD, e1, e2]
  have hiL1 : ∀ d ∈ L.take t, In9 d := fun d hd => hi d (List.mem_append.2 (.inl (List.mem_of_mem_take hd)))
  have hiL2 : ∀ d ∈ L.drop t, In9 d := fun d hd => hi d (List.mem_append.2 (.inl (List.mem_of_mem_drop hd)))
  have hiR1 : ∀ d ∈ R.take u, In9 d := fun d hd => hi d (List.mem_append.2 (.inr (List.mem_of_mem_take hd)))
  have hiR2 : ∀ d ∈ R.drop u, In9 d := fun d hd => hi d (List.mem_append.2 (.inr (List.mem_of_mem_drop hd)))
  have hsum : Stb (L ++ R) ((L.take t ++ R.take u) ++ (L.drop t ++ R.drop u)) := by
   rw [show L ++ R = (L.take t ++ L.drop t) ++ (R.take u ++ R.drop u) from by rw [List.take_append_drop, List.take_append_drop]]
   rw [app4, app4 (L.take t) (R.take u) (L.drop t) (R.drop u)]
   exact Stb.app (Stb.rfl' _) (Stb.app (Stb.swap q1) (Stb.rfl' _))
  generalize L.take t = L1 at *
  generalize L.drop t = L2 at *
  generalize R.take u = R1 at *
  generalize R.drop u = R2 at *
  -- the two halves, each merged
  have pw : fl ≥ 1 := by
   rcases fl with _ | f
   ·simp at hfl; omega
   ·omega
  obtain ⟨f, rfl⟩ : ∃ f, fl = f + 1 := ⟨fl - 1, by omega⟩
  have hfl2 : L.length + R.length ≤ 2 * 2 ^ f := by rw [Nat.pow_succ] at hfl; omega
  have tail1 : ∃ S1, SrtD S1 ∧ Stb (L1 ++ R1) S1 ∧ ((decide ((A.length : Int) < (k : Int)) && decide ((k : Int) < (M : Int))) = true → slices_symMergeCmpFunc_kernel_result__m (f + 1) (A ++ (L1 ++ (R1 ++ (L2 ++ (R2 ++ Z))))) (A.length : Int) (k : Int) (M : Int) = some (A ++ (S1 ++ (L2 ++ (R2 ++ Z))))) ∧ ((decide ((A.length : Int) < (k : Int)) && decide ((k : Int) < (M : Int))) = false → S1 = L1 ++ R1) := by
   by_cases c : 1 ≤ L1.length ∧ 1 ≤ R1.length
   ·obtain ⟨S1, e1, e2, e3⟩ := symMerge_s f A L1 R1 (L2 ++ (R2 ++ Z)) c.1 c.2 (by omega) a1 b1 (fun d hd => (List.mem_append.1 hd).elim (hiL1 d) (hiR1 d)) (by rw [List.length_append, List.length_append]; omega)
    refine ⟨S1, e1, e2, fun _ => ?_, fun h => ?_⟩
    ·rw [show (k : Int) = ((A.length + L1.length : Nat) : Int) from by omega, show (M : Int) = ((A.length + L1.length + R1.length : Nat) : Int) from by omega]
     exact e3
    ·rw [Bool.and_eq_false_iff, decide_eq_false_iff_not, decide_eq_false_iff_not] at h
     omega
   ·refine ⟨L1 ++ R1, srt_app.2 ⟨a1, b1, fun x hx y hy => ?_⟩, Stb.rfl' _, fun h => ?_, fun _ => rfl⟩
    ·have := List.length_pos_of_mem hx
     have := List.length_pos_of_mem hy
     omega
    ·rw [Bool.and_eq_true, decide_eq_true_eq, decide_eq_true_eq] at h
     omega
  obtain ⟨S1, s1, s2, s3, s4⟩ := tail1
  have hS1 : S1.length = t + u := by rw [← s2.1, List.length_append, l1, l3]
  have tail2 : ∃ S2, SrtD S2 ∧ Stb (L2 ++ R2) S2 ∧ ((decide ((M : Int) < ((A.length + L.length + u : Nat) : Int)) && decide (((A.length + L.length + u : Nat) : Int) < ((A.length + L.length + R.length : Nat) : Int))) = true → slices_symMergeCmpFunc_kernel_result__m (f + 1) (A ++ (S1 ++ (L2 ++ (R2 ++ Z)))) (M : Int) ((A.length + L.length + u : Nat) : Int) ((A.length + L.length + R.length : Nat) : Int) = some (A ++ ((S1 ++ S2) ++ Z))) ∧ ((decide ((M : Int) < ((A.length + L.length + u : Nat) : Int)) && decide (((A.length + L.length + u : Nat) : Int) < ((A.length + L.length + R.length : Nat) : Int))) = false → S2 = L2 ++ R2) := by
   by_cases c : 1 ≤ L2.length ∧ 1 ≤ R2.length
   ·obtain ⟨S2, e1, e2, e3⟩ := symMerge_s f (A ++ S1) L2 R2 Z c.1 c.2 (by omega) a2 b2 (fun d hd => (List.mem_append.1 hd).elim (hiL2 d) (hiR2 d)) (by rw [List.length_append]; omega)
    refine ⟨S2, e1, e2, fun _ => ?_, fun h => ?_⟩
    ·rw [List.length_append] at e3
     rw [show (M : Int) = ((A.length + S1.length : Nat) : Int) from by omega, show ((A.length + L.length + u : Nat) : Int) = ((A.length + S1.length + L2.length : Nat) : Int) from by omega, show ((A.length + L.length + R.length : Nat) : Int) = ((A.length + S1.length + L2.length + R2.length : Nat) : Int) from by omega]
     rw [List.append_assoc] at e3
     rw [e3]; simp
    ·rw [Bool.and_eq_false_iff, decide_eq_false_iff_not, decide_eq_false_iff_not] at h
     omega
   ·refine ⟨L2 ++ R2, srt_app.2 ⟨a2, b2, fun x hx y hy => ?_⟩, Stb.rfl' _, fun h => ?_, fun _ => rfl⟩
    ·have := List.length_pos_of_mem hx
     have := List.length_pos_of_mem hy
     omega
    ·rw [Bool.and_eq_true, decide_eq_true_eq, decide_eq_true_eq] at h
     omega
  obtain ⟨S2, w1, w2, w3, w4⟩ := tail2
  refine ⟨S1 ++ S2, srt_app.2 ⟨s1, w1, fun x hx y hy => ?_⟩, hsum.trans (Stb.app s2 w2), ?_⟩
  ·rcases List.mem_append.1 (s2.mem.2 hx) with hx | hx <;> rcases List.mem_append.1 (w2.mem.2 hy) with hy | hy
   ·exact a3 x hx y hy
   ·exact q2 x hx y hy
   ·have := q1 y hy x hx; omega
   ·exact b3 x hx y hy
  -- what the two ways come to
  have tl : ∀ X, X = A ++ (L1 ++ (R1 ++ (L2 ++ (R2 ++ Z)))) → (br (decide ((A.length : Int) < (k : Int)) && decide ((k : Int) < (M : Int))) (bd (slices_symMergeCmpFunc_kernel_result__m (f + 1) X (A.length : Int) (k : Int) (M : Int)) fun x177 => br (decide ((M : Int) < ((A.length + L.length + u : Nat) : Int)) && decide (((A.length + L.length + u : Nat) : Int) < ((A.length + L.length + R.length : Nat) : Int))) (bd (slices_symMergeCmpFunc_kernel_result__m (f + 1) x177 (M : Int) ((A.length + L.length + u : Nat) : Int) ((A.length + L.length + R.length : Nat) : Int)) fun x183 => some x183) (some x177)) (br (decide ((M : Int) < ((A.length + L.length + u : Nat) : Int)) && decide (((A.length + L.length + u : Nat) : Int) < ((A.length + L.length + R.length : Nat) : Int))) (bd (slices_symMergeCmpFunc_kernel_result__m (f + 1) X (M : Int) ((A.length + L.length + u : Nat) : Int) ((A.length + L.length + R.length : Nat) : Int)) fun x191 => some x191) (some X))) = some (A ++ ((S1 ++ S2) ++ Z)) := fun X hX => by
   have hsecond : (br (decide ((M : Int) < ((A.length + L.length + u : Nat) : Int)) && decide (((A.length + L.length + u : Nat) : Int) < ((A.length + L.length + R.length : Nat) : Int))) (bd (slices_symMergeCmpFunc_kernel_result__m (f + 1) (A ++ (S1 ++ (L2 ++ (R2 ++ Z)))) (M : Int) ((A.length + L.length + u : Nat) : Int) ((A.length + L.length + R.length : Nat) : Int)) fun x183 => some x183) (some (A ++ (S1 ++ (L2 ++ (R2 ++ Z)))))) = some (A ++ ((S1 ++ S2) ++ Z)) := by
    cases hc : (decide ((M : Int) < ((A.length + L.length + u : Nat) : Int)) && decide (((A.length + L.length + u : Nat) : Int) < ((A.length + L.length + R.length : Nat) : Int))) with
    | true => rw [br_true, w3 hc, bd_ret]
    | false => rw [br_false, w4 hc]; simp
   cases hc : (decide ((A.length : Int) < (k : Int)) && decide ((k : Int) < (M : Int))) with
   | true => rw [br_true, hX, s3 hc, bd_ret]; exact hsecond
   | false =>
    rw [br_false, hX, show A ++ (L1 ++ (R1 ++ (L2 ++ (R2 ++ Z)))) = A ++ (S1 ++ (L2 ++ (R2 ++ Z))) from by rw [s4 hc, List.append_assoc]]
    exact hsecond
  by_cases c : 1 ≤ L2.length ∧ 1 ≤ R1.length
  ·rw [show (decide ((k : Int) < ((A.length + L.length : Nat) : Int)) && decide (((A.length + L.length : Nat) : Int) < ((A.length + L.length + u : Nat) : Int))) = true from by rw [Bool.and_eq_true, decide_eq_true_eq, decide_eq_true_eq]; omega, br_true]
   have rot := rotate_s (A := A ++ L1) (X := L2) (Y := R1) (Z := R2 ++ Z) c.1 c.2 (by rw [List.length_append, List.length_append]; omega) (a := (k : Int)) (m := ((A.length + L.length : Nat) : Int)) (b := ((A.length + L.length + u : Nat) : Int)) (by rw [List.length_append]; omega) (by rw [List.length_append]; omega) (by rw [List.length_append]; omega)
   rw [List.append_assoc, List.append_assoc] at rot
   rw [hDe, rot, bd_ret]
   exact tl _ rfl
  ·rw [show (decide ((k : Int) < ((A.length + L.length : Nat) : Int)) && decide (((A.length + L.length : Nat) : Int) < ((A.length + L.length + u : Nat) : Int))) = false from by rw [Bool.and_eq_false_iff, decide_eq_false_iff_not, decide_eq_false_iff_not]; omega, br_false]
   refine tl D ?_
   rw [hDe]
   by_cases c3 : L2 = []
   ·rw [c3]; simp
   ·have : R1 = [] := by
     have := List.length_pos_iff.2 c3
     exact List.eq_nil_of_length_eq_zero (by omega)
    rw [this]; simp
inductive BS (bs : Nat) : List Due → Prop
 | last (D : List Due) : D.length ≤ bs → SrtD D → BS bs D
 | cons (X Y : List Due) : X.length = bs → SrtD X → BS bs Y → BS bs (X ++ Y)
theorem BS.one {bs : Nat} {D : List Due} (h : BS bs D) (hl : D.length ≤ bs) (hb : 1 ≤ bs) : SrtD D := by
 cases h with
 | last _ _ h => exact h
 | cons X Y h1 h2 h3 =>
  rw [List.length_append] at hl
  obtain rfl := List.eq_nil_of_length_eq_zero (show Y.length = 0 by omega)
  rw [List.append_nil]; exact h2
theorem BS.two {bs : Nat} {D : List Due} (h : BS bs D) (hl : bs < D.length) : ∃ X Y, D = X ++ Y ∧ X.length = bs ∧ SrtD X ∧ BS bs Y := by
 cases h with
 | last _ h _ => omega
 | cons X Y h1 h2 h3 => exact ⟨X, Y, rfl, h1, h2, h3⟩
theorem blocks_s : ∀ (s : Nat) (A Y : List Due), Y.length ≤ s → (∀ d ∈ Y, In9 d) → A.length + Y.length ≤ 1000000 →
  ∃ D1 a1 b1 Y', lp (slices_stableCmpFunc_kernel_result__L0 ((A.length + Y.length : Nat) : Int)) (A ++ Y, (A.length : Int), ((A.length + 20 : Nat) : Int)) = some (.go (D1, a1, b1)) ∧ slices_insertionSortCmpFunc_kernel_result__m D1 a1 ((A.length + Y.length : Nat) : Int) = some (A ++ Y') ∧ BS 20 Y' ∧ Stb Y Y'
 | s, A, Y, hs, hi, hl => by
  by_cases c : 20 ≤ Y.length
  ·have hY : Y = Y.take 20 ++ Y.drop 20 := (List.take_append_drop _ _).symm
   have l1 : (Y.take 20).length = 20 := by rw [List.length_take]; omega
   have l2 : (Y.drop 20).length = Y.length - 20 := List.length_drop
   have hi1 : ∀ d ∈ Y.take 20, In9 d := fun d hd => hi d (List.mem_of_mem_take hd)
   have hi2 : ∀ d ∈ Y.drop 20, In9 d := fun d hd => hi d (List.mem_of_mem_drop hd)
   generalize Y.take 20 = X at *
   generalize Y.drop 20 = W at *
   obtain ⟨X', x1, x2, x3⟩ := insertion_s (A := A) (S := X) (Z := W) hi1 (by omega) (by omega) (a := (A.length : Int)) (b := ((A.length + 20 : Nat) : Int)) rfl (by omega)
   have hX' : X'.length = 20 := by rw [← x2.1]; exact l1
   cases s with
   | zero => omega
   | succ s =>
    obtain ⟨D1, a1, b1, W', e1, e2, e3, e4⟩ := blocks_s s (A ++ X') W (by omega) hi2 (by rw [List.length_append]; omega)
    have hn : ((A ++ X').length + W.length : Nat) = A.length + Y.length := by rw [List.length_append]; omega
    rw [hn] at e1 e2
    refine ⟨D1, a1, b1, X' ++ W', ?_, by rw [e2, List.append_assoc], BS.cons X' W' hX' x1 e3, by rw [hY]; exact Stb.app x2 e4⟩
    refine lp_step (g' := ((A ++ X') ++ W, ((A ++ X').length : Int), (((A ++ X').length + 20 : Nat) : Int))) ?_ e1
    unfold slices_stableCmpFunc_kernel_result__L0
    simp only
    rw [br_T (by omega), hY, x3, bd_ret, ck_IR (by omega) (by omega), List.append_assoc, List.length_append, hX']
    rfl
  ·have hbrk : slices_stableCmpFunc_kernel_result__L0 ((A.length + Y.length : Nat) : Int) (A ++ Y, (A.length : Int), ((A.length + 20 : Nat) : Int)) = some (.brk (A ++ Y, (A.length : Int), ((A.length + 20 : Nat) : Int))) := by
    unfold slices_stableCmpFunc_kernel_result__L0
    exact br_F (by omega)
   by_cases c1 : 1 ≤ Y.length
   ·obtain ⟨Y', x1, x2, x3⟩ := insertion_s (A := A) (S := Y) (Z := []) hi c1 (by simp only [List.length_nil]; omega) (a := (A.length : Int)) (b := ((A.length + Y.length : Nat) : Int)) rfl (by omega)
    rw [List.append_nil, List.append_nil] at x3
    exact ⟨_, _, _, Y', lp_brk hbrk, x3, BS.last Y' (by rw [← x2.1]; omega) x1, x2⟩
   ·obtain rfl := List.eq_nil_of_length_eq_zero (show Y.length = 0 by omega)
    exact ⟨_, _, _, [], lp_brk hbrk, insertion_0 (by simp only [List.length_nil]; omega) (by omega) (by omega), BS.last [] (by simp) srt_nil, Stb.rfl' _⟩
theorem pow63 : (2 : Nat) ^ 63 = 9223372036854775808 := by decide
theorem pass_s {bs : Nat} (hb : 1 ≤ bs) (hb2 : bs ≤ 1000000) : ∀ (s : Nat) (A Y : List Due), Y.length ≤ s → BS bs Y → (∀ d ∈ Y, In9 d) → A.length + Y.length ≤ 1000000 →
  ∃ D1 a1 b1 Y', lp (slices_stableCmpFunc_kernel_result__L4 ((A.length + Y.length : Nat) : Int) (bs : Int)) (A ++ Y, (A.length : Int), ((A.length + 2 * bs : Nat) : Int)) = some (.go (D1, a1, b1)) ∧ 0 ≤ a1 ∧ a1 ≤ 1000000 ∧ (br (decide (a1 + (bs : Int) < ((A.length + Y.length : Nat) : Int))) (slices_symMergeCmpFunc_kernel_result__m 64 D1 a1 (a1 + (bs : Int)) ((A.length + Y.length : Nat) : Int)) (some D1)) = some (A ++ Y') ∧ BS (2 * bs) Y' ∧ Stb Y Y'
 | s, A, Y, hs, hY, hi, hl => by
  by_cases c : 2 * bs ≤ Y.length
  ·obtain ⟨X1, Y1, rfl, h1, h2, h3⟩ := hY.two (by omega)
   rw [List.length_append] at hs hl c
   obtain ⟨X2, W, rfl, k1, k2, k3⟩ : ∃ X2 W, Y1 = X2 ++ W ∧ X2.length = bs ∧ SrtD X2 ∧ BS bs W := by
    by_cases e : bs < Y1.length
    ·exact h3.two e
    ·exact ⟨Y1, [], by simp, by omega, h3.one (by omega) hb, BS.last [] (by simp) srt_nil⟩
   rw [List.length_append] at hs hl
   obtain ⟨S, x1, x2, x3⟩ := symMerge_s 63 A X1 X2 W (by omega) (by omega) (by rw [pow63]; omega) h2 k2 (fun d hd => hi d (by rcases List.mem_append.1 hd with h | h <;> simp [h])) (by omega)
   have hS : S.length = 2 * bs := by rw [← x2.1, List.length_append]; omega
   cases s with
   | zero => omega
   | succ s =>
    obtain ⟨D1, a1, b1, W', e1, e2, e3, e4, e5, e6⟩ := pass_s hb hb2 s (A ++ S) W (by omega) k3 (fun d hd => hi d (by simp [hd])) (by rw [List.length_append]; omega)
    have hn : ((A ++ S).length + W.length : Nat) = A.length + (X1 ++ (X2 ++ W)).length := by rw [List.length_append, List.length_append, List.length_append]; omega
    rw [hn] at e1 e4
    refine ⟨D1, a1, b1, S ++ W', ?_, e2, e3, by rw [e4, List.append_assoc], BS.cons S W' hS x1 e5, by rw [← List.append_assoc]; exact Stb.app x2 e6⟩
    refine lp_step (g' := ((A ++ S) ++ W, ((A ++ S).length : Int), (((A ++ S).length + 2 * bs : Nat) : Int))) ?_ e1
    unfold slices_stableCmpFunc_kernel_result__L4
    simp only
    rw [br_T (by rw [List.length_append, List.length_append]; omega), ck_IR (by omega) (by omega), show (A.length : Int) + (bs : Int) = ((A.length + X1.length : Nat) : Int) from by omega, show ((A.length + 2 * bs : Nat) : Int) = ((A.length + X1.length + X2.length : Nat) : Int) from by omega, x3, bd_ret, ck_IR (by omega) (by omega), ck_IR (by omega) (by omega)]
    rw [List.append_assoc, List.length_append, hS, show ((A.length + X1.length + X2.length : Nat) : Int) = ((A.length + 2 * bs : Nat) : Int) from by omega, show ((A.length + 2 * bs : Nat) : Int) + 2 * (bs : Int) = ((A.length + 2 * bs + 2 * bs : Nat) : Int) from by omega]
  ·have hbrk : slices_stableCmpFunc_kernel_result__L4 ((A.length + Y.length : Nat) : Int) (bs : Int) (A ++ Y, (A.length : Int), ((A.length + 2 * bs : Nat) : Int)) = some (.brk (A ++ Y, (A.length : Int), ((A.length + 2 * bs : Nat) : Int))) := by
    unfold slices_stableCmpFunc_kernel_result__L4
    exact br_F (by omega)
   by_cases c1 : bs < Y.length
   ·obtain ⟨X1, Y1, rfl, h1, h2, h3⟩ := hY.two c1
    rw [List.length_append] at c c1 hl
    obtain ⟨S, x1, x2, x3⟩ := symMerge_s 63 A X1 Y1 [] (by omega) (by omega) (by rw [pow63]; omega) h2 (h3.one (by omega) hb) hi (by simp only [List.length_nil]; omega)
    refine ⟨_, _, _, S, lp_brk hbrk, by omega, by omega, ?_, BS.last S (by rw [← x2.1, List.length_append]; omega) x1, x2⟩
    rw [br_T (by rw [List.length_append]; omega), show (A.length : Int) + (bs : Int) = ((A.length + X1.length : Nat) : Int) from by omega, List.length_append, ← Nat.add_assoc]
    rw [List.append_nil, List.append_nil] at x3
    exact x3
   ·exact ⟨_, _, _, Y, lp_brk hbrk, by omega, by omega, br_F (by omega), BS.last Y (by omega) (hY.one (by omega) hb), Stb.rfl' _⟩
theorem merges_s : ∀ (s : Nat) (D : List Due) (bs : Nat), D.length ≤ bs + s → 1 ≤ bs → bs ≤ 1000000 → BS bs D → (∀ d ∈ D, In9 d) → D.length ≤ 400000 →
  ∃ S b, lp (slices_stableCmpFunc_kernel_result__L2 (D.length : Int)) (D, (bs : Int)) = some (.go (S, b)) ∧ SrtD S ∧ Stb D S
 | s, D, bs, hs, h1, h2, hD, hi, hl => by
  by_cases c : bs < D.length
  ·obtain ⟨D1, a1, b1, Y', e1, e2, e3, e4, e5, e6⟩ := pass_s h1 h2 D.length [] D (Nat.le_refl _) hD hi (by simp; omega)
   simp only [List.length_nil, Nat.zero_add, List.nil_append] at e1 e4
   cases s with
   | zero => omega
   | succ s =>
    obtain ⟨S, b, k1, k2, k3⟩ := merges_s s Y' (2 * bs) (by rw [← e6.1]; omega) (by omega) (by omega) e5 (fun d hd => hi d (e6.mem.2 hd)) (by rw [← e6.1]; exact hl)
    rw [← e6.1] at k1
    refine ⟨S, b, ?_, k2, e6.trans k3⟩
    refine lp_step (g' := (Y', ((2 * bs : Nat) : Int))) ?_ k1
    unfold slices_stableCmpFunc_kernel_result__L2
    simp only
    rw [br_T (by omega), ck_IR (by omega) (by omega), show lp (slices_stableCmpFunc_kernel_result__L4 (D.length : Int) (bs : Int)) (D, 0, 2 * (bs : Int)) = _ from e1, bd_ret, Out.on_go]
    simp only
    rw [ck_IR (by omega) (by omega)]
    by_cases c2 : a1 + (bs : Int) < (D.length : Int)
    ·rw [br_T c2] at e4 ⊢
     rw [e4, bd_ret, ck_IR (by omega) (by omega), show (bs : Int) * 2 = ((2 * bs : Nat) : Int) from by omega]
    ·rw [br_F c2] at e4 ⊢
     rw [ck_IR (by omega) (by omega), show (bs : Int) * 2 = ((2 * bs : Nat) : Int) from by omega]
     cases e4; rfl
  ·refine ⟨D, bs, lp_brk ?_, hD.one (by omega) h1, Stb.rfl' _⟩
   unfold slices_stableCmpFunc_kernel_result__L2
   exact br_F (by omega)
theorem sortStable_s {D : List Due} (hi : ∀ d ∈ D, In9 d) (hl : D.length ≤ 400000) : ∃ S, slices_SortStableFunc___kernel_result_kernel_result__m D = some S ∧ SrtD S ∧ Stb D S := by
 obtain ⟨D1, a1, b1, Y', e1, e2, e3, e4⟩ := blocks_s D.length [] D (Nat.le_refl _) hi (by simp; omega)
 simp only [List.length_nil, Nat.zero_add, List.nil_append] at e1 e2
 obtain ⟨S, b, k1, k2, k3⟩ := merges_s D.length Y' 20 (by rw [← e4.1]; omega) (by omega) (by omega) e3 (fun d hd => hi d (e4.mem.2 hd)) (by rw [← e4.1]; exact hl)
 rw [← e4.1] at k1
 refine ⟨S, ?_, k2, e4.trans k3⟩
 unfold slices_SortStableFunc___kernel_result_kernel_result__m slices_stableCmpFunc_kernel_result__m
 rw [show lp (slices_stableCmpFunc_kernel_result__L0 (ln D)) (D, 0, 20) = _ from e1, bd_ret, Out.on_go]
 simp only
 rw [show slices_insertionSortCmpFunc_kernel_result__m D1 a1 (ln D) = _ from e2, bd_ret, show lp (slices_stableCmpFunc_kernel_result__L2 (ln D)) (Y', 20) = _ from k1, bd_ret, Out.on_go, bd_ret]
noncomputable def kernel_machine_word_m (m_Target : Tgt) (m_Kernel_Pace m_Kernel_Stages : Int) (m_Kernel_Ops : List Opr) (m_regs : List Int) (m_memory : List (List Int)) (m_turns : Int) (m_pending : List Due) (o : Opr) (turn : Int) : Option ((Int × Int)) :=
 ck (IX o.ar (ln m_memory)) <|
 bd (math_bits_Len_m (IntKind.u64.wrap (ln (ele m_memory o.ar)))) fun x6 =>
 ck (IR (x6 - 1)) <|
 bd (num_Index_m o.sp o.pl turn (x6 - 1)) fun x11 =>
 ck (IX x11 (ln (ele m_memory o.ar))) <|
 some (o.ar, x11)
noncomputable def kernel_machine_cycle_c1_m (a : Int) (m_Target : Tgt) (m_Kernel_Pace m_Kernel_Stages : Int) (m_Kernel_Ops : List Opr) (m_regs : List Int) (m_memory : List (List Int)) (m_turns : Int) (m_pending : List Due) (o : Opr) (turn : Int) : Option (List (List Int)) :=
 bd (kernel_machine_word_m m_Target m_Kernel_Pace m_Kernel_Stages m_Kernel_Ops m_regs m_memory m_turns m_pending o turn) fun x1 =>
 some (updG m_memory x1.1 x1.2 a)
noncomputable def kernel_machine_cycle_L0 (m_Target : Tgt) (m_Kernel_Pace m_Kernel_Stages : Int) (m_Kernel_Ops : List Opr) (m_memory : List (List Int)) (m_turns pace slot : Int) (x7 : List Int × List Due) : ((List Due) × (List (Opr × Int × Int)) × Int) → Option (Stp ((List Due) × (List (Opr × Int × Int)) × Int) (Empty)) := fun (own0v13_1, v11_1, x34_1) =>
 br (decide (x34_1 < (ln m_Kernel_Ops))) (
 ck (IX x34_1 (ln m_Kernel_Ops)) <|
 ck (IR (pace - (ele m_Kernel_Ops x34_1).stage)) <|
 br ((((ele m_Kernel_Ops x34_1).slot != slot) || (decide ((pace - (ele m_Kernel_Ops x34_1).stage) < 0))) || (decide ((pace - (ele m_Kernel_Ops x34_1).stage) ≥ m_turns))) (
 ck (IR (x34_1 + 1)) <|
 some (.next (own0v13_1, v11_1, (x34_1 + 1)))) (
 bd (kernel_machine_reg_m m_Target m_Kernel_Pace m_Kernel_Stages m_turns ((ele m_Kernel_Ops x34_1).a) pace) fun x32 =>
 ck (IX x32 (ln x7.1)) <|
 bd (kernel_machine_reg_m m_Target m_Kernel_Pace m_Kernel_Stages m_turns ((ele m_Kernel_Ops x34_1).b) pace) fun x39 =>
 ck (IX x39 (ln x7.1)) <|
 br ((ele m_Kernel_Ops x34_1).op == 1) (
 bd (num_Class_m ((ele m_Kernel_Ops x34_1).op)) fun x49 =>
 ck (IX x49 3) <|
 ck (IR (((pace * m_Kernel_Pace) + slot) + (sel3 m_Target.w0 m_Target.w1 m_Target.w2 x49))) <|
 bd (kernel_machine_reg_m m_Target m_Kernel_Pace m_Kernel_Stages m_turns ((ele m_Kernel_Ops x34_1).dest) pace) fun x56 =>
 ck (AL (own0v13_1 ++ [(Due.mk (((pace * m_Kernel_Pace) + slot) + (sel3 m_Target.w0 m_Target.w1 m_Target.w2 x49)) x56 ((ele m_Kernel_Ops x34_1).n))]).length 24) <|
 ck (IR (x34_1 + 1)) <|
 some (.next ((own0v13_1 ++ [(Due.mk (((pace * m_Kernel_Pace) + slot) + (sel3 m_Target.w0 m_Target.w1 m_Target.w2 x49)) x56 ((ele m_Kernel_Ops x34_1).n))]), v11_1, (x34_1 + 1)))) (
 br ((ele m_Kernel_Ops x34_1).op == 2) (
 bd (num_Class_m ((ele m_Kernel_Ops x34_1).op)) fun x69 =>
 ck (IX x69 3) <|
 ck (IR (((pace * m_Kernel_Pace) + slot) + (sel3 m_Target.w0 m_Target.w1 m_Target.w2 x69))) <|
 bd (kernel_machine_reg_m m_Target m_Kernel_Pace m_Kernel_Stages m_turns ((ele m_Kernel_Ops x34_1).dest) pace) fun x76 =>
 ck (AL (own0v13_1 ++ [(Due.mk (((pace * m_Kernel_Pace) + slot) + (sel3 m_Target.w0 m_Target.w1 m_Target.w2 x69)) x76 (pace - (ele m_Kernel_Ops x34_1).stage))]).length 24) <|
 ck (IR (x34_1 + 1)) <|
 some (.next ((own0v13_1 ++ [(Due.mk (((pace * m_Kernel_Pace) + slot) + (sel3 m_Target.w0 m_Target.w1 m_Target.w2 x69)) x76 (pace - (ele m_Kernel_Ops x34_1).stage))]), v11_1, (x34_1 + 1)))) (
 br ((ele m_Kernel_Ops x34_1).op == 3) (
 bd (kernel_machine_word_m m_Target m_Kernel_Pace m_Kernel_Stages m_Kernel_Ops x7.1 m_memory m_turns own0v13_1 (ele m_Kernel_Ops x34_1) (pace - (ele m_Kernel_Ops x34_1).stage)) fun x89 =>
 bd (num_Class_m ((ele m_Kernel_Ops x34_1).op)) fun x93 =>
 ck (IX x93 3) <|
 ck (IR (((pace * m_Kernel_Pace) + slot) + (sel3 m_Target.w0 m_Target.w1 m_Target.w2 x93))) <|
 bd (kernel_machine_reg_m m_Target m_Kernel_Pace m_Kernel_Stages m_turns ((ele m_Kernel_Ops x34_1).dest) pace) fun x100 =>
 ck (AL (own0v13_1 ++ [(Due.mk (((pace * m_Kernel_Pace) + slot) + (sel3 m_Target.w0 m_Target.w1 m_Target.w2 x93)) x100 (ele (ele m_memory x89.1) x89.2))]).length 24) <|
 ck (IR (x34_1 + 1)) <|
 some (.next ((own0v13_1 ++ [(Due.mk (((pace * m_Kernel_Pace) + slot) + (sel3 m_Target.w0 m_Target.w1 m_Target.w2 x93)) x100 (ele (ele m_memory x89.1) x89.2))]), v11_1, (x34_1 + 1)))) (
 br ((ele m_Kernel_Ops x34_1).op == 4) (
 ck (AL (v11_1 ++ [((ele m_Kernel_Ops x34_1), (pace - (ele m_Kernel_Ops x34_1).stage), (ele x7.1 x32))]).length 8) <|
 bd (num_Class_m ((ele m_Kernel_Ops x34_1).op)) fun x124 =>
 ck (IX x124 3) <|
 ck (IR (((pace * m_Kernel_Pace) + slot) + (sel3 m_Target.w0 m_Target.w1 m_Target.w2 x124))) <|
 bd (kernel_machine_reg_m m_Target m_Kernel_Pace m_Kernel_Stages m_turns ((ele m_Kernel_Ops x34_1).dest) pace) fun x131 =>
 ck (AL (own0v13_1 ++ [(Due.mk (((pace * m_Kernel_Pace) + slot) + (sel3 m_Target.w0 m_Target.w1 m_Target.w2 x124)) x131 (ele x7.1 x32))]).length 24) <|
 ck (IR (x34_1 + 1)) <|
 some (.next ((own0v13_1 ++ [(Due.mk (((pace * m_Kernel_Pace) + slot) + (sel3 m_Target.w0 m_Target.w1 m_Target.w2 x124)) x131 (ele x7.1 x32))]), (v11_1 ++ [((ele m_Kernel_Ops x34_1), (pace - (ele m_Kernel_Ops x34_1).stage), (ele x7.1 x32))]), (x34_1 + 1)))) (
 ck (IR ((ele m_Kernel_Ops x34_1).op - 10)) <|
 bd (num_Op_m ((ele m_Kernel_Ops x34_1).op - 10) (ele x7.1 x32) (ele x7.1 x39)) fun x144 =>
 bd (num_Class_m ((ele m_Kernel_Ops x34_1).op)) fun x147 =>
 ck (IX x147 3) <|
 ck (IR (((pace * m_Kernel_Pace) + slot) + (sel3 m_Target.w0 m_Target.w1 m_Target.w2 x147))) <|
 bd (kernel_machine_reg_m m_Target m_Kernel_Pace m_Kernel_Stages m_turns ((ele m_Kernel_Ops x34_1).dest) pace) fun x154 =>
 ck (AL (own0v13_1 ++ [(Due.mk (((pace * m_Kernel_Pace) + slot) + (sel3 m_Target.w0 m_Target.w1 m_Target.w2 x147)) x154 x144)]).length 24) <|
 ck (IR (x34_1 + 1)) <|
 some (.next ((own0v13_1 ++ [(Due.mk (((pace * m_Kernel_Pace) + slot) + (sel3 m_Target.w0 m_Target.w1 m_Target.w2 x147)) x154 x144)]), v11_1, (x34_1 + 1))))))))) (
 some (.brk (own0v13_1, v11_1, x34_1)))
noncomputable def kernel_machine_cycle_L3 (m_Target : Tgt) (m_Kernel_Pace m_Kernel_Stages : Int) (m_Kernel_Ops : List Opr) (m_turns : Int) (x7 : List Int × List Due) (own0v13_1 : List Due) (v11_1 : List (Opr × Int × Int)) : ((List (List Int)) × Int) → Option (Stp ((List (List Int)) × Int) (Empty)) := fun (own0v11_2, x140_2) =>
 br (decide (x140_2 < (ln v11_1))) (
 ck (IX x140_2 (ln v11_1)) <|
 bd (kernel_machine_cycle_c1_m ((ele v11_1 x140_2).2.2) m_Target m_Kernel_Pace m_Kernel_Stages m_Kernel_Ops x7.1 own0v11_2 m_turns own0v13_1 ((ele v11_1 x140_2).1) ((ele v11_1 x140_2).2.1)) fun x29 =>
 ck (IR (x140_2 + 1)) <|
 some (.next (x29, (x140_2 + 1)))) (
 some (.brk (own0v11_2, x140_2)))
noncomputable def kernel_machine_cycle_m (m_Target : Tgt) (m_Kernel_Pace m_Kernel_Stages : Int) (m_Kernel_Ops : List Opr) (m_regs : List Int) (m_memory : List (List Int)) (m_turns : Int) (m_pending : List Due) (pace slot : Int) : Option (List Int × List (List Int) × List Due) :=
 ck (IR (pace * m_Kernel_Pace)) <|
 ck (IR ((pace * m_Kernel_Pace) + slot)) <|
 bd (kernel_machine_land_m m_Target m_Kernel_Pace m_Kernel_Stages m_Kernel_Ops m_regs m_memory m_turns m_pending ((pace * m_Kernel_Pace) + slot)) fun x7 =>
 bd (lp (kernel_machine_cycle_L0 m_Target m_Kernel_Pace m_Kernel_Stages m_Kernel_Ops m_memory m_turns pace slot x7) (x7.2, ([] : List (Opr × Int × Int)), 0)) fun o12 => o12.on (fun (own0v13_1, v11_1, x34_1) =>
 bd (lp (kernel_machine_cycle_L3 m_Target m_Kernel_Pace m_Kernel_Stages m_Kernel_Ops m_turns x7 own0v13_1 v11_1) (m_memory, 0)) fun o17 => o17.on (fun (own0v11_2, x140_2) =>
 some (x7.1, own0v11_2, own0v13_1)) (fun r => r.elim)) (fun r => r.elim)
def putD (r : List Int) (d : Due) : List Int := upd r d.reg d.v
theorem putD_len : ∀ (q : List Due) (r : List Int), (q.foldl putD r).length = r.length
 | [], r => rfl
 | d :: q, r => by rw [List.foldl_cons, putD_len q]; unfold putD; rw [upd_length]
theorem mem_updD {xs : List Int} {i x v : Int} (h : v ∈ upd xs i x) : v = x ∨ v ∈ xs := by
 unfold upd at h
 rcases List.mem_or_eq_of_mem_set h with h | h
 ·exact .inr h
 ·exact .inl h
theorem putD_rng : ∀ (q : List Due) (r : List Int), (∀ d ∈ q, InR d.v) → (∀ v ∈ r, InR v) → ∀ v ∈ q.foldl putD r, InR v
 | [], r, _, h => h
 | d :: q, r, hd, h => putD_rng q _ (fun e he => hd e (List.mem_cons_of_mem _ he)) fun v hv => by
  rcases mem_updD hv with rfl | hv
  ·exact hd d (List.mem_cons_self ..)
  ·exact h v hv
theorem atT_nil {T : Int} {l : List Due} (h : ∀ d ∈ l, d.due ≠ T) : atT T l = [] := List.filter_eq_nil_iff.2 fun d hd => by simpa using h d hd
theorem atT_mem {T : Int} {l : List Due} {d : Due} (h : d ∈ atT T l) : d ∈ l ∧ d.due = T := by
 have := List.mem_filter.1 h
 exact ⟨this.1, by simpa using this.2⟩
theorem srt_split {c : Int} : ∀ {S : List Due}, SrtD S → (∀ d ∈ S, c ≤ d.due) → ∃ Z, S = atT c S ++ Z ∧ SrtD Z ∧ ∀ d ∈ Z, c + 1 ≤ d.due
 | [], _, _ => ⟨[], rfl, List.Pairwise.nil, fun _ h => by cases h⟩
 | x :: S, hs, hc => by
  obtain ⟨h1, h2⟩ := List.pairwise_cons.1 hs
  by_cases e : x.due = c
  ·obtain ⟨Z, a, b, d⟩ := srt_split h2 fun d hd => hc d (List.mem_cons_of_mem _ hd)
   refine ⟨Z, ?_, b, d⟩
   rw [show atT c (x :: S) = x :: atT c S from by unfold atT; rw [List.filter_cons_of_pos (by simpa using e)], List.cons_append, ← a]
  ·have hx := hc x (List.mem_cons_self ..)
   refine ⟨x :: S, ?_, hs, fun d hd => ?_⟩
   ·rw [atT_nil (T := c) fun d hd => ?_, List.nil_append]
    rcases List.mem_cons.1 hd with rfl | hd
    ·exact e
    ·have := h1 d hd; omega
   ·rcases List.mem_cons.1 hd with rfl | hd
    ·omega
    ·have := h1 d hd; omega
def leftD (c : Int) (q : List Due) : List Due := q.filter fun d => decide (d.due ≠ c)
theorem left_len (c : Int) (q : List Due) : q.length = (atT c q).length + (leftD c q).length := by
 unfold atT leftD
 induction q with
 | nil => rfl
 | cons x q ih =>
  by_cases e : x.due = c
  ·rw [List.filter_cons_of_pos (by simpa using e), List.filter_cons_of_neg (by simpa using e)]; simp only [List.length_cons]; omega
  ·rw [List.filter_cons_of_neg (by simpa using e), List.filter_cons_of_pos (by simpa using e)]; simp only [List.length_cons]; omega
theorem left_at (c T : Int) (q : List Due) : atT T (leftD c q) = if T = c then [] else atT T q := by
 split
 ·rename_i h; subst h; exact atT_nil fun d hd => by have := (List.mem_filter.1 hd).2; simpa using this
 ·rename_i h
  unfold atT leftD
  rw [List.filter_filter]
  refine List.filter_congr fun d _ => ?_
  by_cases e : d.due = T
  ·simp [e, h]
  ·simp [e]
theorem stb_left {c : Int} {D S Z : List Due} (hs : Stb D S) (e : S = atT c S ++ Z) (hz : ∀ d ∈ Z, c + 1 ≤ d.due) : Stb Z (leftD c D) := by
 have h1 := left_len c D
 have h2 : S.length = (atT c S).length + Z.length := by rw [← List.length_append, ← e]
 have h3 := hs.2 c
 refine ⟨by rw [← h3] at h2; have := hs.1; omega, fun T => ?_⟩
 rw [left_at]
 split
 ·rename_i h; subst h; exact atT_nil fun d hd => by have := hz d hd; omega
 ·rename_i h
  have e' : atT T S = atT T Z := by
   rw [show atT T S = atT T (atT c S ++ Z) from congrArg _ e, atT_app, show atT T (atT c S) = [] from atT_nil fun d hd => by have := (atT_mem hd).2; omega, List.nil_append]
  rw [hs.2 T, e']
theorem land_loop {c : Int} {A Z : List Due} {r : List Int} (hA : ∀ d ∈ A, d.due ≤ c ∧ 0 ≤ d.reg ∧ d.reg < r.length) (hZ : ∀ d ∈ Z, c < d.due) (hl : (A ++ Z).length ≤ 1000000) : lp (kernel_machine_land_L0 c (A ++ Z)) (r, 0) = some (.go (A.foldl putD r, (A.length : Int))) := by
 rw [List.length_append] at hl
 have X := lp_det (f := kernel_machine_land_L0 c (A ++ Z)) (ρ := Empty) (fun i => ((A.take i).foldl putD r, (i : Int))) A.length (fun i hi => by
  have he : ele (A ++ Z) (i : Int) = ele A (i : Int) := by rw [ele_nat, ele_nat, List.getD_eq_getElem?_getD, List.getD_eq_getElem?_getD, List.getElem?_append_left hi]
  have hd := hA _ (ele_mem' hi)
  have hlen := putD_len (A.take i) r
  unfold kernel_machine_land_L0
  simp only
  rw [he, ck_imp (fun _ => ⟨by omega, by unfold ln; rw [List.length_append]; omega⟩), decide_eq_true (show (i : Int) < ln (A ++ Z) by unfold ln; rw [List.length_append]; omega), decide_eq_true hd.1, Bool.and_self, br_true,
   ck_IX (by omega) (by unfold ln; rw [List.length_append]; omega), ck_IX (by omega) (by unfold ln; rw [List.length_append]; omega), ck_IX (by omega) (by unfold ln; omega), ck_IR (by omega) (by omega), take_next hi, List.foldl_append]
  rfl) (by
  unfold kernel_machine_land_L0
  simp only
  rw [ck_imp (fun h => ⟨by omega, of_decide_eq_true h⟩)]
  cases Z with
  | nil => rw [List.append_nil, decide_eq_false (show ¬ (A.length : Int) < ln A by unfold ln; omega), Bool.false_and, br_false]
  | cons z Z =>
   have := hZ z (List.mem_cons_self ..)
   rw [ele_mid rfl, decide_eq_false (show ¬ z.due ≤ c by omega), Bool.and_false, br_false])
 rw [List.take_length] at X
 exact X
theorem land_m {t : Tgt} {p s : Int} {ops : List Opr} {M : List (List Int)} {N c : Int} {D S A Z : List Due} {r : List Int} (hS : slices_SortStableFunc___kernel_result_kernel_result__m D = some S) (e : S = A ++ Z) (hA : ∀ d ∈ A, d.due ≤ c ∧ 0 ≤ d.reg ∧ d.reg < r.length) (hZ : ∀ d ∈ Z, c < d.due) (hl : S.length ≤ 1000000) :
  kernel_machine_land_m t p s ops r M N D c = some (A.foldl putD r, Z) := by
 unfold kernel_machine_land_m
 rw [hS, bd_ret, e, land_loop hA hZ (by rw [← e]; exact hl), bd_ret, Out.on_go]
 simp only
 rw [ck_SX (by omega) (by unfold ln; rw [List.length_append]; omega) (by omega)]
 unfold sub ln
 rw [Int.toNat_natCast, List.drop_left, List.take_of_length_le (by rw [List.length_append]; omega)]
def actO (N pa sl : Int) (o : Opr) : Bool := !(((o.slot != sl) || (decide (pa - o.stage < 0))) || (decide (pa - o.stage ≥ N)))
def rgO (t : Tgt) (r : List Int) (x pa : Int) : Int := ele r ((x + pa) % t.regs)
def ixO (logs : List Int) (pa : Int) (o : Opr) : Int := idx o.sp o.pl (pa - o.stage) (ele logs o.ar)
def valO (t : Tgt) (logs r : List Int) (M : List (List Int)) (pa : Int) (o : Opr) : Int :=
 if o.op = 1 then o.n else if o.op = 2 then pa - o.stage else if o.op = 3 then ele (ele M o.ar) (ixO logs pa o) else if o.op = 4 then rgO t r o.a pa else opV (o.op - 10) (rgO t r o.a pa) (rgO t r o.b pa)
def dueO (t : Tgt) (logs r : List Int) (M : List (List Int)) (now pa : Int) (o : Opr) : Due := ⟨now + waitV t o.op, (o.dest + pa) % t.regs, valO t logs r M pa o⟩
def putO (t : Tgt) (logs r : List Int) (pa : Int) (W : List (List Int)) (o : Opr) : List (List Int) := updG W o.ar (ixO logs pa o) (rgO t r o.a pa)
def stO (t : Tgt) (logs r : List Int) (pa : Int) (W : List (List Int)) (o : Opr) : List (List Int) := if o.op = 4 then putO t logs r pa W o else W
abbrev MemG (logs : List Int) (M : List (List Int)) : Prop := MemOk ⟨logs, [], []⟩ M
theorem MemG.to {logs : List Int} {M : List (List Int)} (h : MemG logs M) (o : Opr) : MemOk (lpO logs o) M := ⟨h.len, h.row, h.rng⟩
structure RegsG (t : Tgt) (r : List Int) : Prop where
 len : (r.length : Int) = t.regs
 rng : ∀ v ∈ r, InR v
theorem op_kind {t : Tgt} {k : Krn} {o : Opr} {logs : List Int} (h : OneP t k o logs) : o.op = 1 ∨ o.op = 2 ∨ (o.op = 3 ∧ WordOk logs.length (stmO o)) ∨ (o.op = 4 ∧ WordOk logs.length (stmO o)) ∨ (11 ≤ o.op ∧ o.op ≤ 18) := by
 have q3 := (h.2.2.stm 1 (show 1 < 2 by omega)).2.2
 have e1 : ((lpO logs o).body.getD 1 Stm.zero) = stmO o := rfl
 rw [e1] at q3
 have e2 : (stmO o).op = o.op := rfl
 have e3 : (lpO logs o).logs = logs := rfl
 rw [e2, e3] at q3
 rcases q3 with h | h | h | h | h
 ·exact .inl h.1
 ·exact .inr (.inl h.1)
 ·exact .inr (.inr (.inl ⟨h.1, h.2.2.1⟩))
 ·exact .inr (.inr (.inr (.inl ⟨h.1, h.2.2.1⟩)))
 ·exact .inr (.inr (.inr (.inr ⟨h.1, h.2.1⟩)))
section
variable {t : Tgt} {k : Krn} {logs : List Int} {o : Opr}
theorem rg_rng {r : List Int} (hr : RegsG t r) (x pa : Int) : InR (rgO t r x pa) := ele_rng hr.rng _
theorem word_at (h : OneP t k o logs) {M : List (List Int)} (hM : MemG logs M) (hw : WordOk logs.length (stmO o)) (u : Int) : IX o.ar (ln M) ∧ IX o.ar (ln logs) ∧ IX (idx o.sp o.pl u (ele logs o.ar)) (ln (ele M o.ar)) ∧ ∃ L : Nat, L ≤ 5 ∧ ele logs o.ar = L ∧ (ele M o.ar).length = 2 ^ L := by
 obtain ⟨w1, w2, w3⟩ := word_ix (l := lpO logs o) (s := stmO o) h.2.2 (hM.to o) hw u
 have h2 : (stmO o).ar = o.ar := rfl
 have h3 : (lpO logs o).logs = logs := rfl
 rw [h2] at w1 w2
 rw [h3] at w2
 have e : ((o.ar.toNat : Nat) : Int) = o.ar := by have := w1.1; omega
 have hl := h.2.2.log o.ar.toNat (by have := w2.2; unfold ln at this; show o.ar.toNat < logs.length; have := w2.1; omega)
 rw [show (lpO logs o).logs.getD o.ar.toNat 0 = ele logs ((o.ar.toNat : Nat) : Int) from rfl, e] at hl
 have hr := hM.row o.ar.toNat (by have := w1.2; unfold ln at this; have := w1.1; omega)
 rw [show M.getD o.ar.toNat [] = ele M ((o.ar.toNat : Nat) : Int) from rfl, show (⟨logs, [], []⟩ : Lp).logs.getD o.ar.toNat 0 = ele logs ((o.ar.toNat : Nat) : Int) from rfl, e] at hr
 obtain ⟨L, hL⟩ := Int.eq_ofNat_of_zero_le hl.1
 rw [hL, Int.toNat_natCast] at hr
 have hp := pow2L (show L ≤ 5 by omega)
 exact ⟨w1, w2, w3, L, by omega, hL, by omega⟩
theorem word_s (h : OneP t k o logs) {M : List (List Int)} (hM : MemG logs M) (hw : WordOk logs.length (stmO o)) (u : Int) (t' : Tgt) (p s : Int) (ops : List Opr) (r : List Int) (N : Int) (q : List Due) :
  kernel_machine_word_m t' p s ops r M N q o u = some (o.ar, idx o.sp o.pl u (ele logs o.ar)) := by
 obtain ⟨w1, w2, w3, L, h5, hL, hl⟩ := word_at h hM hw u
 unfold kernel_machine_word_m
 rw [ck_yes w1, show ln (ele M o.ar) = ((2 ^ L : Nat) : Int) from by unfold ln; rw [hl], Len_s h5, bd_ret, ck_IR (by omega) (by omega), show (L : Int) + 1 - 1 = L from by omega, num_Index_s, bd_ret, ← hL, ck_yes (by rw [show ((2 ^ L : Nat) : Int) = ln (ele M o.ar) from by unfold ln; rw [hl]]; exact w3)]
theorem val_rng (h : OneP t k o logs) (hn : InR o.n) {r : List Int} {M : List (List Int)} (hr : RegsG t r) (hM : MemG logs M) {pa : Int} (hp : 0 ≤ pa ∧ pa ≤ 300000) (hs : o.stage ≤ 1001 ∧ 0 ≤ o.stage) : InR (valO t logs r M pa o) := by
 unfold valO
 split
 ·exact hn
 split
 ·constructor <;> omega
 split
 ·exact eles_rng hM.rng _ _
 split
 ·exact rg_rng hr _ _
 ·exact opV_rng _ _ _
theorem put_ok {r : List Int} (hr : RegsG t r) {pa : Int} {W : List (List Int)} (hW : MemG logs W) : MemG logs (putO t logs r pa W o) := hW.updG _ _ _ (rg_rng hr _ _)
theorem st_ok {r : List Int} (hr : RegsG t r) {pa : Int} {W : List (List Int)} (hW : MemG logs W) : MemG logs (stO t logs r pa W o) := by
 unfold stO; split
 ·exact put_ok hr hW
 ·exact hW
theorem fold_st {r : List Int} (hr : RegsG t r) {pa : Int} : ∀ (L : List Opr) {W : List (List Int)}, MemG logs W → MemG logs (L.foldl (stO t logs r pa) W)
 | [], _, h => h
 | o :: L, _, h => fold_st hr L (st_ok hr h)
theorem st_put {r : List Int} {pa : Int} (f : Opr → Bool) : ∀ (L : List Opr) (W : List (List Int)), (L.filter f).foldl (stO t logs r pa) W = (L.filter fun o => f o && o.op == 4).foldl (putO t logs r pa) W
 | [], _ => rfl
 | o :: L, W => by
  by_cases h : f o = true
  ·by_cases h4 : o.op = 4
   ·rw [List.filter_cons_of_pos h, List.filter_cons_of_pos (by simp [h, h4]), List.foldl_cons, List.foldl_cons, st_put f L]
    unfold stO; rw [if_pos h4]
   ·rw [List.filter_cons_of_pos h, List.filter_cons_of_neg (by simp [h4]), List.foldl_cons, st_put f L]
    unfold stO; rw [if_neg h4]
  ·rw [List.filter_cons_of_neg h, List.filter_cons_of_neg (by simp [h]), st_put f L]
end
theorem AL_sm {n b : Nat} (h : n ≤ 10000000) (hb : b ≤ 32) : AL n b := ⟨by rw [maxLen_eq]; omega, Nat.le_trans (Nat.mul_le_mul h hb) (by omega)⟩
section
variable {t : Tgt} {k : Krn} {logs : List Int}
theorem may_bd (hm : KMayP t k logs) {i : Nat} (hi : i < k.ops.length) : OneP t k (ele k.ops (i : Int)) logs ∧ 0 ≤ (ele k.ops (i : Int)).stage ∧ (ele k.ops (i : Int)).stage ≤ 1001 ∧ 1 ≤ t.regs ∧ t.regs ≤ 128 := by
 have h := hm.one i hi
 have hs := hm.stages
 have hr := tgtOk_iff.1 hm.tgt
 obtain ⟨⟨_, _, h3, h4, _⟩, _⟩ := h
 refine ⟨hm.one i hi, h3, by omega, ?_, ?_⟩ <;> omega
theorem rop_s (hm : KMayP t k logs) {N now pa sl : Int} (hnow : 0 ≤ now ∧ now ≤ 300000) (htd : Int.tdiv now k.pace = pa) (htm : Int.tmod now k.pace = sl) (hpa : 0 ≤ pa ∧ pa ≤ 300000) {regs0 r : List Int} (hr : RegsG t r) {M W : List (List Int)} (hM : MemG logs M) (hW : MemG logs W) {Q : List Due} (hQ : Q.length ≤ 1000000) {i : Nat} (hi : i < k.ops.length) :
  R5_Play_L4 t k regs0 N (logs, true) M now r (Q, W, (i : Int)) = some (.next (if actO N pa sl (ele k.ops (i : Int)) = true then Q ++ [dueO t logs r M now pa (ele k.ops (i : Int))] else Q, if actO N pa sl (ele k.ops (i : Int)) = true then stO t logs r pa W (ele k.ops (i : Int)) else W, (i : Int) + 1)) := by
 obtain ⟨ho, hs0, hs1, hR0, hR1⟩ := may_bd hm hi
 have hkn := hm.n
 have hp := hm.pace
 have hrl := hr.len
 unfold R5_Play_L4
 simp only
 rw [br_T (by unfold ln; omega), ck_IX (by omega) (by unfold ln; omega), htd, htm]
 generalize ele k.ops (i : Int) = o at *
 obtain ⟨_, ⟨d1, d2, d3, d4, d5, d6, d7, d8⟩, _⟩ := id ho
 rw [ck_IR (by omega) (by omega), ck_yes (show k.pace ≠ 0 by omega)]
 by_cases hact : actO N pa sl o = true
 ·have hc : (((o.slot != sl) || (decide (pa - o.stage < 0))) || (decide (pa - o.stage ≥ N))) = false := by unfold actO at hact; simpa using hact
  have hst : 0 ≤ pa - o.stage := by
   rw [Bool.or_eq_false_iff, Bool.or_eq_false_iff, decide_eq_false_iff_not] at hc; omega
  have tma : ∀ a : Int, 0 ≤ a → Int.tmod (a + pa) t.regs = (a + pa) % t.regs := fun a ha => Int.tmod_eq_emod_of_nonneg (by omega)
  have hra : ∀ a : Int, 0 ≤ (a + pa) % t.regs ∧ (a + pa) % t.regs < t.regs := fun a => ⟨Int.emod_nonneg _ (by omega), Int.emod_lt_of_pos _ (by omega)⟩
  have ha' := hra o.a
  have hb' := hra o.b
  have hcl : 0 ≤ clsV o.op ∧ clsV o.op < 3 := clsV_range _
  have hwt := waitV_bd t o.op
  have hwv : sel3 t.w0 t.w1 t.w2 (clsV o.op) = waitV t o.op := by unfold waitV; rw [if_pos hm.tgt]
  have hal : ∀ d : Due, AL (Q ++ [d]).length 24 := fun d => AL_sm (by rw [List.length_append, List.length_singleton]; omega) (by omega)
  rw [hc, br_false, if_pos hact, if_pos hact, ck_IR (by omega) (by omega), ck_yes (show t.regs ≠ 0 by omega), tma _ d3, ck_IX ha'.1 (by unfold ln; omega), ck_IR (by omega) (by omega), ck_yes (show t.regs ≠ 0 by omega), tma _ d5, ck_IX hb'.1 (by unfold ln; omega), tma _ d1]
  unfold dueO valO stO putO ixO rgO
  rcases op_kind ho with h | h | ⟨h, hw⟩ | ⟨h, hw⟩ | h
  ·rw [show (o.op == 1) = true from by simpa using h, br_true, ref_Class_s, bd_ret, ck_IX hcl.1 hcl.2, hwv, ck_IR (by omega) (by omega), ck_IR (by omega) (by omega), ck_yes (show t.regs ≠ 0 by omega), ck_yes (hal _), ck_IR (by omega) (by omega), if_pos h, if_neg (by omega)]
  ·rw [show (o.op == 1) = false from by rw [h]; rfl, br_false, show (o.op == 2) = true from by simpa using h, br_true, ref_Class_s, bd_ret, ck_IX hcl.1 hcl.2, hwv, ck_IR (by omega) (by omega), ck_IR (by omega) (by omega), ck_yes (show t.regs ≠ 0 by omega), ck_yes (hal _), ck_IR (by omega) (by omega), if_neg (by omega), if_pos h, if_neg (by omega)]
  ·obtain ⟨w1, w2, w3, _⟩ := word_at ho hM hw (pa - o.stage)
   rw [show (o.op == 1) = false from by rw [h]; rfl, br_false, show (o.op == 2) = false from by rw [h]; rfl, br_false, show (o.op == 3) = true from by simpa using h, br_true, ck_yes w1, ck_yes w2, ref_Index_s, bd_ret, ck_yes w3, ref_Class_s, bd_ret, ck_IX hcl.1 hcl.2, hwv, ck_IR (by omega) (by omega), ck_IR (by omega) (by omega), ck_yes (show t.regs ≠ 0 by omega), ck_yes (hal _), ck_IR (by omega) (by omega), if_neg (by omega), if_neg (by omega), if_pos h, if_neg (by omega)]
  ·obtain ⟨w1, w2, w3, _⟩ := word_at ho hW hw (pa - o.stage)
   rw [show (o.op == 1) = false from by rw [h]; rfl, br_false, show (o.op == 2) = false from by rw [h]; rfl, br_false, show (o.op == 3) = false from by rw [h]; rfl, br_false, show (o.op == 4) = true from by simpa using h, br_true, ck_yes w1, ck_yes w2, ref_Index_s, bd_ret, ck_yes w3, ref_Class_s, bd_ret, ck_IX hcl.1 hcl.2, hwv, ck_IR (by omega) (by omega), ck_IR (by omega) (by omega), ck_yes (show t.regs ≠ 0 by omega), ck_yes (hal _), ck_IR (by omega) (by omega), if_neg (by omega), if_neg (by omega), if_neg (by omega), if_pos h, if_pos h]
  ·have hn : ∀ j : Int, j ≤ 4 → (o.op == j) = false := fun j hj => by rw [beq_eq_false_iff_ne]; omega
   rw [hn 1 (by omega), br_false, hn 2 (by omega), br_false, hn 3 (by omega), br_false, hn 4 (by omega), br_false, ck_IR (by omega) (by omega), ref_Op_s _ _ _ (ele_rng hr.rng ((o.a + pa) % t.regs)) (ele_rng hr.rng ((o.b + pa) % t.regs)), bd_ret, ref_Class_s, bd_ret, ck_IX hcl.1 hcl.2, hwv, ck_IR (by omega) (by omega), ck_IR (by omega) (by omega), ck_yes (show t.regs ≠ 0 by omega), ck_yes (hal _), ck_IR (by omega) (by omega), if_neg (by omega), if_neg (by omega), if_neg (by omega), if_neg (by omega), if_neg (by omega)]
 ·have hc : (((o.slot != sl) || (decide (pa - o.stage < 0))) || (decide (pa - o.stage ≥ N))) = true := by unfold actO at hact; rwa [Bool.not_eq_true, Bool.not_eq_false'] at hact
  rw [hc, br_true, ck_IR (by omega) (by omega), if_neg hact, if_neg hact]
def stV (t : Tgt) (r : List Int) (pa : Int) (o : Opr) : Opr × Int × Int := (o, pa - o.stage, rgO t r o.a pa)
theorem reg_s (hm : KMayP t k logs) (p s N x : Int) {pa : Int} (hpa : 0 ≤ pa ∧ pa ≤ 300000) (hx : 0 ≤ x ∧ x < t.regs) : kernel_machine_reg_m t p s N x pa = some ((x + pa) % t.regs) := by
 have hr := tgtOk_iff.1 hm.tgt
 unfold kernel_machine_reg_m
 rw [ck_IR (by omega) (by omega), ck_yes (by omega), Int.tmod_eq_emod_of_nonneg (by omega)]
theorem kop_step (hm : KMayP t k logs) {N now pa sl : Int} (hnow : 0 ≤ now ∧ now ≤ 300000) (hps : pa * k.pace + sl = now) (hpa : 0 ≤ pa ∧ pa ≤ 300000) {r : List Int} (hr : RegsG t r) {M : List (List Int)} (hM : MemG logs M) {Q Z : List Due} (hQ : Q.length ≤ 1000000) {V : List (Opr × Int × Int)} (hV : V.length ≤ 1000) {i : Nat} (hi : i < k.ops.length) :
  kernel_machine_cycle_L0 t k.pace k.stages k.ops M N pa sl (r, Z) (Q, V, (i : Int)) = some (.next (if actO N pa sl (ele k.ops (i : Int)) = true then Q ++ [dueO t logs r M now pa (ele k.ops (i : Int))] else Q, if (actO N pa sl (ele k.ops (i : Int)) && (ele k.ops (i : Int)).op == 4) = true then V ++ [stV t r pa (ele k.ops (i : Int))] else V, (i : Int) + 1)) := by
 obtain ⟨ho, hs0, hs1, hR0, hR1⟩ := may_bd hm hi
 have hkn := hm.n
 have hp := hm.pace
 have hrl := hr.len
 unfold kernel_machine_cycle_L0
 simp only
 rw [br_T (by unfold ln; omega), ck_IX (by omega) (by unfold ln; omega), hps]
 generalize ele k.ops (i : Int) = o at *
 obtain ⟨_, ⟨d1, d2, d3, d4, d5, d6, d7, d8⟩, _⟩ := id ho
 rw [ck_IR (by omega) (by omega)]
 by_cases hact : actO N pa sl o = true
 ·have hc : (((o.slot != sl) || (decide (pa - o.stage < 0))) || (decide (pa - o.stage ≥ N))) = false := by unfold actO at hact; simpa using hact
  have hst : 0 ≤ pa - o.stage := by
   rw [Bool.or_eq_false_iff, Bool.or_eq_false_iff, decide_eq_false_iff_not] at hc; omega
  have hra : ∀ a : Int, 0 ≤ (a + pa) % t.regs ∧ (a + pa) % t.regs < t.regs := fun a => ⟨Int.emod_nonneg _ (by omega), Int.emod_lt_of_pos _ (by omega)⟩
  have ha' := hra o.a
  have hb' := hra o.b
  have hcl : 0 ≤ clsV o.op ∧ clsV o.op < 3 := clsV_range _
  have hwt := waitV_bd t o.op
  have hwv : sel3 t.w0 t.w1 t.w2 (clsV o.op) = waitV t o.op := by unfold waitV; rw [if_pos hm.tgt]
  have hal : ∀ d : Due, AL (Q ++ [d]).length 24 := fun d => AL_sm (by rw [List.length_append, List.length_singleton]; omega) (by omega)
  rw [hc, br_false, hact, Bool.true_and, if_pos rfl, reg_s hm _ _ _ _ hpa ⟨d3, d4⟩, bd_ret, ck_IX ha'.1 (by unfold ln; omega), reg_s hm _ _ _ _ hpa ⟨d5, d6⟩, bd_ret, ck_IX hb'.1 (by unfold ln; omega)]
  simp only [num_Class_s, bd_some', reg_s hm _ _ _ _ hpa ⟨d1, d2⟩, hwv]
  unfold dueO valO stV ixO rgO
  rcases op_kind ho with h | h | ⟨h, hw⟩ | ⟨h, hw⟩ | h
  ·rw [show (o.op == 1) = true from by simpa using h, br_true, ck_IX hcl.1 hcl.2, ck_IR (by omega) (by omega), ck_yes (hal _), ck_IR (by omega) (by omega), if_pos h, if_neg (by simp; omega)]
  ·rw [show (o.op == 1) = false from by rw [h]; rfl, br_false, show (o.op == 2) = true from by simpa using h, br_true, ck_IX hcl.1 hcl.2, ck_IR (by omega) (by omega), ck_yes (hal _), ck_IR (by omega) (by omega), if_neg (by omega), if_pos h, if_neg (by simp; omega)]
  ·rw [show (o.op == 1) = false from by rw [h]; rfl, br_false, show (o.op == 2) = false from by rw [h]; rfl, br_false, show (o.op == 3) = true from by simpa using h, br_true, word_s ho hM hw, bd_ret, ck_IX hcl.1 hcl.2, ck_IR (by omega) (by omega), ck_yes (hal _), ck_IR (by omega) (by omega), if_neg (by omega), if_neg (by omega), if_pos h, if_neg (by simp; omega)]
  ·rw [show (o.op == 1) = false from by rw [h]; rfl, br_false, show (o.op == 2) = false from by rw [h]; rfl, br_false, show (o.op == 3) = false from by rw [h]; rfl, br_false, show (o.op == 4) = true from by simpa using h, br_true, ck_yes (AL_sm (by rw [List.length_append, List.length_singleton]; omega) (by omega)), ck_IX hcl.1 hcl.2, ck_IR (by omega) (by omega), ck_yes (hal _), ck_IR (by omega) (by omega), if_neg (by omega), if_neg (by omega), if_neg (by omega), if_pos h, if_pos rfl]
  ·have hn : ∀ j : Int, j ≤ 4 → (o.op == j) = false := fun j hj => by rw [beq_eq_false_iff_ne]; omega
   rw [hn 1 (by omega), br_false, hn 2 (by omega), br_false, hn 3 (by omega), br_false, hn 4 (by omega), br_false, ck_IR (by omega) (by omega), num_Op_s, bd_ret, ck_IX hcl.1 hcl.2, ck_IR (by omega) (by omega), ck_yes (hal _), ck_IR (by omega) (by omega), if_neg (by omega), if_neg (by omega), if_neg (by omega), if_neg (by omega), if_neg (by simp)]
 ·have hc : (((o.slot != sl) || (decide (pa - o.stage < 0))) || (decide (pa - o.stage ≥ N))) = true := by unfold actO at hact; rwa [Bool.not_eq_true, Bool.not_eq_false'] at hact
  rw [hc, br_true, ck_IR (by omega) (by omega), if_neg hact, if_neg (by simp [hact])]
def newD (t : Tgt) (k : Krn) (logs r : List Int) (M : List (List Int)) (N now pa sl : Int) (n : Nat) : List Due := ((k.ops.take n).filter (actO N pa sl)).map (dueO t logs r M now pa)
def newM (t : Tgt) (k : Krn) (logs r : List Int) (N pa sl : Int) (n : Nat) (M : List (List Int)) : List (List Int) := ((k.ops.take n).filter (actO N pa sl)).foldl (stO t logs r pa) M
theorem newD_len (t : Tgt) (k : Krn) (logs r : List Int) (M : List (List Int)) (N now pa sl : Int) (n : Nat) : (newD t k logs r M N now pa sl n).length ≤ n := by
 unfold newD
 rw [List.length_map]
 exact Nat.le_trans (List.length_filter_le _ _) (by rw [List.length_take]; omega)
theorem newD_succ {r : List Int} {M : List (List Int)} {N now pa sl : Int} {i : Nat} (hi : i < k.ops.length) : newD t k logs r M N now pa sl (i + 1) = if actO N pa sl (ele k.ops (i : Int)) = true then newD t k logs r M N now pa sl i ++ [dueO t logs r M now pa (ele k.ops (i : Int))] else newD t k logs r M N now pa sl i := by
 unfold newD
 rw [take_next hi, List.filter_append, List.map_append]
 split
 ·rename_i h; rw [List.filter_cons_of_pos h]; rfl
 ·rename_i h; rw [List.filter_cons_of_neg h]; simp
theorem newM_succ {r : List Int} {N pa sl : Int} {M : List (List Int)} {i : Nat} (hi : i < k.ops.length) : newM t k logs r N pa sl (i + 1) M = if actO N pa sl (ele k.ops (i : Int)) = true then stO t logs r pa (newM t k logs r N pa sl i M) (ele k.ops (i : Int)) else newM t k logs r N pa sl i M := by
 unfold newM
 rw [take_next hi, List.filter_append, List.foldl_append]
 split
 ·rename_i h; rw [List.filter_cons_of_pos h]; rfl
 ·rename_i h; rw [List.filter_cons_of_neg h]; simp
theorem rops_s (hm : KMayP t k logs) {N now pa sl : Int} (hnow : 0 ≤ now ∧ now ≤ 300000) (htd : Int.tdiv now k.pace = pa) (htm : Int.tmod now k.pace = sl) (hpa : 0 ≤ pa ∧ pa ≤ 300000) {regs0 r : List Int} (hr : RegsG t r) {M : List (List Int)} (hM : MemG logs M) {Q : List Due} (hQ : Q.length ≤ 100000) :
  lp (R5_Play_L4 t k regs0 N (logs, true) M now r) (Q, M, 0) = some (.go (Q ++ newD t k logs r M N now pa sl k.ops.length, newM t k logs r N pa sl k.ops.length M, (k.ops.length : Int))) := by
 have hkn := hm.n
 have X := lp_det (f := R5_Play_L4 t k regs0 N (logs, true) M now r) (ρ := Empty) (fun i => (Q ++ newD t k logs r M N now pa sl i, newM t k logs r N pa sl i M, (i : Int))) k.ops.length (fun i hi => by
  have hl := newD_len t k logs r M N now pa sl i
  rw [rop_s hm hnow htd htm hpa hr hM (show MemG logs (newM t k logs r N pa sl i M) from fold_st hr _ hM) (by rw [List.length_append]; omega) hi, newD_succ hi, newM_succ hi]
  congr 3
  split
  ·rw [List.append_assoc]
  ·rfl) (by unfold R5_Play_L4; exact br_F (by unfold ln; omega))
 rw [show newD t k logs r M N now pa sl 0 = [] from rfl, List.append_nil] at X
 exact X
def vOps (t : Tgt) (k : Krn) (r : List Int) (N pa sl : Int) (n : Nat) : List (Opr × Int × Int) := ((k.ops.take n).filter fun o => actO N pa sl o && o.op == 4).map (stV t r pa)
theorem vOps_len (t : Tgt) (k : Krn) (r : List Int) (N pa sl : Int) (n : Nat) : (vOps t k r N pa sl n).length ≤ n := by
 unfold vOps
 rw [List.length_map]
 exact Nat.le_trans (List.length_filter_le _ _) (by rw [List.length_take]; omega)
theorem kops_s (hm : KMayP t k logs) {N now pa sl : Int} (hnow : 0 ≤ now ∧ now ≤ 300000) (hps : pa * k.pace + sl = now) (hpa : 0 ≤ pa ∧ pa ≤ 300000) {r : List Int} (hr : RegsG t r) {M : List (List Int)} (hM : MemG logs M) {Q Z : List Due} (hQ : Q.length ≤ 100000) :
  lp (kernel_machine_cycle_L0 t k.pace k.stages k.ops M N pa sl (r, Z)) (Q, [], 0) = some (.go (Q ++ newD t k logs r M N now pa sl k.ops.length, vOps t k r N pa sl k.ops.length, (k.ops.length : Int))) := by
 have hkn := hm.n
 have X := lp_det (f := kernel_machine_cycle_L0 t k.pace k.stages k.ops M N pa sl (r, Z)) (ρ := Empty) (fun i => (Q ++ newD t k logs r M N now pa sl i, vOps t k r N pa sl i, (i : Int))) k.ops.length (fun i hi => by
  have hl := newD_len t k logs r M N now pa sl i
  have hl2 := vOps_len t k r N pa sl i
  rw [kop_step hm hnow hps hpa hr hM (by rw [List.length_append]; omega) (by omega) hi, newD_succ hi]
  have hv : vOps t k r N pa sl (i + 1) = if (actO N pa sl (ele k.ops (i : Int)) && (ele k.ops (i : Int)).op == 4) = true then vOps t k r N pa sl i ++ [stV t r pa (ele k.ops (i : Int))] else vOps t k r N pa sl i := by
   unfold vOps
   rw [take_next hi, List.filter_append, List.map_append]
   split
   ·rename_i h; rw [List.filter_cons, if_pos h]; rfl
   ·rename_i h; rw [List.filter_cons, if_neg h]; simp
  rw [hv]
  congr 3
  split
  ·rw [List.append_assoc]
  ·rfl) (by unfold kernel_machine_cycle_L0; exact br_F (by unfold ln; omega))
 rw [show newD t k logs r M N now pa sl 0 = [] from rfl, List.append_nil] at X
 exact X
end
section
variable {t : Tgt} {k : Krn} {logs : List Int}
def putV (logs : List Int) (W : List (List Int)) (v : Opr × Int × Int) : List (List Int) := updG W v.1.ar (idx v.1.sp v.1.pl v.2.1 (ele logs v.1.ar)) v.2.2
theorem fold_putV : ∀ (L : List (Opr × Int × Int)) {W : List (List Int)}, (∀ v ∈ L, InR v.2.2) → MemG logs W → MemG logs (L.foldl (putV logs) W)
 | [], _, _, h => h
 | v :: L, _, hv, h => fold_putV L (fun u hu => hv u (List.mem_cons_of_mem _ hu)) (h.updG _ _ _ (hv v (List.mem_cons_self ..)))
theorem vloop_s (hm : KMayP t k logs) {r : List Int} (hr : RegsG t r) {N pa sl : Int} {M : List (List Int)} (hM : MemG logs M) {Q Z : List Due} :
  lp (kernel_machine_cycle_L3 t k.pace k.stages k.ops N (r, Z) Q (vOps t k r N pa sl k.ops.length)) (M, 0) = some (.go (newM t k logs r N pa sl k.ops.length M, ((vOps t k r N pa sl k.ops.length).length : Int))) := by
 have hkn := hm.n
 have hvl := vOps_len t k r N pa sl k.ops.length
 have hmem : ∀ v ∈ vOps t k r N pa sl k.ops.length, ∃ i : Nat, i < k.ops.length ∧ v = stV t r pa (ele k.ops (i : Int)) ∧ (ele k.ops (i : Int)).op = 4 := fun v hv => by
  unfold vOps at hv
  obtain ⟨o, ho, rfl⟩ := List.mem_map.1 hv
  obtain ⟨h1, h2⟩ := List.mem_filter.1 ho
  obtain ⟨i, hi, e⟩ := mem_ele (List.mem_of_mem_take h1)
  exact ⟨i, hi, by rw [e], by rw [e]; simp at h2; exact h2.2⟩
 have hrg : ∀ v ∈ vOps t k r N pa sl k.ops.length, InR v.2.2 := fun v hv => by
  obtain ⟨i, _, rfl, _⟩ := hmem v hv
  exact rg_rng hr _ _
 have e : newM t k logs r N pa sl k.ops.length M = (vOps t k r N pa sl k.ops.length).foldl (putV logs) M := by
  unfold newM vOps
  rw [st_put, List.foldl_map]; rfl
 rw [e]
 generalize hV : vOps t k r N pa sl k.ops.length = V at *
 have X := lp_det (f := kernel_machine_cycle_L3 t k.pace k.stages k.ops N (r, Z) Q V) (ρ := Empty) (fun j => ((V.take j).foldl (putV logs) M, (j : Int))) V.length (fun j hj => by
  obtain ⟨i, hi, ev, h4⟩ := hmem _ (ele_mem' hj)
  have ho := hm.one i hi
  have hw : WordOk logs.length (stmO (ele k.ops (i : Int))) := by rcases op_kind ho with h | h | h | h | h <;> first | exact h.2 | omega
  unfold kernel_machine_cycle_L3 kernel_machine_cycle_c1_m
  simp only
  rw [br_T (by unfold ln; omega), ck_IX (by omega) (by unfold ln; omega), take_next hj, List.foldl_append]
  rw [ev]
  show (bd (bd (kernel_machine_word_m t k.pace k.stages k.ops r _ N Q (ele k.ops (i : Int)) (pa - (ele k.ops (i : Int)).stage)) _) _) = _
  rw [word_s ho (fold_putV _ (fun v hv => hrg v (List.mem_of_mem_take hv)) hM) hw, bd_ret, bd_ret, ck_IR (by omega) (by omega)]
  rfl) (by unfold kernel_machine_cycle_L3; exact br_F (by unfold ln; omega))
 rw [List.take_length] at X
 exact X
theorem cyc_k (hm : KMayP t k logs) {N now pa sl : Int} (hnow : 0 ≤ now ∧ now ≤ 300000) (hps : pa * k.pace + sl = now) (hpa : 0 ≤ pa ∧ pa ≤ 300000) (hsl : 0 ≤ sl ∧ sl ≤ 200) {r r1 : List Int} {M : List (List Int)} {D Z : List Due}
  (hland : kernel_machine_land_m t k.pace k.stages k.ops r M N D now = some (r1, Z)) (hr : RegsG t r1) (hM : MemG logs M) (hZ : Z.length ≤ 100000) :
  kernel_machine_cycle_m t k.pace k.stages k.ops r M N D pa sl = some (r1, newM t k logs r1 N pa sl k.ops.length M, Z ++ newD t k logs r1 M N now pa sl k.ops.length) := by
 unfold kernel_machine_cycle_m
 rw [ck_IR (by omega) (by omega), hps, ck_IR (by omega) (by omega), hland, bd_ret]
 show (bd (lp (kernel_machine_cycle_L0 t k.pace k.stages k.ops M N pa sl (r1, Z)) (Z, [], 0)) _) = _
 rw [kops_s hm hnow hps hpa hr hM hZ, bd_ret, Out.on_go]
 simp only
 rw [vloop_s hm hr hM, bd_ret, Out.on_go]
theorem rland_s {c : Int} {q : List Due} {r : List Int} (hq : ∀ d ∈ q, 0 ≤ d.reg ∧ d.reg < r.length) (hl : q.length ≤ 1000000) : lp (R5_Play_L2 q c) (r, [], 0) = some (.go ((atT c q).foldl putD r, leftD c q, (q.length : Int))) := by
 have X := lp_det (f := R5_Play_L2 q c) (ρ := Empty) (fun i => ((atT c (q.take i)).foldl putD r, leftD c (q.take i), (i : Int))) q.length (fun i hi => by
  have hlen := putD_len (atT c (q.take i)) r
  have hfl : (leftD c (q.take i)).length ≤ i := Nat.le_trans (List.length_filter_le _ _) (by rw [List.length_take]; omega)
  have hd := hq _ (ele_mem' hi)
  unfold R5_Play_L2
  simp only
  rw [br_T (by unfold ln; omega), ck_IX (by omega) (by unfold ln; omega), take_next hi, atT_app, List.foldl_append, show leftD c (q.take i ++ [ele q (i : Int)]) = leftD c (q.take i) ++ leftD c [ele q (i : Int)] from List.filter_append ..]
  by_cases e : (ele q (i : Int)).due = c
  ·rw [show ((ele q (i : Int)).due == c) = true from by simpa using e, br_true, ck_IX (by omega) (by unfold ln; omega), ck_IX (by omega) (by unfold ln; omega), ck_IX (by omega) (by unfold ln; omega), ck_IR (by omega) (by omega)]
   rw [show leftD c [ele q (i : Int)] = [] from by unfold leftD; simp [e], List.append_nil, show atT c [ele q (i : Int)] = [ele q (i : Int)] from by unfold atT; simp [e]]
   rfl
  ·rw [show ((ele q (i : Int)).due == c) = false from by simpa using e, br_false, ck_IX (by omega) (by unfold ln; omega), ck_yes (AL_sm (by rw [List.length_append, List.length_singleton]; omega) (by omega)), ck_IR (by omega) (by omega)]
   rw [show leftD c [ele q (i : Int)] = [ele q (i : Int)] from by unfold leftD; simp [e], show atT c [ele q (i : Int)] = [] from by unfold atT; simp [e]]
   rfl) (by unfold R5_Play_L2; exact br_F (by unfold ln; omega))
 rw [List.take_length] at X
 exact X
abbrev MSt := List Due × List Int × List (List Int)
def r1S (c : Int) (x : MSt) : List Int := (atT c x.1).foldl putD x.2.1
def stepS (t : Tgt) (k : Krn) (logs : List Int) (N c : Int) (x : MSt) : MSt :=
 (leftD c x.1 ++ newD t k logs (r1S c x) x.2.2 N c (c / k.pace) (c % k.pace) k.ops.length, r1S c x, newM t k logs (r1S c x) N (c / k.pace) (c % k.pace) k.ops.length x.2.2)
def tailS (c : Int) (x : MSt) : MSt := (leftD c x.1, r1S c x, x.2.2)
def stS (t : Tgt) (k : Krn) (logs : List Int) (N : Int) (x0 : MSt) (last : Nat) : Nat → MSt
 | 0 => x0
 | c + 1 => if c < last then stepS t k logs N c (stS t k logs N x0 last c) else tailS c (stS t k logs N x0 last c)
structure InvS (t : Tgt) (logs : List Int) (c : Int) (x : MSt) : Prop where
 regs : RegsG t x.2.1
 mem : MemG logs x.2.2
 due : ∀ d ∈ x.1, c ≤ d.due ∧ d.due ≤ c + 5 ∧ 0 ≤ d.reg ∧ d.reg < t.regs ∧ InR d.v
 cnt : ∀ j : Nat, j ≤ 6 → x.1.countP (fun d => decide (c + j ≤ d.due)) ≤ 16 * (6 - j)
theorem InvS.len {c : Int} {x : MSt} (h : InvS t logs c x) : x.1.length ≤ 96 := by
 have := h.cnt 0 (by omega)
 rw [List.countP_eq_length.2 fun d hd => by have := (h.due d hd).1; simpa using this] at this
 omega
theorem InvS.r1 {c : Int} {x : MSt} (h : InvS t logs c x) : RegsG t (r1S c x) := by
 refine ⟨by unfold r1S; rw [putD_len]; exact h.regs.len, putD_rng _ _ (fun d hd => (h.due d (atT_mem hd).1).2.2.2.2) h.regs.rng⟩
theorem InvS.tail {c : Int} {x : MSt} (h : InvS t logs c x) : InvS t logs (c + 1) (tailS c x) := by
 have hleft : ∀ d ∈ leftD c x.1, d ∈ x.1 ∧ d.due ≠ c := fun d hd => by
  have := List.mem_filter.1 hd
  exact ⟨this.1, by simpa using this.2⟩
 refine ⟨h.r1, h.mem, fun d hd => ?_, fun j hj => ?_⟩
 ·obtain ⟨h1, h2⟩ := hleft d hd
  obtain ⟨q1, q2, q3, q4, q5⟩ := h.due d h1
  exact ⟨by omega, by omega, q3, q4, q5⟩
 ·show (leftD c x.1).countP _ ≤ _
  by_cases h6 : j = 6
  ·subst h6
   rw [List.countP_eq_zero.2 fun d hd => by have := h.due d (hleft d hd).1; simp; omega]
   omega
  ·have h1 := h.cnt (j + 1) (by omega)
   refine Nat.le_trans (Nat.le_trans ((List.filter_sublist ..).countP_le) ?_) (Nat.le_trans h1 (by omega))
   refine List.countP_mono_left fun d _ hd => ?_
   simp at hd ⊢; omega
theorem new_due (hm : KMayP t k logs) (hn : ∀ i : Nat, i < k.ops.length → InR (ele k.ops (i : Int)).n) {r : List Int} {M : List (List Int)} (hr : RegsG t r) (hM : MemG logs M) {N now pa sl : Int} (hpa : 0 ≤ pa ∧ pa ≤ 300000) :
  ∀ d ∈ newD t k logs r M N now pa sl k.ops.length, now + 1 ≤ d.due ∧ d.due ≤ now + 6 ∧ 0 ≤ d.reg ∧ d.reg < t.regs ∧ InR d.v := fun d hd => by
 unfold newD at hd
 obtain ⟨o, ho, rfl⟩ := List.mem_map.1 hd
 obtain ⟨i, hi, e⟩ := mem_ele (List.mem_of_mem_take (List.mem_filter.1 ho).1)
 obtain ⟨h1, h2, h3, h4, h5⟩ := may_bd hm hi
 have hin := hn i hi
 rw [e] at h1 h2 h3 hin
 have hw : 1 ≤ waitV t o.op ∧ waitV t o.op ≤ 6 := by
  have ht := tgtOk_iff.1 hm.tgt
  have hc := clsV_range o.op
  unfold waitV; rw [if_pos hm.tgt]
  unfold sel3
  split <;> (try split) <;> omega
 refine ⟨by show now + 1 ≤ now + _; omega, by show now + _ ≤ now + 6; omega, Int.emod_nonneg _ (by omega), Int.emod_lt_of_pos _ (by omega), val_rng h1 hin hr hM hpa ⟨h3, h2⟩⟩
theorem InvS.step (hm : KMayP t k logs) (hn : ∀ i : Nat, i < k.ops.length → InR (ele k.ops (i : Int)).n) {N c : Int} (hc : 0 ≤ c ∧ c ≤ 300000) {x : MSt} (h : InvS t logs c x) : InvS t logs (c + 1) (stepS t k logs N c x) := by
 have hp := hm.pace
 have hkn := hm.n
 have hpa0 := Int.ediv_nonneg (show 0 ≤ c by omega) (show 0 ≤ k.pace by omega)
 have hpa1 := Int.ediv_le_self (b := k.pace) (show 0 ≤ c by omega)
 have hnew := new_due (N := N) (now := c) (sl := c % k.pace) hm hn h.r1 h.mem (pa := c / k.pace) ⟨hpa0, by omega⟩
 have htl := h.tail
 refine ⟨htl.regs, fold_st h.r1 _ h.mem, fun d hd => ?_, fun j hj => ?_⟩
 ·rcases List.mem_append.1 hd with hd | hd
  ·exact htl.due d hd
  ·obtain ⟨q1, q2, q3, q4, q5⟩ := hnew d hd
   exact ⟨by omega, by omega, q3, q4, q5⟩
 ·show (leftD c x.1 ++ newD t k logs (r1S c x) x.2.2 N c (c / k.pace) (c % k.pace) k.ops.length).countP _ ≤ _
  rw [List.countP_append]
  have hlen := newD_len t k logs (r1S c x) x.2.2 N c (c / k.pace) (c % k.pace) k.ops.length
  by_cases h6 : j = 6
  ·subst h6
   have h1 := htl.cnt 6 (by omega)
   rw [show (tailS c x).1 = leftD c x.1 from rfl] at h1
   rw [List.countP_eq_zero (l := newD ..).2 fun d hd => by have := hnew d hd; simp; omega]
   omega
  ·have hleft : ∀ d ∈ leftD c x.1, d ∈ x.1 ∧ d.due ≠ c := fun d hd => by
    have := List.mem_filter.1 hd
    exact ⟨this.1, by simpa using this.2⟩
   have h1 := h.cnt (j + 1) (by omega)
   have h2 : (leftD c x.1).countP (fun d => decide (c + 1 + (j : Int) ≤ d.due)) ≤ 16 * (6 - (j + 1)) := by
    refine Nat.le_trans (Nat.le_trans ((List.filter_sublist ..).countP_le) ?_) h1
    refine List.countP_mono_left fun d _ hd => ?_
    simp at hd ⊢; omega
   have h3 := List.countP_le_length (p := fun d : Due => decide (c + 1 + (j : Int) ≤ d.due)) (l := newD t k logs (r1S c x) x.2.2 N c (c / k.pace) (c % k.pace) k.ops.length)
   omega
theorem land_kr {c : Int} (hc : 0 ≤ c ∧ c ≤ 300000) {x : MSt} (h : InvS t logs c x) {D : List Due} (hD : Stb D x.1) (p s : Int) (ops : List Opr) (M : List (List Int)) (N : Int) :
  ∃ Z, kernel_machine_land_m t p s ops x.2.1 M N D c = some (r1S c x, Z) ∧ Stb Z (leftD c x.1) := by
 have hl := h.len
 have hm : ∀ d ∈ D, c ≤ d.due ∧ d.due ≤ c + 5 ∧ 0 ≤ d.reg ∧ d.reg < t.regs ∧ InR d.v := fun d hd => h.due d (hD.mem.1 hd)
 obtain ⟨S, e1, e2, e3⟩ := sortStable_s (D := D) (fun d hd => by have := hm d hd; exact ⟨by omega, by omega⟩) (by rw [hD.1]; omega)
 obtain ⟨Z, z1, z2, z3⟩ := srt_split (c := c) e2 fun d hd => (hm d (e3.mem.2 hd)).1
 have hat : atT c S = atT c x.1 := by rw [← e3.2 c, hD.2 c]
 refine ⟨Z, ?_, ?_⟩
 ·rw [land_m (A := atT c S) (Z := Z) e1 z1 (fun d hd => by
   obtain ⟨q1, q2⟩ := atT_mem hd
   have := hm d (e3.mem.2 q1)
   have := h.regs.len
   omega) (fun d hd => by have := z3 d hd; omega) (by rw [← e3.1, hD.1]; omega), hat]
  rfl
 ·exact (stb_left (e3.symm.trans hD).symm z1 z3)
end
noncomputable def kernel_Stmt_m (o : Opr) : Option (Stm) :=
 some (Stm.mk o.op (Rf.mk 0 0) (Rf.mk 0 0) o.ar o.sp o.pl o.n)
noncomputable def kernel_Time_m (k_ : Krn) (o : Opr) : Option (Int) :=
 ck (IR (o.stage * k_.pace)) <|
 ck (IR ((o.stage * k_.pace) + o.slot)) <|
 some ((o.stage * k_.pace) + o.slot)
noncomputable def kernel_op_c1_m (r_ from_ n : Int) (t : Tgt) : Option (Bool) :=
 some ((r_ == 0) || (((decide (n > from_)) && (decide (r_ > 0))) && (decide (r_ < t.regs))))
noncomputable def kernel_op_m (t : Tgt) (k_ : Krn) (o : Opr) (logs : List Int) : Option (Bool) :=
 bd (kernel_Stmt_m o) fun x4 =>
 bd (loop_Uses_m x4) fun x8 =>
 bd (show Option (Out (Int × Int × Int × Int) (Empty)) from br (decide ((ln x8) > 0)) (
 some (.go (0, 0, 0, 0))) (
 some (.go (x4.a.st, x4.a.bk, x4.b.st, x4.b.bk)))) fun o13 => o13.on (fun (b7c1_1, b7c2_1, b7c3_1, b7c4_1) =>
 bdG ((((decide (o.slot ≥ 0)) && (decide (o.slot < k_.pace))) && (decide (o.stage ≥ 0))) && (decide (o.stage < k_.stages))) (kernel_Time_m k_ o) fun x18 =>
 bdG (((((decide (o.slot ≥ 0)) && (decide (o.slot < k_.pace))) && (decide (o.stage ≥ 0))) && (decide (o.stage < k_.stages))) && (decide (x18 ≤ 1000))) (loop_May_m (Lp.mk logs [(Stm.mk 1 (Rf.mk 0 0) (Rf.mk 0 0) 0 0 0 0), (Stm.mk x4.op (Rf.mk b7c1_1 b7c2_1) (Rf.mk b7c3_1 b7c4_1) x4.ar x4.sp x4.pl x4.n)] [])) fun x21 =>
 bdG ((((((((decide (o.slot ≥ 0)) && (decide (o.slot < k_.pace))) && (decide (o.stage ≥ 0))) && (decide (o.stage < k_.stages))) && (decide (x18 ≤ 1000))) && x21) && (decide (o.dest ≥ 0))) && (decide (o.dest < t.regs))) (kernel_op_c1_m o.a 0 (ln x8) t) fun x24 =>
 bdG (((((((((decide (o.slot ≥ 0)) && (decide (o.slot < k_.pace))) && (decide (o.stage ≥ 0))) && (decide (o.stage < k_.stages))) && (decide (x18 ≤ 1000))) && x21) && (decide (o.dest ≥ 0))) && (decide (o.dest < t.regs))) && x24) (kernel_op_c1_m o.b 1 (ln x8) t) fun x27 =>
 some ((((((((((decide (o.slot ≥ 0)) && (decide (o.slot < k_.pace))) && (decide (o.stage ≥ 0))) && (decide (o.stage < k_.stages))) && (decide (x18 ≤ 1000))) && x21) && (decide (o.dest ≥ 0))) && (decide (o.dest < t.regs))) && x24) && x27)) (fun r => r.elim)
noncomputable def kernel_May_L0 (t : Tgt) (k_ : Krn) (logs : List Int) : ((List ((Int × Int) × Int)) × Int) → Option (Stp ((List ((Int × Int) × Int)) × Int) (Bool)) := fun (m9n_1, x50_1) =>
 br (decide (x50_1 < (ln k_.ops))) (
 ck (IX x50_1 (ln k_.ops)) <|
 bd (kernel_op_m t k_ (ele k_.ops x50_1) logs) fun x22 =>
 br (!x22) (
 some (.ret false)) (
 bd (num_Class_m ((ele k_.ops x50_1).op)) fun x28 =>
 ck (IR ((mget m9n_1 ((ele k_.ops x50_1).slot, x28) 0) + 1)) <|
 ck (IX x28 3) <|
 br (decide ((mget (mput m9n_1 ((ele k_.ops x50_1).slot, x28) ((mget m9n_1 ((ele k_.ops x50_1).slot, x28) 0) + 1)) ((ele k_.ops x50_1).slot, x28) 0) > (sel3 t.u0 t.u1 t.u2 x28))) (
 some (.ret false)) (
 ck (IR (x50_1 + 1)) <|
 some (.next ((mput m9n_1 ((ele k_.ops x50_1).slot, x28) ((mget m9n_1 ((ele k_.ops x50_1).slot, x28) 0) + 1)), (x50_1 + 1)))))) (
 some (.brk (m9n_1, x50_1)))
noncomputable def kernel_May_m (t : Tgt) (k_ : Krn) (logs : List Int) : Option (Bool) :=
 bd (target_May_m t) fun x3 =>
 br (((((((!x3) || (decide (k_.pace < 1))) || (decide (k_.pace > 200))) || (decide (k_.stages < 1))) || (decide (k_.stages > 1001))) || (decide ((ln k_.ops) < 1))) || (decide ((ln k_.ops) > 16))) (
 some false) (
 bd (lp (kernel_May_L0 t k_ logs) (([] : List ((Int × Int) × Int)), 0)) fun o10 => o10.on (fun (m9n_1, x50_1) =>
 some true) (fun r => some r))
def lpC (logs : List Int) (o : Opr) : Lp := ⟨logs, [⟨1, ⟨0, 0⟩, ⟨0, 0⟩, 0, 0, 0, 0⟩, stmO o], []⟩
theorem lpC_iff {logs : List Int} {o : Opr} : LoopOk (lpC logs o) ↔ LoopOk (lpO logs o) := by
 have hz : Rf.isZero ⟨0, 0⟩ := ⟨rfl, rfl⟩
 have key : ∀ s s' : Stm, (StmtOk logs.length 2 0 s') → LoopOk ⟨logs, [s, stmO o], []⟩ → LoopOk ⟨logs, [s', stmO o], []⟩ := fun s s' hs h => by
  refine ⟨h.1, h.2.1, h.2.2.1, h.2.2.2.1, h.2.2.2.2.1, fun j hj => ?_⟩
  have hj' : j = 0 ∨ j = 1 := by
   have : (Lp.mk logs [s', stmO o] []).body.length = 2 := rfl
   omega
  rcases hj' with rfl | rfl
  ·exact hs
  ·exact h.2.2.2.2.2 1 (by show (1 : Int) < 2; omega)
 refine ⟨fun h => key _ _ ?_ h, fun h => key _ _ ?_ h⟩
 ·refine ⟨fun hh => ?_, fun hh => absurd hh (by decide), .inr (.inl ⟨rfl, rfl, ⟨rfl, rfl, rfl⟩, hz, hz⟩)⟩
  rcases hh with hh | hh <;> exact absurd hh (by decide)
 ·refine ⟨fun hh => ?_, fun hh => absurd hh (by decide), .inl ⟨rfl, ⟨rfl, rfl, rfl⟩, hz, hz⟩⟩
  rcases hh with hh | hh <;> exact absurd hh (by decide)
theorem uses_ln (o : Opr) : ((usesL (stmO o)).length : Int) = usesN o.op := by
 unfold usesL usesN
 rw [show (stmO o).op = o.op from rfl]
 by_cases h : o.op = 4
 ·rw [if_pos h, if_pos h]; rfl
 ·by_cases h2 : o.op > 10
  ·rw [if_neg h, if_pos h2, if_neg h, if_pos h2]; rfl
  ·rw [if_neg h, if_neg h2, if_neg h, if_neg h2]; rfl
theorem lpC_fine {logs : List Int} {o : Opr} (h : (lpO logs o).Fine) : (lpC logs o).Fine := by
 have h0 : InR 0 := by unfold InR; omega
 have h1 : InR 1 := by unfold InR; omega
 refine ⟨h.rlogs, fun u hu => ?_, h.routs, h.llogs, h.lbody, h.louts⟩
 rcases List.mem_cons.1 hu with rfl | hu
 ·exact ⟨h1, h0, h0, h0, h0, h0, h0, h0, h0⟩
 ·exact h.rbody u (by rw [List.mem_singleton] at hu; subst hu; show stmO o ∈ [turnS, stmO o]; simp)
theorem kop_s {t : Tgt} (ht : tgtOk t = true) {k : Krn} {o : Opr} {logs : List Int} (hp : 1 ≤ k.pace ∧ k.pace ≤ 200) (hs : 1 ≤ k.stages ∧ k.stages ≤ 1001) (hf : (lpO logs o).Fine) : kernel_op_m t k o logs = some (tb (OneP t k o logs)) := by
 rw [tgtOk_iff] at ht
 have hst : kernel_Stmt_m o = some (stmO o) := rfl
 have hu : loop_Uses_m (stmO o) = some (usesL (stmO o)) := Uses_s _
 have hun := uses_ln o
 have hmay : loop_May_m (lpC logs o) = some (tb (LoopOk (lpO logs o))) := by
  rw [May_s _ (lpC_fine hf)]
  congr 1
  exact tb_congr lpC_iff
 unfold kernel_op_m
 rw [hst, bd_ret, hu, bd_ret]
 have hsel : (show Option (Out (Int × Int × Int × Int) (Empty)) from br (decide ((ln (usesL (stmO o))) > 0)) (some (.go (0, 0, 0, 0))) (some (.go ((stmO o).a.st, (stmO o).a.bk, (stmO o).b.st, (stmO o).b.bk)))) = some (.go (0, 0, 0, 0)) := by
  by_cases c : ln (usesL (stmO o)) > 0
  ·rw [decide_eq_true c]; rfl
  ·rw [decide_eq_false c]; rfl
 rw [hsel, bd_ret, Out.on_go]
 simp only
 rw [show (Lp.mk logs [(Stm.mk 1 (Rf.mk 0 0) (Rf.mk 0 0) 0 0 0 0), (Stm.mk (stmO o).op (Rf.mk 0 0) (Rf.mk 0 0) (stmO o).ar (stmO o).sp (stmO o).pl (stmO o).n)] []) = lpC logs o from rfl]
 by_cases h1 : 0 ≤ o.slot ∧ o.slot < k.pace ∧ 0 ≤ o.stage ∧ o.stage < k.stages
 ·have m1 := mul_le (a := o.stage) (A := 1001) (b := k.pace) (B := 200) (by omega) (by omega) (by omega) (by omega)
  have htm : kernel_Time_m k o = some (o.stage * k.pace + o.slot) := by
   unfold kernel_Time_m
   rw [ck_IR (by omega) (by omega), ck_IR (by omega) (by omega)]
  have hc : ((((decide (o.slot ≥ 0)) && (decide (o.slot < k.pace))) && (decide (o.stage ≥ 0))) && (decide (o.stage < k.stages))) = true := by
   simp only [Bool.and_eq_true, decide_eq_true_eq]; omega
  rw [hc, htm, bdG_t, bd_ret, Bool.true_and]
  by_cases h2 : o.stage * k.pace + o.slot ≤ 1000
  ·rw [decide_eq_true h2, bdG_t, hmay, bd_ret, Bool.true_and]
   by_cases h3 : LoopOk (lpO logs o)
   ·rw [tb_t h3, Bool.true_and]
    by_cases h4 : 0 ≤ o.dest ∧ o.dest < t.regs
    ·rw [show (decide (o.dest ≥ 0) && decide (o.dest < t.regs)) = true from by simp only [Bool.and_eq_true, decide_eq_true_eq]; omega, bdG_t]
     unfold kernel_op_c1_m
     rw [bd_ret, bdG_some', Bool.true_and]
     have ha : ((o.a == 0) || (((decide (ln (usesL (stmO o)) > 0)) && (decide (o.a > 0))) && (decide (o.a < t.regs)))) = tb (o.a = 0 ∨ (0 < usesN o.op ∧ 0 < o.a ∧ o.a < t.regs)) := tb_eq (by unfold ln; rw [hun]; simp [and_assoc])
     have hb : ((o.b == 0) || (((decide (ln (usesL (stmO o)) > 1)) && (decide (o.b > 0))) && (decide (o.b < t.regs)))) = tb (o.b = 0 ∨ (1 < usesN o.op ∧ 0 < o.b ∧ o.b < t.regs)) := tb_eq (by unfold ln; rw [hun]; simp [and_assoc])
     rw [ha, hb]
     have hN : NamesP t o ↔ (o.a = 0 ∨ (0 < usesN o.op ∧ 0 < o.a ∧ o.a < t.regs)) ∧ (o.b = 0 ∨ (1 < usesN o.op ∧ 0 < o.b ∧ o.b < t.regs)) := by
      unfold NamesP
      constructor
      ·rintro ⟨a1, a2, a3, a4, a5, a6, a7, a8⟩
       refine ⟨?_, ?_⟩
       ·by_cases c : o.a = 0
        ·exact .inl c
        ·exact .inr ⟨by have : ¬ usesN o.op < 1 := fun hh => c (a7 hh); omega, by omega, a4⟩
       ·by_cases c : o.b = 0
        ·exact .inl c
        ·exact .inr ⟨by have : ¬ usesN o.op < 2 := fun hh => c (a8 hh); omega, by omega, a6⟩
      ·rintro ⟨b1, b2⟩
       refine ⟨h4.1, h4.2, ?_, ?_, ?_, ?_, fun hh => ?_, fun hh => ?_⟩
       all_goals first | omega | (rcases b1 with b1 | b1 <;> rcases b2 with b2 | b2 <;> omega)
     by_cases h5 : (o.a = 0 ∨ (0 < usesN o.op ∧ 0 < o.a ∧ o.a < t.regs))
     ·by_cases h6 : (o.b = 0 ∨ (1 < usesN o.op ∧ 0 < o.b ∧ o.b < t.regs))
      ·rw [tb_t h5, tb_t h6, tb_t (p := OneP t k o logs) ⟨⟨h1.1, h1.2.1, h1.2.2.1, h1.2.2.2, h2⟩, hN.2 ⟨h5, h6⟩, h3⟩]; rfl
      ·rw [tb_t h5, tb_f h6, tb_f fun hh : OneP t k o logs => h6 (hN.1 hh.2.1).2]; rfl
     ·rw [tb_f h5, tb_f fun hh : OneP t k o logs => h5 (hN.1 hh.2.1).1]; rfl
    ·have hd : (decide (o.dest ≥ 0) && decide (o.dest < t.regs)) = false := by
      rw [Bool.and_eq_false_iff, decide_eq_false_iff_not, decide_eq_false_iff_not]; omega
     rw [hd, tb_f fun hh : OneP t k o logs => h4 ⟨hh.2.1.1, hh.2.1.2.1⟩]; rfl
   ·rw [tb_f h3, tb_f fun hh : OneP t k o logs => h3 hh.2.2]; rfl
  ·rw [decide_eq_false h2, tb_f fun hh : OneP t k o logs => h2 hh.1.2.2.2.2]; rfl
 ·have hc : ((((decide (o.slot ≥ 0)) && (decide (o.slot < k.pace))) && (decide (o.stage ≥ 0))) && (decide (o.stage < k.stages))) = false := by
   cases hh : ((((decide (o.slot ≥ 0)) && (decide (o.slot < k.pace))) && (decide (o.stage ≥ 0))) && (decide (o.stage < k.stages))) with
   | false => rfl
   | true =>
    simp only [Bool.and_eq_true, decide_eq_true_eq] at hh
    exact absurd ⟨hh.1.1.1, hh.1.1.2, hh.1.2, hh.2⟩ h1
  rw [hc, tb_f fun hh : OneP t k o logs => h1 ⟨hh.1.1, hh.1.2.1, hh.1.2.2.1, hh.1.2.2.2.1⟩]
  rfl
theorem cntO_all {t : Tgt} (ht : tgtOk t = true) {k : Krn} {n : Nat} : (∀ i, i < n → (cntO k (i + 1) (keyO k i) : Int) ≤ unitsV t (keyO k i).2) ↔ (∀ i, i < n → (cntO k n (keyO k i) : Int) ≤ unitsV t (keyO k i).2) := by
  have mono : ∀ (κ : Int × Int) i j, i ≤ j → cntO k i κ ≤ cntO k j κ := fun κ i j h => by
    induction j with
    | zero => have : i = 0 := by omega
              subst this; exact Nat.le_refl _
    | succ j ih =>
      by_cases e : i = j + 1
      · subst e; exact Nat.le_refl _
      · rw [cntO_succ]; have := ih (by omega); omega
  constructor
  · intro h
    have key : ∀ m, m ≤ n → ∀ κ, (cntO k m κ : Int) ≤ unitsV t κ.2 := by
      intro m
      induction m with
      | zero => intro _ κ; have := (units_bd ht κ.2).1; show ((0 : Nat) : Int) ≤ _; omega
      | succ m ih =>
        intro hm κ
        by_cases e : keyO k m = κ
        · have := h m (by omega); rw [e] at this; exact this
        · rw [cntO_succ, if_neg e]; exact ih (by omega) κ
    exact fun i _ => key n (Nat.le_refl _) _
  · intro h i hi
    have := h i hi
    have := mono (keyO k i) (i + 1) n hi
    omega
theorem pMay_s {t : Tgt} {k : Krn} {logs : List Int} (hf : ∀ i : Nat, i < k.ops.length → (lpO logs (ele k.ops (i : Int))).Fine) : kernel_May_m t k logs = some (tb (KMayP t k logs)) := by
 unfold kernel_May_m
 rw [target_May_s, bd_ret]
 by_cases h : tgtOk t = true ∧ (1 ≤ k.pace ∧ k.pace ≤ 200) ∧ (1 ≤ k.stages ∧ k.stages ≤ 1001) ∧ (1 ≤ k.ops.length ∧ k.ops.length ≤ 16)
 ·obtain ⟨h1, h2, h3, h4⟩ := h
  rw [show (((((((!tgtOk t) || (decide (k.pace < 1))) || (decide (k.pace > 200))) || (decide (k.stages < 1))) || (decide (k.stages > 1001))) || (decide ((ln k.ops) < 1))) || (decide ((ln k.ops) > 16))) = false from by rw [h1]; unfold ln; simp; omega, br_false]
  rcases lp_chk (f := kernel_May_L0 t k logs) (n := k.ops.length) (r0 := false) (fun i => OneP t k (ele k.ops (i : Int)) logs ∧ (cntO k (i + 1) (keyO k i) : Int) ≤ unitsV t (keyO k i).2) (fun i m => ∀ κ, mget m κ 0 = (cntO k i κ : Int)) (fun i g hi hg => by
    have hc := clsV_range (ele k.ops (i : Int)).op
    have hcl := cntO_le k (keyO k i) i
    have hk : ((ele k.ops (i : Int)).slot, clsV (ele k.ops (i : Int)).op) = keyO k i := rfl
    have hmg := hg (keyO k i)
    have hnew : mget (mput g (keyO k i) (mget g (keyO k i) 0 + 1)) (keyO k i) 0 = (cntO k (i + 1) (keyO k i) : Int) := by rw [mget_mput, if_pos rfl, hmg, cntO_succ, if_pos rfl]; rfl
    have hun : sel3 t.u0 t.u1 t.u2 (clsV (ele k.ops (i : Int)).op) = unitsV t (keyO k i).2 := rfl
    unfold kernel_May_L0
    simp only
    rw [br_T (by unfold ln; omega), ck_IX (by omega) (by unfold ln; omega), kop_s h1 h2 h3 (hf i hi), bd_ret]
    by_cases h5 : OneP t k (ele k.ops (i : Int)) logs
    ·rw [tb_t h5, Bool.not_true, br_false, num_Class_s, bd_ret, hk, ck_IR (by omega) (by omega), ck_IX hc.1 hc.2, hnew, hun]
     by_cases h6 : (cntO k (i + 1) (keyO k i) : Int) > unitsV t (keyO k i).2
     ·rw [br_T h6]; exact .inr ⟨fun h => by omega, rfl⟩
     ·rw [br_F h6, ck_IR (by omega) (by omega)]
      refine .inl ⟨⟨h5, by omega⟩, _, rfl, fun κ => ?_⟩
      rw [mget_mput, cntO_succ]
      by_cases hq : keyO k i = κ
      ·rw [if_pos hq, if_pos hq, hmg, hq]; rfl
      ·rw [if_neg hq, if_neg hq, hg]; rfl
    ·rw [tb_f h5]
     exact .inr ⟨fun h => h5 h.1, rfl⟩) (fun g => by unfold kernel_May_L0; exact br_F (by unfold ln; omega)) [] (fun κ => rfl) with ⟨q1, m, e, _⟩ | ⟨q1, e⟩
  ·rw [e, bd_ret, Out.on_go, tb_t (p := KMayP t k logs) ⟨h1, h2, h3, h4, fun i hi => (q1 i hi).1, (cntO_all h1).1 fun i hi => (q1 i hi).2⟩]
  ·rw [e, bd_ret, Out.on_ret, tb_f fun h : KMayP t k logs => q1 fun i hi => ⟨h.one i hi, (cntO_all h1).2 h.units i hi⟩]
 ·rw [tb_f fun hk : KMayP t k logs => h ⟨hk.tgt, hk.pace, hk.stages, hk.n⟩]
  have hc : (((((((!tgtOk t) || (decide (k.pace < 1))) || (decide (k.pace > 200))) || (decide (k.stages < 1))) || (decide (k.stages > 1001))) || (decide ((ln k.ops) < 1))) || (decide ((ln k.ops) > 16))) = true := by
   cases hh : (((((((!tgtOk t) || (decide (k.pace < 1))) || (decide (k.pace > 200))) || (decide (k.stages < 1))) || (decide (k.stages > 1001))) || (decide ((ln k.ops) < 1))) || (decide ((ln k.ops) > 16))) with
   | true => rfl
   | false =>
    unfold ln at hh
    simp only [Bool.or_eq_false_iff, Bool.not_eq_false', decide_eq_false_iff_not] at hh
    obtain ⟨⟨⟨⟨⟨⟨a1, a2⟩, a3⟩, a4⟩, a5⟩, a6⟩, a7⟩ := hh
    exact absurd ⟨a1, ⟨by omega, by omega⟩, ⟨by omega, by omega⟩, by omega, by omega⟩ h
  rw [hc]; rfl
noncomputable def kernel_Run_L3 (t : Tgt) (k_ : Krn) (turns x63_9 : Int) : ((List Due) × (List (List Int)) × (List Int) × Int) → Option (Stp ((List Due) × (List (List Int)) × (List Int) × Int) (Empty)) := fun (v33_10, r25_10, r20_10, x68_10) =>
 br (decide (x68_10 < k_.pace)) (
 bd (kernel_machine_cycle_m t k_.pace k_.stages k_.ops r20_10 r25_10 turns v33_10 x63_9 x68_10) fun x48 =>
 ck (IR (x68_10 + 1)) <|
 some (.next (x48.2.2, x48.2.1, x48.1, (x68_10 + 1)))) (
 some (.brk (v33_10, r25_10, r20_10, x68_10)))
noncomputable def kernel_Run_L1 (t : Tgt) (k_ : Krn) (turns : Int) : ((List Due) × (List (List Int)) × (List Int) × Int) → Option (Stp ((List Due) × (List (List Int)) × (List Int) × Int) (Empty)) := fun (v33_9, r25_9, r20_9, x63_9) =>
 br (decide (x63_9 < ((turns + k_.stages) - 1))) (
 bd (lp (kernel_Run_L3 t k_ turns x63_9) (v33_9, r25_9, r20_9, 0)) fun o41 => o41.on (fun (v33_10, r25_10, r20_10, x68_10) =>
 ck (IR (x63_9 + 1)) <|
 some (.next (v33_10, r25_10, r20_10, (x63_9 + 1)))) (fun r => r.elim)) (
 some (.brk (v33_9, r25_9, r20_9, x63_9)))
noncomputable def kernel_Run_m (t : Tgt) (k_ : Krn) (regs : List Int) (memory : List (List Int)) (turns : Int) : Option (List Int × List (List Int) × Int) :=
 bd (kernel_Logs_m memory) fun x3 =>
 bdG (!(!x3.2)) (kernel_May_m t k_ x3.1) fun x7 =>
 br (((!x3.2) || (!x7)) || ((ln regs) != t.regs)) (
 some ([], [], 2)) (
 br ((decide (turns < 0)) || (decide (turns > 200))) (
 some ([], [], 3)) (
 bd (Clone_m regs) fun x16 =>
 bd (seq_Copy_m memory) fun x21 =>
 br (decide (turns > 0)) (
 ck (IR (turns + k_.stages)) <|
 ck (IR ((turns + k_.stages) - 1)) <|
 bd (lp (kernel_Run_L1 t k_ turns) ([], x21, x16, 0)) fun o34 => o34.on (fun (v33_9, r25_9, r20_9, x63_9) =>
 bd (kernel_machine_land_m t k_.pace k_.stages k_.ops r20_9 r25_9 turns v33_9 1099511627776) fun x39 =>
 some (x39.1, r25_9, 0)) (fun r => r.elim)) (
 some (x16, x21, 0))))
section
variable {t : Tgt} {k : Krn} {logs : List Int}
theorem memG_small (hm : KMayP t k logs) {M : List (List Int)} (h : MemG logs M) : M.length ≤ 100 ∧ ∀ r ∈ M, r.length ≤ 100000 :=
 (h.to (ele k.ops ((0 : Nat) : Int))).small (hm.one 0 (by have := hm.n; omega)).2.2
theorem stS_lt {N : Int} {x0 : MSt} {last c : Nat} (h : c < last) : stS t k logs N x0 last (c + 1) = stepS t k logs N c (stS t k logs N x0 last c) := by
 rw [stS, if_pos h]
theorem stS_ge {N : Int} {x0 : MSt} {last c : Nat} (h : ¬ c < last) : stS t k logs N x0 last (c + 1) = tailS c (stS t k logs N x0 last c) := by
 rw [stS, if_neg h]
theorem inv_st (hm : KMayP t k logs) (hn : ∀ i : Nat, i < k.ops.length → InR (ele k.ops (i : Int)).n) {N : Int} {x0 : MSt} (h0 : InvS t logs 0 x0) {last : Nat} : ∀ c : Nat, c ≤ 300000 → InvS t logs c (stS t k logs N x0 last c)
 | 0, _ => h0
 | c + 1, hc => by
  have ih := inv_st hm hn (N := N) h0 (last := last) c (by omega)
  by_cases h : c < last
  ·rw [stS_lt h]; exact ih.step hm hn ⟨by omega, by omega⟩
  ·rw [stS_ge h]; exact ih.tail
theorem lastK (hm : KMayP t k logs) {N : Nat} (hN : N ≤ 200) (h1 : 1 ≤ N) : ∃ P R : Nat, k.pace = P ∧ (N : Int) + k.stages - 1 = R ∧ 1 ≤ P ∧ P ≤ 200 ∧ 1 ≤ R ∧ R ≤ 1200 ∧ R * P ≤ 240000 ∧ ((N : Int) + k.stages - 1) * k.pace = (R * P : Nat) := by
 have hp := hm.pace
 have hs := hm.stages
 obtain ⟨P, hP⟩ := Int.eq_ofNat_of_zero_le (show 0 ≤ k.pace by omega)
 obtain ⟨R, hR⟩ := Int.eq_ofNat_of_zero_le (show 0 ≤ (N : Int) + k.stages - 1 by omega)
 have hb : R * P ≤ 1200 * 200 := Nat.mul_le_mul (by omega) (by omega)
 exact ⟨P, R, hP, hR, by omega, by omega, by omega, by omega, by omega, by rw [hP, hR]; simp⟩
theorem rplay_s (hm : KMayP t k logs) (hn : ∀ i : Nat, i < k.ops.length → InR (ele k.ops (i : Int)).n) {N : Nat} (hN : N ≤ 200) (h1 : 1 ≤ N) {x0 : MSt} (h0 : InvS t logs 0 x0) {regs0 : List Int} {L : Nat} (hL : ((N : Int) + k.stages - 1) * k.pace = L) (hLb : L ≤ 240000) :
  lp (R5_Play_L0 t k regs0 N (logs, true)) (x0.1, x0.2.1, x0.2.2, 0) = some (.go ((stS t k logs N x0 L (L + 7)).1, (stS t k logs N x0 L (L + 7)).2.1, (stS t k logs N x0 L (L + 7)).2.2, ((L + 7 : Nat) : Int))) := by
 have hp := hm.pace
 have X := lp_det (f := R5_Play_L0 t k regs0 N (logs, true)) (ρ := Empty) (fun c => ((stS t k logs N x0 L c).1, (stS t k logs N x0 L c).2.1, (stS t k logs N x0 L c).2.2, (c : Int))) (L + 7) (fun c hc => by
  have hI := inv_st hm hn (N := N) h0 (last := L) c (by omega)
  have hq := hI.len
  have hrl := hI.regs.len
  have hlen : (leftD c (stS t k logs N x0 L c).1).length ≤ 96 := Nat.le_trans (List.length_filter_le _ _) hq
  unfold R5_Play_L0
  simp only
  rw [hL, ck_IR (by omega) (by omega), ck_IR (by omega) (by omega), br_T (by omega), rland_s (fun d hd => by have := hI.due d hd; omega) (by omega), bd_ret, Out.on_go]
  simp only
  by_cases h : c < L
  ·have hsm := memG_small hm hI.mem
   have hd : Int.tdiv (c : Int) k.pace = (c : Int) / k.pace := Int.tdiv_eq_ediv_of_nonneg (by omega)
   have hd0 := Int.ediv_nonneg (show 0 ≤ (c : Int) by omega) (show 0 ≤ k.pace by omega)
   have hd1 := Int.ediv_le_self (b := k.pace) (show 0 ≤ (c : Int) by omega)
   rw [br_F (by omega), ck_yes (by omega), ck_IR (by omega) (by omega), rCopy_s hsm.1 hsm.2, bd_ret]
   rw [rops_s hm ⟨by omega, by omega⟩ hd (Int.tmod_eq_emod_of_nonneg (by omega)) ⟨hd0, by omega⟩ (show RegsG t ((atT (c : Int) (stS t k logs N x0 L c).1).foldl putD (stS t k logs N x0 L c).2.1) from hI.r1) hI.mem (by omega), bd_ret, Out.on_go]
   simp only
   rw [ck_IR (by omega) (by omega), stS_lt h]
   rfl
  ·rw [br_T (by omega), ck_IR (by omega) (by omega), stS_ge h]
   rfl) (by
  unfold R5_Play_L0
  simp only
  rw [hL, ck_IR (by omega) (by omega), ck_IR (by omega) (by omega)]
  exact br_F (by omega))
 exact X
structure KInv (t : Tgt) (k : Krn) (logs : List Int) (N : Int) (x0 : MSt) (last c : Nat) (g : List Due × List (List Int) × List Int) : Prop where
 due : Stb g.1 (stS t k logs N x0 last c).1
 mem : g.2.1 = (stS t k logs N x0 last c).2.2
 regs : g.2.2 = (stS t k logs N x0 last c).2.1
theorem kpace_s (hm : KMayP t k logs) (hn : ∀ i : Nat, i < k.ops.length → InR (ele k.ops (i : Int)).n) {N : Nat} {x0 : MSt} (h0 : InvS t logs 0 x0) {P R pa : Nat} (hP : k.pace = P) (hP0 : 1 ≤ P ∧ P ≤ 200) (hR : R ≤ 1200) (hpa : pa < R) (hLb : R * P ≤ 240000) {g : List Due × List (List Int) × List Int} (hg : KInv t k logs N x0 (R * P) (pa * P) g) :
  ∃ g', lp (kernel_Run_L3 t k N pa) (g.1, g.2.1, g.2.2, 0) = some (.go (g'.1, g'.2.1, g'.2.2, (P : Int))) ∧ KInv t k logs N x0 (R * P) ((pa + 1) * P) g' := by
 have hub : (pa + 1) * P ≤ R * P := Nat.mul_le_mul_right _ hpa
 rw [Nat.add_mul, Nat.one_mul] at hub
 have X := lp_invM (f := kernel_Run_L3 t k N pa) (ρ := Empty) (n := P) (fun (g : List Due × List (List Int) × List Int) i => (g.1, g.2.1, g.2.2, i)) (fun j g => KInv t k logs N x0 (R * P) (pa * P + j) g) (fun j g hj hg => by
  obtain ⟨D, M, r⟩ := g
  obtain ⟨a1, a2, a3⟩ := hg
  simp only at a1 a2 a3
  subst a2 a3
  have hI := inv_st hm hn (N := N) h0 (last := R * P) (pa * P + j) (by omega)
  have hd : ((pa * P + j : Nat) : Int) / k.pace = pa := by rw [hP, ← Int.natCast_ediv, Nat.mul_comm pa P, Nat.mul_add_div (by omega), Nat.div_eq_of_lt hj, Nat.add_zero]
  have hmd : ((pa * P + j : Nat) : Int) % k.pace = j := by rw [hP, ← Int.natCast_emod, Nat.mul_comm pa P, Nat.mul_add_mod, Nat.mod_eq_of_lt hj]
  obtain ⟨Z, z1, z2⟩ := land_kr ⟨by omega, by omega⟩ hI a1 k.pace k.stages k.ops (stS t k logs N x0 (R * P) (pa * P + j)).2.2 N
  have hq := hI.len
  have hlen : (leftD ((pa * P + j : Nat) : Int) (stS t k logs N x0 (R * P) (pa * P + j)).1).length ≤ 96 := Nat.le_trans (List.length_filter_le _ _) hq
  refine ⟨(Z ++ newD t k logs (r1S ((pa * P + j : Nat) : Int) (stS t k logs N x0 (R * P) (pa * P + j))) (stS t k logs N x0 (R * P) (pa * P + j)).2.2 N ((pa * P + j : Nat) : Int) pa j k.ops.length, newM t k logs (r1S ((pa * P + j : Nat) : Int) (stS t k logs N x0 (R * P) (pa * P + j))) N pa j k.ops.length (stS t k logs N x0 (R * P) (pa * P + j)).2.2, r1S ((pa * P + j : Nat) : Int) (stS t k logs N x0 (R * P) (pa * P + j))), ?_, ?_⟩
  ·unfold kernel_Run_L3
   simp only
   rw [br_T (by omega), cyc_k hm (now := ((pa * P + j : Nat) : Int)) ⟨by omega, by omega⟩ (by rw [hP]; simp) ⟨by omega, by omega⟩ ⟨by omega, by omega⟩ z1 hI.r1 hI.mem (by rw [z2.1]; omega), bd_ret, ck_IR (by omega) (by omega)]
  ·have hlt : pa * P + j < R * P := by omega
   refine ⟨?_, ?_, ?_⟩
   ·show Stb _ (stS t k logs N x0 (R * P) (pa * P + j + 1)).1
    rw [stS_lt hlt]
    unfold stepS
    rw [hd, hmd]
    exact z2.app (Stb.rfl' _)
   ·show _ = (stS t k logs N x0 (R * P) (pa * P + j + 1)).2.2
    rw [stS_lt hlt]
    unfold stepS
    rw [hd, hmd]
   ·show _ = (stS t k logs N x0 (R * P) (pa * P + j + 1)).2.1
    rw [stS_lt hlt]
    rfl) (fun g => by unfold kernel_Run_L3; exact br_F (by omega)) g hg
 obtain ⟨g', e, h⟩ := X
 exact ⟨g', e, by rw [Nat.add_mul, Nat.one_mul]; exact h⟩
theorem tail_all (hm : KMayP t k logs) (hn : ∀ i : Nat, i < k.ops.length → InR (ele k.ops (i : Int)).n) {N : Int} {x0 : MSt} (h0 : InvS t logs 0 x0) {L : Nat} (hLb : L ≤ 240000) {S : List Due} (hS : SrtD S) (hS2 : Stb S (stS t k logs N x0 L L).1) :
  ∀ m : Nat, m ≤ 7 → ∃ S', SrtD S' ∧ Stb S' (stS t k logs N x0 L (L + m)).1 ∧ S.foldl putD (stS t k logs N x0 L L).2.1 = S'.foldl putD (stS t k logs N x0 L (L + m)).2.1 ∧ (stS t k logs N x0 L (L + m)).2.2 = (stS t k logs N x0 L L).2.2 ∧ ∀ d ∈ (stS t k logs N x0 L (L + m)).1, d.due ≤ L + 5
 | 0, _ => ⟨S, hS, hS2, rfl, rfl, fun d hd => (((inv_st hm hn (N := N) h0 (last := L) L (by omega)).due d hd).2.1)⟩
 | m + 1, hmm => by
  obtain ⟨S', s1, s2, s3, s4, s5⟩ := tail_all hm hn h0 hLb hS hS2 m (by omega)
  have hI := inv_st hm hn (N := N) h0 (last := L) (L + m) (by omega)
  obtain ⟨Z, z1, z2, z3⟩ := srt_split (c := ((L + m : Nat) : Int)) s1 fun d hd => (hI.due d (s2.mem.1 hd)).1
  have hat : atT ((L + m : Nat) : Int) S' = atT ((L + m : Nat) : Int) (stS t k logs N x0 L (L + m)).1 := s2.2 _
  refine ⟨Z, z2, ?_, ?_, ?_, fun d hd => ?_⟩
  ·show Stb Z (stS t k logs N x0 L (L + m + 1)).1
   rw [stS_ge (by omega)]
   exact stb_left s2.symm z1 z3
  ·show _ = Z.foldl putD (stS t k logs N x0 L (L + m + 1)).2.1
   rw [stS_ge (by omega), s3]
   conv => lhs; rw [z1]
   rw [List.foldl_append, hat]; rfl
  ·show (stS t k logs N x0 L (L + m + 1)).2.2 = _
   rw [stS_ge (by omega)]; exact s4
  ·rw [show L + (m + 1) = L + m + 1 from rfl, stS_ge (by omega)] at hd
   exact s5 d (List.mem_filter.1 hd).1
theorem runs_both (hm : KMayP t k logs) (hn : ∀ i : Nat, i < k.ops.length → InR (ele k.ops (i : Int)).n) {N : Nat} (hN : N ≤ 200) {r : List Int} (hr : RegsG t r) {M : List (List Int)} (hM : MemG logs M)
  (hlp : kernel_Logs_m M = some (logs, true)) (hlr : R5_Logs_m M = some (logs, true)) (hmay : kernel_May_m t k logs = some true) :
  ∃ r' M', kernel_Run_m t k r M N = some (r', M', 0) ∧ R5_Play_m t k r M N = some (r', M') ∧ RegsG t r' ∧ MemG logs M' ∧ (N = 0 → r' = r ∧ M' = M) ∧ (1 ≤ N → ∀ L : Nat, ((N : Int) + k.stages - 1) * k.pace = L → r' = (stS t k logs N ([], r, M) L (L + 7)).2.1) := by
 have hsm := memG_small hm hM
 have hrl := hr.len
 have hp := hm.pace
 have hst := hm.stages
 have hR := tgtOk_iff.1 hm.tgt
 have hrl2 : r.length ≤ 1000 := by omega
 unfold kernel_Run_m R5_Play_m
 rw [hlp, bd_ret, show (!!((logs, true) : List Int × Bool).2) = true from rfl, bdG_t, hmay, bd_ret, List.nil_append, ck_yes (AL_sm (by omega) (by omega)), rCopy_s hsm.1 hsm.2, bd_ret, hlr, bd_ret,
  show (ln r != t.regs) = false from by unfold ln; rw [bne_eq_false_iff_eq]; exact hrl, Bool.not_true, Bool.or_self, Bool.or_self, br_false,
  show (decide ((N : Int) < 0) || decide ((N : Int) > 200)) = false from by rw [Bool.or_eq_false_iff, decide_eq_false_iff_not, decide_eq_false_iff_not]; omega, br_false,
  show Clone_m r = some r from ck_yes (AL_sm (by omega) (by omega)), bd_ret, Copy_s hsm.1 hsm.2, bd_ret]
 by_cases hz : N = 0
 ·subst hz
  refine ⟨r, M, rfl, rfl, hr, hM, fun _ => ⟨rfl, rfl⟩, fun h => by omega⟩
 have h1 : 1 ≤ N := by omega
 obtain ⟨P, R, hP, hRr, p1, p2, p3, p4, p5, p6⟩ := lastK hm hN h1
 have h0 : InvS t logs 0 ([], r, M) := ⟨hr, hM, fun d hd => (by cases hd), fun j _ => Nat.zero_le _⟩
 rw [br_T (by omega), ck_IR (by omega) (by omega), ck_IR (by omega) (by omega), show ((N : Int) == 0) = false from by simp [hz], br_false, ck_IR (by omega) (by omega), ck_IR (by omega) (by omega), ck_IR (by omega) (by omega)]
 have Y := rplay_s hm hn hN h1 h0 (regs0 := r) p6 p5
 rw [show lp (R5_Play_L0 t k r N (logs, true)) ([], r, M, 0) = _ from Y, bd_ret, Out.on_go]
 obtain ⟨g, e, hg⟩ := lp_invM (f := kernel_Run_L1 t k N) (ρ := Empty) (n := R) (fun (g : List Due × List (List Int) × List Int) i => (g.1, g.2.1, g.2.2, i)) (fun pa g => KInv t k logs N ([], r, M) (R * P) (pa * P) g) (fun pa g hpa hg => by
   obtain ⟨g', e', h'⟩ := kpace_s hm hn h0 hP ⟨p1, p2⟩ (by omega) hpa p5 hg
   refine ⟨g', ?_, h'⟩
   unfold kernel_Run_L1
   simp only
   rw [br_T (by omega), e', bd_ret, Out.on_go]
   simp only
   rw [ck_IR (by omega) (by omega)]) (fun g => by unfold kernel_Run_L1; exact br_F (by omega)) ([], M, r) ⟨by rw [Nat.zero_mul]; exact Stb.rfl' _, by rw [Nat.zero_mul]; rfl, by rw [Nat.zero_mul]; rfl⟩
 rw [show lp (kernel_Run_L1 t k N) ([], M, r, 0) = _ from e, bd_ret, Out.on_go]
 obtain ⟨D, M', r'⟩ := g
 obtain ⟨a1, a2, a3⟩ := hg
 simp only at a1 a2 a3
 subst a2 a3
 have hI := inv_st hm hn (N := N) h0 (last := R * P) (R * P) (by omega)
 have hIe := inv_st hm hn (N := N) h0 (last := R * P) (R * P + 7) (by omega)
 have hlen := hI.len
 have hDm : ∀ d ∈ D, ((R * P : Nat) : Int) ≤ d.due ∧ d.due ≤ ((R * P : Nat) : Int) + 5 ∧ 0 ≤ d.reg ∧ d.reg < t.regs ∧ InR d.v := fun d hd => hI.due d (a1.mem.1 hd)
 obtain ⟨S, e1, e2, e3⟩ := sortStable_s (D := D) (fun d hd => by have := hDm d hd; exact ⟨by omega, by omega⟩) (by rw [a1.1]; omega)
 obtain ⟨S', t1, t2, t3, t4, t5⟩ := tail_all hm hn (N := N) h0 p5 e2 (e3.symm.trans a1) 7 (by omega)
 have hnil : S' = [] := by
  cases hS' : S' with
  | nil => rfl
  | cons d S'' =>
   have hd : d ∈ (stS t k logs N ([], r, M) (R * P) (R * P + 7)).1 := t2.mem.1 (by rw [hS']; exact List.mem_cons_self ..)
   have q1 := (hIe.due d hd).1
   have q2 := t5 d hd
   omega
 refine ⟨(stS t k logs N ([], r, M) (R * P) (R * P + 7)).2.1, (stS t k logs N ([], r, M) (R * P) (R * P + 7)).2.2, ?_, rfl, hIe.regs, hIe.mem, fun h => absurd h hz, fun _ L hL => (by
  obtain rfl : L = R * P := by omega
  rfl)⟩
 simp only
 rw [land_m (A := S) (Z := []) e1 (List.append_nil _).symm (fun d hd => by have := hDm d (e3.mem.2 hd); have := hI.regs.len; omega) (fun d hd => by cases hd) (by rw [← e3.1, a1.1]; omega), bd_ret, t3, hnil, t4]
 rfl
end
theorem LayD.Ok.bk {y : LayD} (hy : y.Ok) : ∀ i : Nat, i < y.body.length → ∀ r ∈ usesL (ele y.body (i : Int)), 0 ≤ r.bk ∧ r.bk ≤ 3 := fun i hi r hr => (hy.us i hi r hr).2.2
def LayD.wp (y : LayD) (v : List Int) : LayD := { y with places := v }
structure PlOk (y : LayD) (v : List Int) : Prop where
 len : v.length = y.body.length
 bd : ∀ i : Nat, i < y.body.length → 0 ≤ ele v (i : Int) ∧ ele v (i : Int) ≤ 128
theorem LayD.Ok.wp {y : LayD} (hy : y.Ok) {v : List Int} (hv : PlOk y v) : (y.wp v).Ok :=
 ⟨hy.n, hy.lt, hy.lr, hv.len, hy.lo, hy.pace, hy.regs, hy.tm, hy.rd, fun i hi => by have := hv.bd i hi; exact ⟨by show -100000 ≤ ele v _; omega, by show ele v _ ≤ 100000; omega⟩, hy.us⟩
def oprAt (k : Krn) (order : List Int) (s : Nat) : Opr := ele k.ops (ele order (s : Int))
def SameO (o : Opr) (x : Stm) : Prop := o.op = x.op ∧ o.ar = x.ar ∧ o.sp = x.sp ∧ o.pl = x.pl ∧ o.n = x.n
def OrdP (l : Lp) (k : Krn) (order : List Int) (s : Nat) : Prop := (0 ≤ ele order (s : Int) ∧ ele order (s : Int) < l.body.length) ∧ (∀ i, i < s → ele order (i : Int) ≠ ele order (s : Int)) ∧ SameO (oprAt k order s) (ele l.body (s : Int))
structure LayP (l : Lp) (t : Tgt) (k : Krn) (order : List Int) : Prop where
 loop : LoopOk l
 tgt : tgtOk t = true
 may : KMayP t k l.logs
 n : k.ops.length = l.body.length
 no : order.length = l.body.length
 ord : ∀ s, s < l.body.length → OrdP l k order s
def KFine (l : Lp) (k : Krn) : Prop := ∀ i : Nat, i < k.ops.length → (lpO l.logs (ele k.ops (i : Int))).Fine
theorem lpO_fine' {l : Lp} (hf : l.Fine) {o : Opr} (ho : InR o.op ∧ InR o.ar ∧ InR o.sp ∧ InR o.pl ∧ InR o.n) : (lpO l.logs o).Fine := by
 have h0 : InR 0 := by unfold InR; omega
 have h2 : InR 2 := by unfold InR; omega
 refine ⟨hf.rlogs, fun u hu => ?_, fun u hu => (by cases hu), hf.llogs, by show 2 ≤ maxLen; rw [maxLen_eq]; omega, by show 0 ≤ maxLen; omega⟩
 have hu' : u = turnS ∨ u = stmO o := by
  rcases List.mem_cons.1 hu with h | h
  ·exact .inl h
  ·exact .inr (List.mem_singleton.1 h)
 rcases hu' with rfl | rfl
 ·exact ⟨h2, h0, h0, h0, h0, h0, h0, h0, h0⟩
 ·exact ⟨ho.1, h0, h0, h0, h0, ho.2.1, ho.2.2.1, ho.2.2.2.1, ho.2.2.2.2⟩
theorem kfine_of {l : Lp} (hf : l.Fine) {k : Krn} {w : World} {v : Value} (hK : KrnRep w v k) : KFine l k := fun i hi => by
 have ho := hK.rops _ (ele_mem' hi)
 unfold Opr.InRo at ho
 exact lpO_fine' hf ⟨ho _ (by simp), ho _ (by simp), ho _ (by simp), ho _ (by simp), ho _ (by simp)⟩
theorem list_eq {α : Type} [Inhabited α] {a b : List α} : a = b ↔ (a.length = b.length ∧ ∀ i : Nat, i < a.length → ele a (i : Int) = ele b (i : Int)) := by
 constructor
 ·rintro rfl; exact ⟨rfl, fun _ _ => rfl⟩
 ·rintro ⟨h1, h2⟩
  apply List.ext_getElem h1
  intro i hi hi'
  have := h2 i hi
  simpa [ele_nat, List.getD_eq_getElem?_getD, hi, hi'] using this
theorem Numbers_s (a b : List Int) (h : a.length ≤ 9223372036854775806) : R3_Numbers_m a b = some (tb (a = b)) := by
 unfold R3_Numbers_m
 by_cases h0 : a.length = b.length
 ·rw [show (ln a != ln b) = false from by unfold ln; simp; omega, br_false]
  rcases lp_all (f := R3_Numbers_L0 a b) (n := a.length) (p := fun i => ele a (i : Int) = ele b (i : Int)) (fun i hi _ => by
    have e : R3_Numbers_L0 a b i = br (!tb (ele a (i : Int) = ele b (i : Int))) (some (.ret false)) (some (.next ((i : Int) + 1))) := by
     unfold R3_Numbers_L0
     rw [br_T (by unfold ln; omega), ck_IX (by omega) (by unfold ln; omega), ck_IX (by omega) (by unfold ln; omega), ck_IR (by omega) (by omega), neB]
    rw [e]
    exact ⟨fun h => by rw [tb_t h]; rfl, fun h => by rw [tb_f h]; rfl⟩) (by unfold R3_Numbers_L0; exact br_F (by unfold ln; omega)) with ⟨h1, e1⟩ | ⟨h1, e1⟩
  ·rw [e1, bd_ret, Out.on_go, tb_t (list_eq.2 ⟨h0, h1⟩)]
  ·rw [e1, bd_ret, Out.on_ret, tb_f fun hh => h1 (list_eq.1 hh).2]
 ·rw [show (ln a != ln b) = true from by unfold ln; simp; omega, br_true, tb_f fun hh => h0 (by rw [hh])]
theorem Words_s (a b : List (List Int)) (h : a.length ≤ 9223372036854775806) (h2 : ∀ r ∈ a, r.length ≤ 9223372036854775806) : R3_Words_m a b = some (tb (a = b)) := by
 unfold R3_Words_m
 by_cases h0 : a.length = b.length
 ·rw [show (ln a != ln b) = false from by unfold ln; simp; omega, br_false]
  rcases lp_all (f := R3_Words_L0 a b) (n := a.length) (p := fun i => ele a (i : Int) = ele b (i : Int)) (fun i hi _ => by
    have e : R3_Words_L0 a b i = br (!tb (ele a (i : Int) = ele b (i : Int))) (some (.ret false)) (some (.next ((i : Int) + 1))) := by
     have hr := ele_all (p := fun r : List Int => r.length ≤ 9223372036854775806) h2 hi
     unfold R3_Words_L0
     rw [br_T (by unfold ln; omega), ck_IX (by omega) (by unfold ln; omega), ck_IX (by omega) (by unfold ln; omega), ck_IR (by omega) (by omega), Numbers_s _ _ hr, bd_ret]
    rw [e]
    exact ⟨fun h => by rw [tb_t h]; rfl, fun h => by rw [tb_f h]; rfl⟩) (by unfold R3_Words_L0; exact br_F (by unfold ln; omega)) with ⟨h1, e1⟩ | ⟨h1, e1⟩
  ·rw [e1, bd_ret, Out.on_go, tb_t (list_eq.2 ⟨h0, h1⟩)]
  ·rw [e1, bd_ret, Out.on_ret, tb_f fun hh => h1 (list_eq.1 hh).2]
 ·rw [show (ln a != ln b) = true from by unfold ln; simp; omega, br_true, tb_f fun hh => h0 (by rw [hh])]
noncomputable def R5_Wrong_m (t : Tgt) (k_ : Krn) (regs : List Int) (memory : List (List Int)) (turns : Int) : Option (Int) :=
 bd (R5_Logs_m memory) fun x3 =>
 bdG (!(!x3.2)) (R5_May_m t k_ x3.1) fun x7 =>
 br (((!x3.2) || (!x7)) || ((ln regs) != t.regs)) (
 some 2) (
 br ((decide (turns < 0)) || (decide (turns > 200))) (
 some 3) (
 some 0))
noncomputable def roundelaylaw_work_m (k_ : Krn) (turns : Int) : Option (Bool) :=
 ck ((!(((decide (turns > 300)) || (decide (k_.stages > 2000))) || (decide (k_.pace > 300)))) = true → IR (turns + k_.stages)) <|
 ck ((!(((decide (turns > 300)) || (decide (k_.stages > 2000))) || (decide (k_.pace > 300)))) = true → IR ((turns + k_.stages) * k_.pace)) <|
 some ((((decide (turns > 300)) || (decide (k_.stages > 2000))) || (decide (k_.pace > 300))) || (decide (((turns + k_.stages) * k_.pace) > 20000)))
noncomputable def roundelaylaw_KernelRuns_m (t : Tgt) (k_ : Krn) (regs : List Int) (memory : List (List Int)) (turns : Int) : Option (Bool) :=
 bd (R5_Logs_m memory) fun x3 =>
 bdG (x3.2) (kernel_May_m t k_ x3.1) fun x7 =>
 bdG (x3.2) (R5_May_m t k_ x3.1) fun x10 =>
 br (x3.2 && (!(x7 == x10))) (
 some false) (
 bd (R5_Wrong_m t k_ regs memory turns) fun x16 =>
 bdG (x16 == 0) (roundelaylaw_work_m k_ turns) fun x19 =>
 br ((x16 == 0) && x19) (
 some true) (
 bd (kernel_Run_m t k_ regs memory turns) fun x25 =>
 br (x16 != 0) (
 ck ((x25.2.2 == x16) = true → IR ((ln x25.1) + (ln x25.2.1))) <|
 some ((x25.2.2 == x16) && (((ln x25.1) + (ln x25.2.1)) == 0))) (
 bd (R5_Play_m t k_ regs memory turns) fun x34 =>
 bdG (x25.2.2 == 0) (R3_Numbers_m x25.1 x34.1) fun x38 =>
 bdG ((x25.2.2 == 0) && x38) (R3_Words_m x25.2.1 x34.2) fun x41 =>
 some (((x25.2.2 == 0) && x38) && x41))))
section
variable {t : Tgt} {k : Krn} {M : List (List Int)}
theorem logs_memG (h : LogOk M) (hr : RowsOk M) : MemG (logsV M) M := by
 refine ⟨by unfold logsV; simp, fun i hi => ?_, hr.rng⟩
 have h5 := h i hi
 have e := (lgN_iff h5).1 rfl
 have hp := pow2L h5
 rw [show M.getD i [] = ele M (i : Int) from rfl, show (⟨logsV M, [], []⟩ : Lp).logs.getD i 0 = ele (logsV M) (i : Int) from rfl, show ele (logsV M) (i : Int) = (lgN (ele M (i : Int)).length : Int) from ele_rm hi, Int.toNat_natCast]
 omega
theorem logs_fine (hr : RowsOk M) : (⟨logsV M, [], []⟩ : Lp).Fine := by
 refine ⟨fun x hx => ?_, fun x hx => (by cases hx), fun x hx => (by cases hx), by show (logsV M).length ≤ maxLen; unfold logsV; rw [List.length_map, List.length_range]; exact hr.len, by show 0 ≤ maxLen; omega, by show 0 ≤ maxLen; omega⟩
 unfold logsV at hx
 obtain ⟨i, _, rfl⟩ := List.mem_map.1 hx
 have := lgN_le (ele M (i : Int)).length
 constructor <;> omega
theorem work_s (k : Krn) {N : Int} (h : 0 ≤ N) (hs : 0 ≤ k.stages) (hp : 0 ≤ k.pace) : ∃ b, roundelaylaw_work_m k N = some b := by
 unfold roundelaylaw_work_m
 rw [ck_imp fun h => by
   rw [Bool.not_eq_true', Bool.or_eq_false_iff, Bool.or_eq_false_iff, decide_eq_false_iff_not, decide_eq_false_iff_not, decide_eq_false_iff_not] at h
   exact ⟨by omega, by omega⟩, ck_imp fun h => by
   rw [Bool.not_eq_true', Bool.or_eq_false_iff, Bool.or_eq_false_iff, decide_eq_false_iff_not, decide_eq_false_iff_not, decide_eq_false_iff_not] at h
   have h1 := Int.mul_le_mul (show N + k.stages ≤ 2300 by omega) (show k.pace ≤ 300 by omega) hp (by omega)
   have h2 := Int.mul_nonneg (show 0 ≤ N + k.stages by omega) hp
   exact ⟨by omega, by omega⟩]
 exact ⟨_, rfl⟩
theorem bad_both {r : List Int} {N : Int} (hl : M.length ≤ 5864062014634) (hr : RowsOk M) (hf : ∀ i : Nat, i < k.ops.length → (lpO (logsV M) (ele k.ops (i : Int))).Fine) (hrl : r.length ≤ maxLen)
  (h : ¬ (LogOk M ∧ KMayP t k (logsV M) ∧ (r.length : Int) = t.regs ∧ 0 ≤ N ∧ N ≤ 200)) : ∃ e, (e = 2 ∨ e = 3) ∧ R5_Wrong_m t k r M N = some e ∧ kernel_Run_m t k r M N = some ([], [], e) := by
 unfold R5_Wrong_m kernel_Run_m
 rw [rLogs_all hl, pLogs_all hl hr.lens, bd_ret, bd_ret]
 by_cases h1 : LogOk M
 ·rw [tb_t h1]
  show ∃ e, (e = 2 ∨ e = 3) ∧ (bd (R5_May_m t k (logsV M)) _) = some e ∧ (bd (kernel_May_m t k (logsV M)) _) = _
  rw [kMay_s hf, pMay_s hf, bd_ret, bd_ret]
  by_cases h2 : KMayP t k (logsV M)
  ·rw [tb_t h2]
   by_cases h3 : (r.length : Int) = t.regs
   ·have e3 : (ln r != t.regs) = false := by unfold ln; rw [bne_eq_false_iff_eq]; exact h3
    have hN : N < 0 ∨ N > 200 := by
     by_cases q1 : 0 ≤ N
     ·by_cases q2 : N ≤ 200
      ·exact absurd ⟨h1, h2, h3, q1, q2⟩ h
      ·omega
     ·omega
    refine ⟨3, .inr rfl, ?_⟩
    show (br (false || false || (ln r != t.regs)) _ _) = _ ∧ (br (false || false || (ln r != t.regs)) _ _) = _
    rw [e3, Bool.or_self, Bool.or_self, br_false, br_false, show (decide (N < 0) || decide (N > 200)) = true from by rw [Bool.or_eq_true, decide_eq_true_eq, decide_eq_true_eq]; omega, br_true, br_true]
    exact ⟨rfl, rfl⟩
   ·have e3 : (ln r != t.regs) = true := by unfold ln; rw [bne_iff_ne]; exact h3
    refine ⟨2, .inl rfl, ?_⟩
    show (br (false || false || (ln r != t.regs)) _ _) = _ ∧ (br (false || false || (ln r != t.regs)) _ _) = _
    rw [e3, Bool.or_true, br_true, br_true]
    exact ⟨rfl, rfl⟩
  ·rw [tb_f h2]
   exact ⟨2, .inl rfl, rfl, rfl⟩
 ·rw [tb_f h1]
  exact ⟨2, .inl rfl, rfl, rfl⟩
theorem good_wrong {r : List Int} {N : Int} (hl : M.length ≤ 5864062014634) (hf : ∀ i : Nat, i < k.ops.length → (lpO (logsV M) (ele k.ops (i : Int))).Fine)
  (h1 : LogOk M) (h2 : KMayP t k (logsV M)) (h3 : (r.length : Int) = t.regs) (h4 : 0 ≤ N ∧ N ≤ 200) : R5_Wrong_m t k r M N = some 0 := by
 unfold R5_Wrong_m
 rw [rLogs_all hl, bd_ret, tb_t h1]
 show (bd (R5_May_m t k (logsV M)) _) = _
 rw [kMay_s hf, bd_ret, tb_t h2]
 have e3 : (ln r != t.regs) = false := by unfold ln; rw [bne_eq_false_iff_eq]; exact h3
 show (br (false || false || (ln r != t.regs)) _ _) = _
 rw [e3, Bool.or_self, Bool.or_self, br_false, show (decide (N < 0) || decide (N > 200)) = false from by rw [Bool.or_eq_false_iff, decide_eq_false_iff_not, decide_eq_false_iff_not]; omega, br_false]
theorem run_s {r : List Int} {N : Nat} (hl : M.length ≤ 5864062014634) (hr : RowsOk M) (hf : ∀ i : Nat, i < k.ops.length → (lpO (logsV M) (ele k.ops (i : Int))).Fine) (hrr : ∀ v ∈ r, InR v)
  (h1 : LogOk M) (h2 : KMayP t k (logsV M)) (h3 : (r.length : Int) = t.regs) (h4 : N ≤ 200) :
  ∃ r' M', kernel_Run_m t k r M N = some (r', M', 0) ∧ R5_Play_m t k r M N = some (r', M') ∧ RegsG t r' ∧ MemG (logsV M) M' ∧ (N = 0 → r' = r ∧ M' = M) ∧ (1 ≤ N → ∀ L : Nat, ((N : Int) + k.stages - 1) * k.pace = L → r' = (stS t k (logsV M) N ([], r, M) L (L + 7)).2.1) :=
 runs_both h2 (fun i hi => ((hf i hi).rbody (stmO (ele k.ops (i : Int))) (List.mem_cons_of_mem _ (List.mem_cons_self ..))).2.2.2.2.2.2.2.2) h4 ⟨h3, hrr⟩ (logs_memG h1 hr) (by rw [pLogs_all hl hr.lens, tb_t h1]; rfl) (by rw [rLogs_all hl, tb_t h1]; rfl) (by rw [pMay_s hf, tb_t h2])
theorem KernelRuns_main {r : List Int} {N : Int} (hl : M.length ≤ 5864062014634) (hr : RowsOk M) (hf : ∀ i : Nat, i < k.ops.length → (lpO (logsV M) (ele k.ops (i : Int))).Fine) (hrr : ∀ v ∈ r, InR v) (hrl : r.length ≤ maxLen) :
  roundelaylaw_KernelRuns_m t k r M N = some true := by
 unfold roundelaylaw_KernelRuns_m
 rw [rLogs_all hl, bd_ret]
 have hsame : ∀ x : Option Bool, (bdG (bif tb (LogOk M) then (logsV M, true) else ([], false) : List Int × Bool).2 (kernel_May_m t k (bif tb (LogOk M) then (logsV M, true) else ([], false) : List Int × Bool).1) fun x7 =>
   bdG (bif tb (LogOk M) then (logsV M, true) else ([], false) : List Int × Bool).2 (R5_May_m t k (bif tb (LogOk M) then (logsV M, true) else ([], false) : List Int × Bool).1) fun x10 =>
   br ((bif tb (LogOk M) then (logsV M, true) else ([], false) : List Int × Bool).2 && (!(x7 == x10))) (some false) x) = x := fun x => by
  by_cases h1 : LogOk M
  ·rw [tb_t h1]
   show (bd (kernel_May_m t k (logsV M)) _) = _
   rw [pMay_s hf, bd_ret]
   show (bd (R5_May_m t k (logsV M)) _) = _
   rw [kMay_s hf, bd_ret, beq_self_eq_true]; rfl
  ·rw [tb_f h1]; rfl
 rw [hsame]
 by_cases h : LogOk M ∧ KMayP t k (logsV M) ∧ (r.length : Int) = t.regs ∧ 0 ≤ N ∧ N ≤ 200
 ·obtain ⟨h1, h2, h3, h4, h5⟩ := h
  have hp := h2.pace
  have hs := h2.stages
  have hR := tgtOk_iff.1 h2.tgt
  obtain ⟨b, hb⟩ := work_s k h4 (by omega) (by omega)
  rw [good_wrong hl hf h1 h2 h3 ⟨h4, h5⟩, bd_ret, show ((0 : Int) == 0) = true from rfl, bdG_t, hb, bd_ret, Bool.true_and]
  cases b with
  | true => rfl
  | false =>
   obtain ⟨n, rfl⟩ := Int.eq_ofNat_of_zero_le h4
   obtain ⟨r', M', e1, e2, e3, e4, _⟩ := run_s hl hr hf hrr h1 h2 h3 (show n ≤ 200 by omega)
   have hrl' := e3.len
   have hsm := memG_small h2 e4
   rw [br_false, e1, bd_ret, show ((0 : Int) != 0) = false from rfl, br_false, e2, bd_ret]
   show (bdG true (R3_Numbers_m r' r') _) = _
   rw [bdG_t, Numbers_s _ _ (by omega), bd_ret, tb_t rfl]
   show (bdG true (R3_Words_m M' M') _) = _
   rw [bdG_t, Words_s _ _ (by omega) (fun q hq => by have := hsm.2 q hq; omega), bd_ret, tb_t rfl]
   rfl
 ·obtain ⟨e, he, e1, e2⟩ := bad_both (N := N) hl hr hf hrl h
  rw [e1, bd_ret, show (e == 0) = false from by rw [beq_eq_false_iff_ne]; omega, bdG_f, Bool.false_and, br_false, e2, bd_ret, show (e != 0) = true from by rw [bne_iff_ne]; omega, br_true, ck_imp (fun _ => ⟨by unfold ln; simp, by unfold ln; simp⟩)]
  rw [show (e == e) = true from beq_self_eq_true e]; rfl
theorem KernelRuns_true (t : Tgt) (k : Krn) (r : List Int) (M : List (List Int)) (N : Int) {w : World} {v : Value} (hK : KrnRep w v k) (hrr : ∀ u ∈ r, InR u) (hrl : r.length ≤ maxLen) (hM : RowsOk M) (hl : M.length ≤ 5864062014634) (ra : -9223372036854775808 ≤ N ∧ N ≤ 9223372036854775807) :
  roundelaylaw_KernelRuns_m t k r M N = some true := KernelRuns_main hl hM (kfine_of (logs_fine hM) hK) hrr hrl
end
end Go.Rd
end
section
namespace Go.Rd
open Go
def fcell (p : Value × Opr × Int × Int) : List Value := [p.1]
theorem fcell_len : ∀ p : Value × Opr × Int × Int, (fcell p).length = 1 := fun _ => rfl
def ClosK (fn : Nat) (pm : Value) (k : World) (B : List (Value × Opr × Int × Int)) : Prop := ∀ p ∈ B, ∃ pa po pt, p.1 = .func (.func fn) #[] #[.pointer (some pa), pm, .pointer (some po), .pointer (some pt)] ∧ CellsAt k pa [i64v p.2.2.2] 0 ∧ CellsAt k po p.2.1.cells 0 ∧ CellsAt k pt [i64v p.2.2.1] 0
theorem ClosK.nil {fn : Nat} {pm : Value} {k : World} : ClosK fn pm k [] := fun p hp => by cases hp
theorem ClosK.le {fn : Nat} {pm : Value} {k k' : World} {B : List (Value × Opr × Int × Int)} (h : ClosK fn pm k B) (hl : Le k k') : ClosK fn pm k' B := fun p hp => by
 obtain ⟨a, b, c, h0, h1, h2, h3⟩ := h p hp
 exact ⟨a, b, c, h0, h1.mono hl, h2.mono hl, h3.mono hl⟩
theorem ClosK.snoc {fn : Nat} {pm : Value} {k : World} {B : List (Value × Opr × Int × Int)} {pa po pt : Addr} {o : Opr} {t a : Int} (h : ClosK fn pm k B) (h1 : CellsAt k pa [i64v a] 0) (h2 : CellsAt k po o.cells 0) (h3 : CellsAt k pt [i64v t] 0) :
  ClosK fn pm k (B ++ [(.func (.func fn) #[] #[.pointer (some pa), pm, .pointer (some po), .pointer (some pt)], o, t, a)]) := fun p hp => by
 rcases List.mem_append.1 hp with hp | hp
 ·exact h p hp
 ·simp at hp; subst hp; exact ⟨pa, po, pt, rfl, h1, h2, h3⟩
theorem ClosK.ix {fn : Nat} {pm : Value} {k : World} {B : List (Value × Opr × Int × Int)} {xs : List (Opr × Int × Int)} (h : ClosK fn pm k B) (hB : B.map (·.2) = xs) {i : Int} (hi : IX i (ln xs)) :
  ∃ pa po pt, (∀ (w : World) (v : Value), Arr w v 1 (B.map fcell) → ∀ p, ElemP v i 1 p → CellsAt w p [.func (.func fn) #[] #[.pointer (some pa), pm, .pointer (some po), .pointer (some pt)]] 0)
   ∧ CellsAt k pa [i64v (ele xs i).2.2] 0 ∧ CellsAt k po (ele xs i).1.cells 0 ∧ CellsAt k pt [i64v (ele xs i).2.1] 0 := by
 subst hB
 have hl : i.toNat < B.length := by have := hi.2; unfold ln at this; rw [List.length_map] at this; have := hi.1; omega
 obtain ⟨pa, po, pt, h0, h1, h2, h3⟩ := h B[i.toNat] (List.getElem_mem hl)
 have e : ele (B.map (·.2)) i = B[i.toNat].2 := by unfold ele; simp [List.getD_eq_getElem?_getD, List.getElem?_eq_getElem hl]
 refine ⟨pa, po, pt, fun w v ha p hp => ?_, by rw [e]; exact h1, by rw [e]; exact h2, by rw [e]; exact h3⟩
 have := ha.row i.toNat (fcell B[i.toNat]) p (by simp [List.getElem?_eq_getElem hl]) (by rwa [Int.toNat_of_nonneg hi.1])
 rw [← h0]; exact this
theorem clos_map {B : List (Value × Opr × Int × Int)} {xs : List (Opr × Int × Int)} {u : Value} {r : Opr × Int × Int} (h : B.map (·.2) = xs) : (B ++ [(u, r)]).map (·.2) = xs ++ [r] := by rw [List.map_append, h]; rfl
theorem clo_one {u : Value} {r : Opr × Int × Int} (h : u.oneCell' = true) : ∀ p ∈ [(u, r)], ∀ c ∈ fcell p, c.oneCell' = true := fun p hp c hc => by
 simp at hp; subst hp
 simp [fcell] at hc; subst hc
 exact h
theorem AL.c1 {B : List (Value × Opr × Int × Int)} {xs : List (Opr × Int × Int)} {b : Nat} (h : B.map (·.2) = xs) (ha : AL xs.length b) : B.length ≤ maxLen := by subst h; have := ha.1; rwa [List.length_map] at this
theorem AL.c2 {B : List (Value × Opr × Int × Int)} {xs : List (Opr × Int × Int)} {b : Nat} (h : B.map (·.2) = xs) (ha : AL xs.length b) : B.length * b ≤ 140737488355328 := by subst h; have := ha.2; rwa [List.length_map] at this
theorem slen_clo {v : Value} {B : List (Value × Opr × Int × Int)} {xs : List (Opr × Int × Int)} (h : B.map (·.2) = xs) (hs : SliceLen v B.length) : SliceLen v xs.length := by subst h; rwa [List.length_map]
end Go.Rd
end
section
namespace Go.Proofs.Ytaimbkndebaaiab
open Go.Rd
namespace TNum
theorem en101 : Go.Rd.Enters Try.prog 101 := eT Try.func101
theorem en121 : Go.Rd.Enters Try.prog 121 := eT Try.func121
theorem en136 : Go.Rd.Enters Try.prog 136 := eT Try.func136
theorem en45 : Go.Rd.Enters Try.prog 45 := eT Try.func45
theorem en75 : Go.Rd.Enters Try.prog 75 := eT Try.func75
end TNum
open TNum
theorem num_Index_c1_w {n_ : Int} {r : Bool} (w : World) (hm : num_Index_c1_m n_ = some r)  : Calls Try.prog 136 #[.int .i64 n_] w (fun e w' => e = .returned (.bool r) ∧ Grow w w') := by
 unfold num_Index_c1_m at hm
 have hk := Base.rfl (w := w)
 refine calls_of_WC (n := 9) (args := [i_ n_]) Try.func136 Z Z (nl Z) ?_ (Own.startK hk (Own.start w))
 refine sr (wa Z (ns (wm Z (wq Z (QV.geq Z Z Z Z) (wm Z (gp Z (fun hG => QV.move Z Z) (gp Z (fun hG => QV.leq Z hG Z Z) (wq Z (QV.pickAnd Z Z Z (fun h => h)) (wa Z ?_)))))))))
 refine nt (WC.ret ?_)
 obtain rfl := (eq_of_some hm).symm
 exact WQ.ret1 Z Z fun w hw => kg hw
theorem num_Index_w {step plus turn log r : Int} (w : World) (hm : num_Index_m step plus turn log = some r)  : Calls Try.prog 120 #[.int .i64 step, .int .i64 plus, .int .i64 turn, .int .i64 log] w (fun e w' => e = .returned (.int .i64 r) ∧ Grow w w') := by
 unfold num_Index_m at hm
 have hk := Base.rfl (w := w)
 refine calls_of_WC (n := 45) (args := [i_ step, i_ plus, i_ turn, i_ log]) Try.func120 Z Z (nl Z) ?_ (Own.startK hk (Own.start w))
 refine sr (wa Z (ns (wa Z (nt (WC.seq (sr (wm Z (wq Z (QV.lss Z Z Z Z) (wm Z (gn Z (fun hG => QV.move Z Z) (gn Z (fun hG => QV.gtr Z hG Z Z) ?_)))))))))))
 refine wq Z (QV.pickOr Z Z Z (fun h => notF h)) (wm Z (gn Z (fun hG => QV.move Z Z) (gn Z (fun hG => QV.move Z Z) ?_)))
 obtain ⟨x1, hx2, hm3⟩ := bdG_some hm; clear hm
 refine gn Z (fun hG => QV.callV en136 Z hG (EvAll.cons Z hG eN) (fun w hw => have h := num_Index_c1_w w (hx2 hG) ; h)) (gn Z (fun hG => QV.not Z hG) (wq Z (QV.pickOr Z Z Z (fun h => notF h)) (wm Z (gn Z (fun hG => QV.move Z Z) (gn Z (fun hG => QV.move Z Z) ?_)))))
 obtain ⟨x4, hx5, hm6⟩ := bdG_some hm3; clear hm3
 refine gn Z (fun hG => QV.callV en136 Z hG (EvAll.cons Z hG eN) (fun w hw => have h := num_Index_c1_w w (hx5 hG) ; h)) (gn Z (fun hG => QV.not Z hG) (wq Z (QV.pickOr Z Z Z (fun h => notF h)) (wm Z (gn Z (fun hG => QV.move Z Z) (gn Z (fun hG => QV.lss Z hG Z Z) (wq Z (QV.pickOr Z Z Z (fun h => notF h)) (wm Z (gn Z (fun hG => QV.move Z Z) (gn Z (fun hG => QV.gtr Z hG Z Z) ?_)))))))))
 refine wq Z (QV.pickOr Z Z Z (fun h => notF h)) (nt ?_)
 refine wc Z hm6 (fun h7 hm8 => ?_) (fun h7 hm9 => ?_) <;> clear hm6
 ·skip
  refine sr (wa Z (nt (WC.ret (tr ?_))))
  obtain rfl := (eq_of_some hm8).symm
  exact WQ.ret1 Z Z fun w hw => kg hw
 refine sk (WQ.then (sr (wm Z (wm Z ?_))))
 obtain ⟨c10, c12, c14, c16, hm17⟩ := cs4 hm9; clear hm9
 refine wq Z (QV.mul Z Z Z Z c10) (wm Z (wq Z (QV.add Z Z Z Z c12) (wm Z (wq Z (QV.shlD Z Z Z Z c14) (wq Z (QV.sub Z Z Z Z c16) (wq Z (QV.andW Z Z Z Z) (wa Z (nt (WC.ret ?_)))))))))
 obtain rfl := (eq_of_some hm17).symm
 exact WQ.ret1 Z Z fun w hw => kg hw
theorem num_Op_c1_w {is : Bool} {r : Int} (w : World) (hm : num_Op_c1_m is = some r)  : Calls Try.prog 121 #[.bool is] w (fun e w' => e = .returned (.int .i64 r) ∧ Grow w w') := by
 unfold num_Op_c1_m at hm
 have hk := Base.rfl (w := w)
 refine calls_of_WC (n := 4) (args := [.bool is]) Try.func121 Z Z (nl Z) ?_ (Own.startK hk (Own.start w))
 refine sr (wa Z (nt (WC.seq (sr (wm Z (nt ?_))))))
 refine wc Z hm (fun h1 hm2 => ?_) (fun h1 hm3 => ?_) <;> clear hm
 ·skip
  refine sr (wa Z (nt (WC.ret (tr ?_))))
  obtain rfl := (eq_of_some hm2).symm
  exact WQ.ret1 Z Z fun w hw => kg hw
 refine sk (WQ.then (sr (wa Z (nt (WC.ret ?_)))))
 obtain rfl := (eq_of_some hm3).symm
 exact WQ.ret1 Z Z fun w hw => kg hw
theorem num_Op_w {op a b r : Int} (w : World) (hm : num_Op_m op a b = some r)  : Calls Try.prog 98 #[.int .i64 op, .int .i64 a, .int .i64 b] w (fun e w' => e = .returned (.int .i64 r) ∧ Grow w w') := by
 unfold num_Op_m at hm
 have hk := Base.rfl (w := w)
 refine calls_of_WC (n := 53) (args := [i_ op, i_ a, i_ b]) Try.func98 Z Z (nl Z) ?_ (Own.startK hk (Own.start w))
 refine sr (wa Z (ns (wa Z (nt (WC.seq (sr (wm Z (nt (WC.block (sr (wq Z (QV.eql Z Z Z Z) (wa Z (nt ?_)))))))))))))
 refine wc Z hm (fun h1 hm2 => ?_) (fun h1 hm3 => ?_) <;> clear hm
 ·skip
  refine sr (wm Z (wm Z (wq Z (QV.addW Z Z Z Z) (wa Z (nt (WC.ret (kr (tr ?_))))))))
  obtain rfl := (eq_of_some hm2).symm
  exact WQ.ret1 Z Z fun w hw => kg hw
 refine sr (wq Z (QV.eql Z Z Z Z) (wa Z (nt ?_)))
 refine wc Z hm3 (fun h4 hm5 => ?_) (fun h4 hm6 => ?_) <;> clear hm3
 ·skip
  refine sr (wm Z (wm Z (wq Z (QV.subW Z Z Z Z) (wa Z (nt (WC.ret (kr (tr ?_))))))))
  obtain rfl := (eq_of_some hm5).symm
  exact WQ.ret1 Z Z fun w hw => kg hw
 refine sr (wq Z (QV.eql Z Z Z Z) (wa Z (nt ?_)))
 refine wc Z hm6 (fun h7 hm8 => ?_) (fun h7 hm9 => ?_) <;> clear hm6
 ·skip
  refine sr (wm Z (wm Z (wq Z (QV.mulW Z Z Z Z) (wa Z (nt (WC.ret (kr (tr ?_))))))))
  obtain rfl := (eq_of_some hm8).symm
  exact WQ.ret1 Z Z fun w hw => kg hw
 refine sr (wq Z (QV.eql Z Z Z Z) (wa Z (nt ?_)))
 refine wc Z hm9 (fun h10 hm11 => ?_) (fun h10 hm12 => ?_) <;> clear hm9
 ·skip
  refine sr (wm Z (wm Z (wq Z (QV.andW Z Z Z Z) (wa Z (nt (WC.ret (kr (tr ?_))))))))
  obtain rfl := (eq_of_some hm11).symm
  exact WQ.ret1 Z Z fun w hw => kg hw
 refine sr (wq Z (QV.eql Z Z Z Z) (wa Z (nt ?_)))
 refine wc Z hm12 (fun h13 hm14 => ?_) (fun h13 hm15 => ?_) <;> clear hm12
 ·skip
  refine sr (wm Z (wm Z (wq Z (QV.orW Z Z Z Z) (wa Z (nt (WC.ret (kr (tr ?_))))))))
  obtain rfl := (eq_of_some hm14).symm
  exact WQ.ret1 Z Z fun w hw => kg hw
 refine sr (wq Z (QV.eql Z Z Z Z) (wa Z (nt ?_)))
 refine wc Z hm15 (fun h16 hm17 => ?_) (fun h16 hm18 => ?_) <;> clear hm15
 ·skip
  refine sr (wm Z (wm Z (wq Z (QV.xorW Z Z Z Z) (wa Z (nt (WC.ret (kr (tr ?_))))))))
  obtain rfl := (eq_of_some hm17).symm
  exact WQ.ret1 Z Z fun w hw => kg hw
 refine sr (wq Z (QV.eql Z Z Z Z) (wa Z (nt ?_)))
 refine wc Z hm18 (fun h19 hm20 => ?_) (fun h19 hm24 => ?_) <;> clear hm18
 ·skip
  refine sr (wm Z (wm Z (wm Z (wq Z (QV.lss Z Z Z Z) ?_))))
  obtain ⟨x21, hx22, hm23⟩ := bd_some hm20; clear hm20
  refine wq Z (QV.callV en121 Z Z (ec Z eN) (fun w hw => have h := num_Op_c1_w w hx22 ; h)) (wa Z (nt (WC.ret (kr (tr ?_)))))
  obtain rfl := (eq_of_some hm23).symm
  exact WQ.ret1 Z Z fun w hw => kg hw
 refine sr (wq Z (QV.eql Z Z Z Z) (wa Z (nt ?_)))
 refine wc Z hm24 (fun h25 hm26 => ?_) (fun h25 hm30 => ?_) <;> clear hm24
 ·skip
  refine sr (wm Z (wm Z (wm Z (wq Z (QV.eql Z Z Z Z) ?_))))
  obtain ⟨x27, hx28, hm29⟩ := bd_some hm26; clear hm26
  refine wq Z (QV.callV en121 Z Z (ec Z eN) (fun w hw => have h := num_Op_c1_w w hx28 ; h)) (wa Z (nt (WC.ret (kr (tr ?_)))))
  obtain rfl := (eq_of_some hm29).symm
  exact WQ.ret1 Z Z fun w hw => kg hw
 refine sk (WQ.block (WQ.then (sr (wa Z (nt (WC.ret ?_))))))
 obtain rfl := (eq_of_some hm30).symm
 exact WQ.ret1 Z Z fun w hw => kg hw
theorem num_Class_w {op r : Int} (w : World) (hm : num_Class_m op = some r)  : Calls Try.prog 48 #[.int .i64 op] w (fun e w' => e = .returned (.int .i64 r) ∧ Grow w w') := by
 unfold num_Class_m at hm
 have hk := Base.rfl (w := w)
 refine calls_of_WC (n := 9) (args := [i_ op]) Try.func48 Z Z (nl Z) ?_ (Own.startK hk (Own.start w))
 refine sr (wa Z (nt (WC.seq (sr (wm Z (nt (WC.block (WC.seq (sr (wq Z (QV.eql Z Z Z Z) (wa Z (nt ?_))))))))))))
 refine wc Z hm (fun h1 hm2 => ?_) (fun h1 hm9 => ?_) <;> clear hm
 ·skip
  refine sk (WQ.then ?_)
  refine wc Z hm2 (fun h3 hm4 => ?_) (fun h3 hm5 => ?_) <;> clear hm2
  ·skip
   refine sr (wa Z (nt (WC.ret (kr (tr ?_)))))
   obtain rfl := (eq_of_some hm4).symm
   exact WQ.ret1 Z Z fun w hw => kg hw
  refine sr (wq Z (QV.eql Z Z Z Z) (wa Z (nt ?_)))
  refine wc Z hm5 (fun h6 hm7 => ?_) (fun h6 hm8 => ?_) <;> clear hm5
  ·skip
   refine sr (wa Z (nt (WC.ret (kr (tr ?_)))))
   obtain rfl := (eq_of_some hm7).symm
   exact WQ.ret1 Z Z fun w hw => kg hw
  refine sk (WQ.block (WQ.then (sr (wa Z (nt (WC.ret ?_))))))
  obtain rfl := (eq_of_some hm8).symm
  exact WQ.ret1 Z Z fun w hw => kg hw
 refine WC.region (wq Z (QV.eql Z Z Z Z) (wa Z (nt ?_)))
 refine wc Z hm9 (fun h10 hm11 => ?_) (fun h10 hm12 => ?_) <;> clear hm9
 ·skip
  refine sr (wa Z (nt (WC.ret (kr (tr ?_)))))
  obtain rfl := (eq_of_some hm11).symm
  exact WQ.ret1 Z Z fun w hw => kg hw
 refine sr (wq Z (QV.eql Z Z Z Z) (wa Z (nt ?_)))
 refine wc Z hm12 (fun h13 hm14 => ?_) (fun h13 hm15 => ?_) <;> clear hm12
 ·skip
  refine sr (wa Z (nt (WC.ret (kr (tr ?_)))))
  obtain rfl := (eq_of_some hm14).symm
  exact WQ.ret1 Z Z fun w hw => kg hw
 refine sk (WQ.block (WQ.then (sr (wa Z (nt (WC.ret ?_))))))
 obtain rfl := (eq_of_some hm15).symm
 exact WQ.ret1 Z Z fun w hw => kg hw
theorem R1_Class_w {op r : Int} (w : World) (hm : R1_Class_m op = some r)  : Calls Try.prog 52 #[.int .i64 op] w (fun e w' => e = .returned (.int .i64 r) ∧ Grow w w') := by
 unfold R1_Class_m at hm
 have hk := Base.rfl (w := w)
 refine calls_of_WC (n := 11) (args := [i_ op]) Try.func52 Z Z (nl Z) ?_ (Own.startK hk (Own.start w))
 refine sr (wa Z (nt (WC.seq (sr (wm Z (wq Z (QV.eql Z Z Z Z) (wm Z (gn Z (fun hG => QV.move Z Z) (gn Z (fun hG => QV.eql Z hG Z Z) (wq Z (QV.pickOr Z Z Z (fun h => notF h)) (nt ?_)))))))))))
 refine wc Z hm (fun h1 hm2 => ?_) (fun h1 hm3 => ?_) <;> clear hm
 ·skip
  refine sr (wa Z (nt (WC.ret (tr ?_))))
  obtain rfl := (eq_of_some hm2).symm
  exact WQ.ret1 Z Z fun w hw => kg hw
 refine sk (WQ.then (WC.seq (sr (wm Z (wq Z (QV.eql Z Z Z Z) (nt ?_))))))
 refine wc Z hm3 (fun h4 hm5 => ?_) (fun h4 hm6 => ?_) <;> clear hm3
 ·skip
  refine sr (wa Z (nt (WC.ret (tr ?_))))
  obtain rfl := (eq_of_some hm5).symm
  exact WQ.ret1 Z Z fun w hw => kg hw
 refine sk (WQ.then (sr (wa Z (nt (WC.ret ?_)))))
 obtain rfl := (eq_of_some hm6).symm
 exact WQ.ret1 Z Z fun w hw => kg hw
theorem R1_Size_w {log r : Int} (w : World) (hm : R1_Size_m log = some r)  : Calls Try.prog 45 #[.int .i64 log] w (fun e w' => e = .returned (.int .i64 r) ∧ Grow w w') := by
 unfold R1_Size_m at hm
 have hk := Base.rfl (w := w)
 refine calls_of_WC (n := 14) (args := [i_ log]) Try.func45 Z Z (nl Z) ?_ (Own.startK hk (Own.start w))
 refine sr (wa Z (ns (wa Z (nt (WC.seq (sr (wa Z (nt ?_))))))))
 obtain ⟨o1, ho2, hm3⟩ := bd_some hm; clear hm; obtain ⟨n4, ho5⟩ := lp_some ho2
 refine WC.bloop2 (H2 := [kn noM w.heap.size w w]) (τ := [u_ 0 _]) (fun (n3_1 : Int) (i4_1 : Int) => [(3, (true, i_ n3_1)), (4, (true, i_ i4_1))]) (fun n3_1 i4_1 => []) (fun n3_1 i4_1 m => iter (R1_Size_L0 log) m (n3_1, i4_1) = some o1) (fun n3_1 i4_1 => o1 = .go (n3_1, i4_1)) 1 0 n4 ho5 ⟨Z, Z, Z, trivial⟩ (pk [0]) ?_ ?_
 ·skip
  rintro n3_1 i4_1 rfl
  refine WQ.then (sr (wm Z (wa Z (nt (WC.ret ?_)))))
  obtain rfl := (eq_of_some hm3).symm
  exact WQ.ret1 Z Z fun w hw => kg hw
 rintro n3_1 i4_1 m6 hI7
 obtain ⟨m8, s9, rfl, hm10, hn11⟩ := iter_step hI7; clear hI7; unfold R1_Size_L0 at hm10; simp only at hm10
 refine WC.seq (sr (wm Z (wm Z (wq Z (QV.lss Z Z Z Z) (nt ?_)))))
 refine wc Z hm10 (fun h12 hm13 => ?_) (fun h12 hm18 => ?_) <;> clear hm10
 ·skip
  refine sk (WQ.then (WC.seq (WC.block (WC.region (wm Z (wm Z ?_))))))
  obtain ⟨c14, c16, hm17⟩ := cs2 hm13; clear hm13
  refine wq Z (QV.add Z Z Z Z c14) (wa Z (WL.nil (WQ.block (WQ.then (WC.region (wm Z (wq Z (QV.add Z Z Z Z c16) (wa Z (WL.nil ?_)))))))))
  exact WQ.again2 (n3_1 + n3_1) (i4_1 + 1) m8 (up_next hm17 hn11) (Nat.lt_succ_self _) ⟨Z, Z, Z, trivial⟩ (pk [0])
 refine WC.exit (te (te (WQ.block_exit ?_)))
 exact WQ.out2 n3_1 i4_1 (up_brk hm18 hn11) ⟨Z, Z, Z, trivial⟩ (pk [0])
theorem R1_Rest_w {a b r : Int} (w : World) (hm : R1_Rest_m a b = some r)  : Calls Try.prog 75 #[.int .i64 a, .int .i64 b] w (fun e w' => e = .returned (.int .i64 r) ∧ Grow w w') := by
 unfold R1_Rest_m at hm
 have hk := Base.rfl (w := w)
 refine calls_of_WC (n := 15) (args := [i_ a, i_ b]) Try.func75 Z Z (nl Z) ?_ (Own.startK hk (Own.start w))
 refine sr (wa Z (ns (wm Z (wm Z ?_))))
 obtain ⟨c1, hm2⟩ := cs hm; clear hm
 refine wq Z (QV.rem Z Z Z Z c1) (wa Z (nt (WC.seq (sr (wm Z (wq Z (QV.lss Z Z Z Z) (nt ?_)))))))
 refine wc Z hm2 (fun h3 hm4 => ?_) (fun h3 hm7 => ?_) <;> clear hm2
 ·skip
  refine WC.region (wm Z (wm Z ?_))
  obtain ⟨c5, hm6⟩ := cs hm4; clear hm4
  refine wq Z (QV.add Z Z Z Z c5) (wa Z (ns (wm Z (wa Z (nt (WC.ret ?_))))))
  obtain rfl := (eq_of_some hm6).symm
  exact WQ.ret1 Z Z fun w hw => kg hw
 refine sk (WQ.then (sr (wm Z (wa Z (nt (WC.ret ?_))))))
 obtain rfl := (eq_of_some hm7).symm
 exact WQ.ret1 Z Z fun w hw => kg hw
theorem R1_bits_w {op a b r : Int} (w : World) (hm : R1_bits_m op a b = some r)  : Calls Try.prog 101 #[.int .i64 op, .int .i64 a, .int .i64 b] w (fun e w' => e = .returned (.int .i64 r) ∧ Grow w w') := by
 unfold R1_bits_m at hm
 have hk := Base.rfl (w := w)
 refine calls_of_WC (n := 76) (args := [i_ op, i_ a, i_ b]) Try.func101 Z Z (nl Z) ?_ (Own.startK hk (Own.start w))
 refine sr (wa Z (ns (wa Z (ns (wa Z (nt (WC.seq (sr (wa Z (nt ?_))))))))))
 obtain ⟨o1, ho2, hm3⟩ := bd_some hm; clear hm; obtain ⟨n4, ho5⟩ := lp_some ho2
 refine WC.bloop5 (H2 := [kn noM w.heap.size w w]) (τ := [u_ 0 _]) (fun (a1_1 : Int) (b2_1 : Int) (n7_1 : Int) (power8_1 : Int) (i9_1 : Int) => [(1, (true, i_ a1_1)), (2, (true, i_ b2_1)), (7, (true, i_ n7_1)), (8, (true, i_ power8_1)), (9, (true, i_ i9_1))]) (fun a1_1 b2_1 n7_1 power8_1 i9_1 => []) (fun a1_1 b2_1 n7_1 power8_1 i9_1 m => iter (R1_bits_L0 op) m (a1_1, b2_1, n7_1, power8_1, i9_1) = some o1) (fun a1_1 b2_1 n7_1 power8_1 i9_1 => o1 = .go (a1_1, b2_1, n7_1, power8_1, i9_1)) a b 0 1 0 n4 ho5 ⟨Z, Z, Z, Z, Z, Z, trivial⟩ (pk [0]) ?_ ?_
 ·skip
  rintro a1_1 b2_1 n7_1 power8_1 i9_1 rfl
  refine WQ.then (sr (wm Z (wa Z (nt (WC.ret ?_)))))
  obtain rfl := (eq_of_some hm3).symm
  exact WQ.ret1 Z Z fun w hw => kg hw
 rintro a1_1 b2_1 n7_1 power8_1 i9_1 m6 hI7
 obtain ⟨m8, s9, rfl, hm10, hn11⟩ := iter_step hI7; clear hI7; unfold R1_bits_L0 at hm10; simp only at hm10
 refine WC.seq (sr (wm Z (wq Z (QV.lss Z Z Z Z) (nt ?_))))
 refine wc Z hm10 (fun h12 hm13 => ?_) (fun h12 hm67 => ?_) <;> clear hm10
 ·skip
  refine sk (WQ.then (WC.seq (WC.block (sr (wm Z (wq Z (QV.rem Z Z Z Z (by decide)) (wa Z (ns (wm Z (wq Z (QV.rem Z Z Z Z (by decide)) (wa Z (ns (wm Z ?_)))))))))))))
  refine wq Z (QV.neq Z Z Z Z) (wa Z (ns (wm Z (wq Z (QV.neq Z Z Z Z) (wa Z (nt (WC.seq (sr (wm Z (wq Z (QV.eql Z Z Z Z) (wm Z ?_)))))))))))
  refine gp Z (fun hG => QV.move Z Z) (wq Z (QV.pickAnd Z Z Z (fun h => h)) (wm Z (gp Z (fun hG => QV.move Z Z) (wq Z (QV.pickAnd Z Z Z (fun h => h)) (wm Z (gn Z (fun hG => QV.move Z Z) (gn Z (fun hG => QV.eql Z hG Z Z) (gn Z (fun hG => QV.move Z hG) (gpC Z (fun hG => QV.move Z Z) ?_)))))))))
  refine gpC Z (fun hG => QV.move Z hG) (gnC Z (fun hG => QV.move Z Z) (gpC Z (fun hG => QV.pickOr Z hG Z (fun h => andN hG h)) (gn Z (fun hG => QV.pickAnd Z hG Z (fun h => andT hG h)) (wq Z (QV.pickOr Z Z Z (fun h => notF h)) (wm Z (gn Z (fun hG => QV.move Z Z) (gn Z (fun hG => QV.eql Z hG Z Z) (gn Z (fun hG => QV.move Z hG) (gpC Z (fun hG => QV.move Z Z) ?_)))))))))
  refine gpC Z (fun hG => QV.move Z Z) (gpC Z (fun hG => QV.neqB Try.underlying4 Z hG Z hG) (gn Z (fun hG => QV.pickAnd Z hG Z (fun h => andT hG h)) (wq Z (QV.pickOr Z Z Z (fun h => notF h)) (nt ?_))))
  refine wc Z hm13 (fun h14 hm15 => ?_) (fun h14 hm41 => ?_) <;> clear hm13
  ·skip
   refine WC.region (wm Z (wm Z (wq Z (QV.addW Z Z Z Z) (wa Z (ns (wm Z (wm Z (wq Z (QV.addW Z Z Z Z) (wa Z ?_)))))))))
   refine nt (WC.seq (sr (wm Z (wq Z (QV.lss Z Z Z Z) (nt ?_)))))
   refine wc Z hm15 (fun h16 hm17 => ?_) (fun h16 hm29 => ?_) <;> clear hm15
   ·skip
    refine WC.region (wm Z (wq Z (QV.addW Z Z Z Z) (wa Z (nt (WC.seq (sr (wm Z (wq Z (QV.lss Z Z Z Z) (nt ?_)))))))))
    refine wc Z hm17 (fun h18 hm19 => ?_) (fun h18 hm24 => ?_) <;> clear hm17
    ·skip
     refine WC.region (wm Z (wq Z (QV.addW Z Z Z Z) (wa Z (ns (wm Z (wm Z (wq Z (QV.subW Z Z Z Z) ?_)))))))
     obtain ⟨c20, c22, hm23⟩ := cs2 hm19; clear hm19
     refine wq Z (QV.quo Z Z Z Z (by decide) c20) (wa Z (nr (wm Z (wm Z (wq Z (QV.subW Z Z Z Z) (wq Z (QV.quo Z Z Z Z (by decide) c22) (wa Z (WL.nil (WQ.block (WQ.then (WC.region (wm Z ?_))))))))))))
     refine wq Z (QV.addW Z Z Z Z) (wa Z (WL.nil ?_))
     exact WQ.again5 (Int.tdiv (IntKind.i64.wrap (a1_1 - (IntKind.i64.wrap ((Int.tmod a1_1 2) + 2)))) 2) (Int.tdiv (IntKind.i64.wrap (b2_1 - (IntKind.i64.wrap ((Int.tmod b2_1 2) + 2)))) 2) (IntKind.i64.wrap (n7_1 + power8_1)) (IntKind.i64.wrap (power8_1 + power8_1)) (IntKind.i64.wrap (i9_1 + 1)) m8 (up_next hm23 hn11) (Nat.lt_succ_self _) ⟨Z, Z, Z, Z, Z, Z, trivial⟩ (pk [0])
    refine sk (WQ.then (sr (wm Z (wm Z (wq Z (QV.subW Z Z Z Z) ?_)))))
    obtain ⟨c25, c27, hm28⟩ := cs2 hm24; clear hm24
    refine wq Z (QV.quo Z Z Z Z (by decide) c25) (wa Z (nr (wm Z (wm Z (wq Z (QV.subW Z Z Z Z) (wq Z (QV.quo Z Z Z Z (by decide) c27) (wa Z (WL.nil (WQ.block (WQ.then (WC.region (wm Z ?_))))))))))))
    refine wq Z (QV.addW Z Z Z Z) (wa Z (WL.nil ?_))
    exact WQ.again5 (Int.tdiv (IntKind.i64.wrap (a1_1 - (IntKind.i64.wrap ((Int.tmod a1_1 2) + 2)))) 2) (Int.tdiv (IntKind.i64.wrap (b2_1 - (Int.tmod b2_1 2))) 2) (IntKind.i64.wrap (n7_1 + power8_1)) (IntKind.i64.wrap (power8_1 + power8_1)) (IntKind.i64.wrap (i9_1 + 1)) m8 (up_next hm28 hn11) (Nat.lt_succ_self _) ⟨Z, Z, Z, Z, Z, Z, trivial⟩ (pk [0])
   refine sk (WQ.then (WC.seq (sr (wm Z (wq Z (QV.lss Z Z Z Z) (nt ?_))))))
   refine wc Z hm29 (fun h30 hm31 => ?_) (fun h30 hm36 => ?_) <;> clear hm29
   ·skip
    refine WC.region (wm Z (wq Z (QV.addW Z Z Z Z) (wa Z (ns (wm Z (wm Z (wq Z (QV.subW Z Z Z Z) ?_)))))))
    obtain ⟨c32, c34, hm35⟩ := cs2 hm31; clear hm31
    refine wq Z (QV.quo Z Z Z Z (by decide) c32) (wa Z (nr (wm Z (wm Z (wq Z (QV.subW Z Z Z Z) (wq Z (QV.quo Z Z Z Z (by decide) c34) (wa Z (WL.nil (WQ.block (WQ.then (WC.region (wm Z ?_))))))))))))
    refine wq Z (QV.addW Z Z Z Z) (wa Z (WL.nil ?_))
    exact WQ.again5 (Int.tdiv (IntKind.i64.wrap (a1_1 - (Int.tmod a1_1 2))) 2) (Int.tdiv (IntKind.i64.wrap (b2_1 - (IntKind.i64.wrap ((Int.tmod b2_1 2) + 2)))) 2) (IntKind.i64.wrap (n7_1 + power8_1)) (IntKind.i64.wrap (power8_1 + power8_1)) (IntKind.i64.wrap (i9_1 + 1)) m8 (up_next hm35 hn11) (Nat.lt_succ_self _) ⟨Z, Z, Z, Z, Z, Z, trivial⟩ (pk [0])
   refine sk (WQ.then (sr (wm Z (wm Z (wq Z (QV.subW Z Z Z Z) ?_)))))
   obtain ⟨c37, c39, hm40⟩ := cs2 hm36; clear hm36
   refine wq Z (QV.quo Z Z Z Z (by decide) c37) (wa Z (nr (wm Z (wm Z (wq Z (QV.subW Z Z Z Z) (wq Z (QV.quo Z Z Z Z (by decide) c39) (wa Z (WL.nil (WQ.block (WQ.then (WC.region (wm Z ?_))))))))))))
   refine wq Z (QV.addW Z Z Z Z) (wa Z (WL.nil ?_))
   exact WQ.again5 (Int.tdiv (IntKind.i64.wrap (a1_1 - (Int.tmod a1_1 2))) 2) (Int.tdiv (IntKind.i64.wrap (b2_1 - (Int.tmod b2_1 2))) 2) (IntKind.i64.wrap (n7_1 + power8_1)) (IntKind.i64.wrap (power8_1 + power8_1)) (IntKind.i64.wrap (i9_1 + 1)) m8 (up_next hm40 hn11) (Nat.lt_succ_self _) ⟨Z, Z, Z, Z, Z, Z, trivial⟩ (pk [0])
  refine sk (WQ.then (sr (wm Z (wm Z (wq Z (QV.addW Z Z Z Z) (wa Z (nt (WC.seq (sr (wm Z (wq Z (QV.lss Z Z Z Z) (nt ?_))))))))))))
  refine wc Z hm41 (fun h42 hm43 => ?_) (fun h42 hm55 => ?_) <;> clear hm41
  ·skip
   refine WC.region (wm Z (wq Z (QV.addW Z Z Z Z) (wa Z (nt (WC.seq (sr (wm Z (wq Z (QV.lss Z Z Z Z) (nt ?_)))))))))
   refine wc Z hm43 (fun h44 hm45 => ?_) (fun h44 hm50 => ?_) <;> clear hm43
   ·skip
    refine WC.region (wm Z (wq Z (QV.addW Z Z Z Z) (wa Z (ns (wm Z (wm Z (wq Z (QV.subW Z Z Z Z) ?_)))))))
    obtain ⟨c46, c48, hm49⟩ := cs2 hm45; clear hm45
    refine wq Z (QV.quo Z Z Z Z (by decide) c46) (wa Z (nr (wm Z (wm Z (wq Z (QV.subW Z Z Z Z) (wq Z (QV.quo Z Z Z Z (by decide) c48) (wa Z (WL.nil (WQ.block (WQ.then (WC.region (wm Z ?_))))))))))))
    refine wq Z (QV.addW Z Z Z Z) (wa Z (WL.nil ?_))
    exact WQ.again5 (Int.tdiv (IntKind.i64.wrap (a1_1 - (IntKind.i64.wrap ((Int.tmod a1_1 2) + 2)))) 2) (Int.tdiv (IntKind.i64.wrap (b2_1 - (IntKind.i64.wrap ((Int.tmod b2_1 2) + 2)))) 2) n7_1 (IntKind.i64.wrap (power8_1 + power8_1)) (IntKind.i64.wrap (i9_1 + 1)) m8 (up_next hm49 hn11) (Nat.lt_succ_self _) ⟨Z, Z, Z, Z, Z, Z, trivial⟩ (pk [0])
   refine sk (WQ.then (sr (wm Z (wm Z (wq Z (QV.subW Z Z Z Z) ?_)))))
   obtain ⟨c51, c53, hm54⟩ := cs2 hm50; clear hm50
   refine wq Z (QV.quo Z Z Z Z (by decide) c51) (wa Z (nr (wm Z (wm Z (wq Z (QV.subW Z Z Z Z) (wq Z (QV.quo Z Z Z Z (by decide) c53) (wa Z (WL.nil (WQ.block (WQ.then (WC.region (wm Z ?_))))))))))))
   refine wq Z (QV.addW Z Z Z Z) (wa Z (WL.nil ?_))
   exact WQ.again5 (Int.tdiv (IntKind.i64.wrap (a1_1 - (IntKind.i64.wrap ((Int.tmod a1_1 2) + 2)))) 2) (Int.tdiv (IntKind.i64.wrap (b2_1 - (Int.tmod b2_1 2))) 2) n7_1 (IntKind.i64.wrap (power8_1 + power8_1)) (IntKind.i64.wrap (i9_1 + 1)) m8 (up_next hm54 hn11) (Nat.lt_succ_self _) ⟨Z, Z, Z, Z, Z, Z, trivial⟩ (pk [0])
  refine sk (WQ.then (WC.seq (sr (wm Z (wq Z (QV.lss Z Z Z Z) (nt ?_))))))
  refine wc Z hm55 (fun h56 hm57 => ?_) (fun h56 hm62 => ?_) <;> clear hm55
  ·skip
   refine WC.region (wm Z (wq Z (QV.addW Z Z Z Z) (wa Z (ns (wm Z (wm Z (wq Z (QV.subW Z Z Z Z) ?_)))))))
   obtain ⟨c58, c60, hm61⟩ := cs2 hm57; clear hm57
   refine wq Z (QV.quo Z Z Z Z (by decide) c58) (wa Z (nr (wm Z (wm Z (wq Z (QV.subW Z Z Z Z) (wq Z (QV.quo Z Z Z Z (by decide) c60) (wa Z (WL.nil (WQ.block (WQ.then (WC.region (wm Z ?_))))))))))))
   refine wq Z (QV.addW Z Z Z Z) (wa Z (WL.nil ?_))
   exact WQ.again5 (Int.tdiv (IntKind.i64.wrap (a1_1 - (Int.tmod a1_1 2))) 2) (Int.tdiv (IntKind.i64.wrap (b2_1 - (IntKind.i64.wrap ((Int.tmod b2_1 2) + 2)))) 2) n7_1 (IntKind.i64.wrap (power8_1 + power8_1)) (IntKind.i64.wrap (i9_1 + 1)) m8 (up_next hm61 hn11) (Nat.lt_succ_self _) ⟨Z, Z, Z, Z, Z, Z, trivial⟩ (pk [0])
  refine sk (WQ.then (sr (wm Z (wm Z (wq Z (QV.subW Z Z Z Z) ?_)))))
  obtain ⟨c63, c65, hm66⟩ := cs2 hm62; clear hm62
  refine wq Z (QV.quo Z Z Z Z (by decide) c63) (wa Z (nr (wm Z (wm Z (wq Z (QV.subW Z Z Z Z) (wq Z (QV.quo Z Z Z Z (by decide) c65) (wa Z (WL.nil (WQ.block (WQ.then (WC.region (wm Z ?_))))))))))))
  refine wq Z (QV.addW Z Z Z Z) (wa Z (WL.nil ?_))
  exact WQ.again5 (Int.tdiv (IntKind.i64.wrap (a1_1 - (Int.tmod a1_1 2))) 2) (Int.tdiv (IntKind.i64.wrap (b2_1 - (Int.tmod b2_1 2))) 2) n7_1 (IntKind.i64.wrap (power8_1 + power8_1)) (IntKind.i64.wrap (i9_1 + 1)) m8 (up_next hm66 hn11) (Nat.lt_succ_self _) ⟨Z, Z, Z, Z, Z, Z, trivial⟩ (pk [0])
 refine WC.exit (te (te (WQ.block_exit ?_)))
 exact WQ.out5 a1_1 b2_1 n7_1 power8_1 i9_1 (up_brk hm67 hn11) ⟨Z, Z, Z, Z, Z, Z, trivial⟩ (pk [0])
theorem R1_Op_w {op a b r : Int} (w : World) (hm : R1_Op_m op a b = some r)  : Calls Try.prog 60 #[.int .i64 op, .int .i64 a, .int .i64 b] w (fun e w' => e = .returned (.int .i64 r) ∧ Grow w w') := by
 unfold R1_Op_m at hm
 have hk := Base.rfl (w := w)
 refine calls_of_WC (n := 41) (args := [i_ op, i_ a, i_ b]) Try.func60 Z Z (nl Z) ?_ (Own.startK hk (Own.start w))
 refine sr (wa Z (nt (WC.seq (sr (wm Z (nt (WC.block (sr (wq Z (QV.eql Z Z Z Z) (wa Z (nt ?_)))))))))))
 refine wc Z hm (fun h1 hm2 => ?_) (fun h1 hm3 => ?_) <;> clear hm
 ·skip
  refine sr (wm Z (wm Z (wq Z (QV.addW Z Z Z Z) (wa Z (nt (WC.ret (kr (tr ?_))))))))
  obtain rfl := (eq_of_some hm2).symm
  exact WQ.ret1 Z Z fun w hw => kg hw
 refine sr (wq Z (QV.eql Z Z Z Z) (wa Z (nt ?_)))
 refine wc Z hm3 (fun h4 hm5 => ?_) (fun h4 hm6 => ?_) <;> clear hm3
 ·skip
  refine sr (wm Z (wm Z (wq Z (QV.subW Z Z Z Z) (wa Z (nt (WC.ret (kr (tr ?_))))))))
  obtain rfl := (eq_of_some hm5).symm
  exact WQ.ret1 Z Z fun w hw => kg hw
 refine sr (wq Z (QV.eql Z Z Z Z) (wa Z (nt ?_)))
 refine wc Z hm6 (fun h7 hm8 => ?_) (fun h7 hm9 => ?_) <;> clear hm6
 ·skip
  refine sr (wm Z (wm Z (wq Z (QV.mulW Z Z Z Z) (wa Z (nt (WC.ret (kr (tr ?_))))))))
  obtain rfl := (eq_of_some hm8).symm
  exact WQ.ret1 Z Z fun w hw => kg hw
 refine WC.seq (sr (wq Z (QV.eql Z Z Z Z) (wa Z (nt ?_))))
 refine wc Z hm9 (fun h10 hm11 => ?_) (fun h10 hm30 => ?_) <;> clear hm9
 ·skip
  refine sk (WQ.then ?_)
  refine wc Z hm11 (fun h12 hm13 => ?_) (fun h12 hm17 => ?_) <;> clear hm11
  ·skip
   refine sr (wm Z (wm Z (wm Z ?_)))
   obtain ⟨x14, hx15, hm16⟩ := bd_some hm13; clear hm13
   refine wq Z (QV.call en101 (ec Z (ec Z (ec Z eN))) (fun w hw => have h := R1_bits_w w hx15 ; h)) (wa Z (nt (WC.ret (kr (tr ?_)))))
   obtain rfl := (eq_of_some hm16).symm
   exact WQ.ret1 Z Z fun w hw => kg hw
  refine sr (wq Z (QV.eql Z Z Z Z) (wa Z (nt ?_)))
  refine wc Z hm17 (fun h18 hm19 => ?_) (fun h18 hm23 => ?_) <;> clear hm17
  ·skip
   refine sr (wm Z (wm Z (wq Z (QV.lss Z Z Z Z) (nt ?_))))
   refine wc Z hm19 (fun h20 hm21 => ?_) (fun h20 hm22 => ?_) <;> clear hm19
   ·skip
    refine sr (wa Z (nt (WC.ret (kr (tr ?_)))))
    obtain rfl := (eq_of_some hm21).symm
    exact WQ.ret1 Z Z fun w hw => kg hw
   refine sk (WQ.block (WQ.then (sr (wa Z (nt (WC.ret ?_))))))
   obtain rfl := (eq_of_some hm22).symm
   exact WQ.ret1 Z Z fun w hw => kg hw
  refine sr (wq Z (QV.eql Z Z Z Z) (wa Z (nt ?_)))
  refine wc Z hm23 (fun h24 hm25 => ?_) (fun h24 hm29 => ?_) <;> clear hm23
  ·skip
   refine sr (wm Z (wm Z (wq Z (QV.eql Z Z Z Z) (nt ?_))))
   refine wc Z hm25 (fun h26 hm27 => ?_) (fun h26 hm28 => ?_) <;> clear hm25
   ·skip
    refine sr (wa Z (nt (WC.ret (kr (tr ?_)))))
    obtain rfl := (eq_of_some hm27).symm
    exact WQ.ret1 Z Z fun w hw => kg hw
   refine sk (WQ.block (WQ.then (sr (wa Z (nt (WC.ret ?_))))))
   obtain rfl := (eq_of_some hm28).symm
   exact WQ.ret1 Z Z fun w hw => kg hw
  refine sk (WQ.block (WQ.then (sr (wa Z (nt (WC.ret ?_))))))
  obtain rfl := (eq_of_some hm29).symm
  exact WQ.ret1 Z Z fun w hw => kg hw
 refine sr (wq Z (QV.eql Z Z Z Z) (wa Z (nt ?_)))
 refine wc Z hm30 (fun h31 hm32 => ?_) (fun h31 hm51 => ?_) <;> clear hm30
 ·skip
  refine sk (WQ.then ?_)
  refine wc Z hm32 (fun h33 hm34 => ?_) (fun h33 hm38 => ?_) <;> clear hm32
  ·skip
   refine sr (wm Z (wm Z (wm Z ?_)))
   obtain ⟨x35, hx36, hm37⟩ := bd_some hm34; clear hm34
   refine wq Z (QV.call en101 (ec Z (ec Z (ec Z eN))) (fun w hw => have h := R1_bits_w w hx36 ; h)) (wa Z (nt (WC.ret (kr (tr ?_)))))
   obtain rfl := (eq_of_some hm37).symm
   exact WQ.ret1 Z Z fun w hw => kg hw
  refine sr (wq Z (QV.eql Z Z Z Z) (wa Z (nt ?_)))
  refine wc Z hm38 (fun h39 hm40 => ?_) (fun h39 hm44 => ?_) <;> clear hm38
  ·skip
   refine sr (wm Z (wm Z (wq Z (QV.lss Z Z Z Z) (nt ?_))))
   refine wc Z hm40 (fun h41 hm42 => ?_) (fun h41 hm43 => ?_) <;> clear hm40
   ·skip
    refine sr (wa Z (nt (WC.ret (kr (tr ?_)))))
    obtain rfl := (eq_of_some hm42).symm
    exact WQ.ret1 Z Z fun w hw => kg hw
   refine sk (WQ.block (WQ.then (sr (wa Z (nt (WC.ret ?_))))))
   obtain rfl := (eq_of_some hm43).symm
   exact WQ.ret1 Z Z fun w hw => kg hw
  refine sr (wq Z (QV.eql Z Z Z Z) (wa Z (nt ?_)))
  refine wc Z hm44 (fun h45 hm46 => ?_) (fun h45 hm50 => ?_) <;> clear hm44
  ·skip
   refine sr (wm Z (wm Z (wq Z (QV.eql Z Z Z Z) (nt ?_))))
   refine wc Z hm46 (fun h47 hm48 => ?_) (fun h47 hm49 => ?_) <;> clear hm46
   ·skip
    refine sr (wa Z (nt (WC.ret (kr (tr ?_)))))
    obtain rfl := (eq_of_some hm48).symm
    exact WQ.ret1 Z Z fun w hw => kg hw
   refine sk (WQ.block (WQ.then (sr (wa Z (nt (WC.ret ?_))))))
   obtain rfl := (eq_of_some hm49).symm
   exact WQ.ret1 Z Z fun w hw => kg hw
  refine sk (WQ.block (WQ.then (sr (wa Z (nt (WC.ret ?_))))))
  obtain rfl := (eq_of_some hm50).symm
  exact WQ.ret1 Z Z fun w hw => kg hw
 refine WC.region (wq Z (QV.eql Z Z Z Z) (wa Z (nt ?_)))
 refine wc Z hm51 (fun h52 hm53 => ?_) (fun h52 hm57 => ?_) <;> clear hm51
 ·skip
  refine sr (wm Z (wm Z (wm Z ?_)))
  obtain ⟨x54, hx55, hm56⟩ := bd_some hm53; clear hm53
  refine wq Z (QV.call en101 (ec Z (ec Z (ec Z eN))) (fun w hw => have h := R1_bits_w w hx55 ; h)) (wa Z (nt (WC.ret (kr (tr ?_)))))
  obtain rfl := (eq_of_some hm56).symm
  exact WQ.ret1 Z Z fun w hw => kg hw
 refine sr (wq Z (QV.eql Z Z Z Z) (wa Z (nt ?_)))
 refine wc Z hm57 (fun h58 hm59 => ?_) (fun h58 hm63 => ?_) <;> clear hm57
 ·skip
  refine sr (wm Z (wm Z (wq Z (QV.lss Z Z Z Z) (nt ?_))))
  refine wc Z hm59 (fun h60 hm61 => ?_) (fun h60 hm62 => ?_) <;> clear hm59
  ·skip
   refine sr (wa Z (nt (WC.ret (kr (tr ?_)))))
   obtain rfl := (eq_of_some hm61).symm
   exact WQ.ret1 Z Z fun w hw => kg hw
  refine sk (WQ.block (WQ.then (sr (wa Z (nt (WC.ret ?_))))))
  obtain rfl := (eq_of_some hm62).symm
  exact WQ.ret1 Z Z fun w hw => kg hw
 refine sr (wq Z (QV.eql Z Z Z Z) (wa Z (nt ?_)))
 refine wc Z hm63 (fun h64 hm65 => ?_) (fun h64 hm69 => ?_) <;> clear hm63
 ·skip
  refine sr (wm Z (wm Z (wq Z (QV.eql Z Z Z Z) (nt ?_))))
  refine wc Z hm65 (fun h66 hm67 => ?_) (fun h66 hm68 => ?_) <;> clear hm65
  ·skip
   refine sr (wa Z (nt (WC.ret (kr (tr ?_)))))
   obtain rfl := (eq_of_some hm67).symm
   exact WQ.ret1 Z Z fun w hw => kg hw
  refine sk (WQ.block (WQ.then (sr (wa Z (nt (WC.ret ?_))))))
  obtain rfl := (eq_of_some hm68).symm
  exact WQ.ret1 Z Z fun w hw => kg hw
 refine sk (WQ.block (WQ.then (sr (wa Z (nt (WC.ret ?_))))))
 obtain rfl := (eq_of_some hm69).symm
 exact WQ.ret1 Z Z fun w hw => kg hw
theorem R1_Index_w {step plus turn log r : Int} (w : World) (hm : R1_Index_m step plus turn log = some r)  : Calls Try.prog 59 #[.int .i64 step, .int .i64 plus, .int .i64 turn, .int .i64 log] w (fun e w' => e = .returned (.int .i64 r) ∧ Grow w w') := by
 unfold R1_Index_m at hm
 have hk := Base.rfl (w := w)
 refine calls_of_WC (n := 47) (args := [i_ step, i_ plus, i_ turn, i_ log]) Try.func59 Z Z (nl Z) ?_ (Own.startK hk (Own.start w))
 refine sr (wa Z (nt (WC.seq (sr (wm Z (wq Z (QV.lss Z Z Z Z) (wm Z (gn Z (fun hG => QV.move Z Z) (gn Z (fun hG => QV.gtr Z hG Z Z) (wq Z (QV.pickOr Z Z Z (fun h => notF h)) (wm Z ?_)))))))))))
 refine gn Z (fun hG => QV.move Z Z) (gn Z (fun hG => QV.lss Z hG Z Z) (wq Z (QV.pickOr Z Z Z (fun h => notF h)) (wm Z (gn Z (fun hG => QV.move Z Z) (gn Z (fun hG => QV.gtr Z hG Z Z) (wq Z (QV.pickOr Z Z Z (fun h => notF h)) (wm Z (gn Z (fun hG => QV.move Z Z) (gn Z (fun hG => QV.lss Z hG Z Z) ?_)))))))))
 refine wq Z (QV.pickOr Z Z Z (fun h => notF h)) (wm Z (gn Z (fun hG => QV.move Z Z) (gn Z (fun hG => QV.gtr Z hG Z Z) (wq Z (QV.pickOr Z Z Z (fun h => notF h)) (wm Z (gn Z (fun hG => QV.move Z Z) (gn Z (fun hG => QV.lss Z hG Z Z) (wq Z (QV.pickOr Z Z Z (fun h => notF h)) (wm Z ?_)))))))))
 refine gn Z (fun hG => QV.move Z Z) (gn Z (fun hG => QV.gtr Z hG Z Z) (wq Z (QV.pickOr Z Z Z (fun h => notF h)) (nt ?_)))
 refine wc Z hm (fun h1 hm2 => ?_) (fun h1 hm3 => ?_) <;> clear hm
 ·skip
  refine sr (wa Z (nt (WC.ret (tr ?_))))
  obtain rfl := (eq_of_some hm2).symm
  exact WQ.ret1 Z Z fun w hw => kg hw
 refine sk (WQ.then (sr (wm Z (wm Z ?_))))
 obtain ⟨c4, c6, hm7⟩ := cs2 hm3; clear hm3
 refine wq Z (QV.mul Z Z Z Z c4) (wm Z (wq Z (QV.add Z Z Z Z c6) (wm Z ?_)))
 obtain ⟨x8, hx9, hm10⟩ := bd_some hm7; clear hm7
 refine wq Z (QV.call en45 (ec Z eN) (fun w hw => have h := R1_Size_w w hx9 ; h)) ?_
 obtain ⟨x11, hx12, hm13⟩ := bd_some hm10; clear hm10
 refine wq Z (QV.call en75 (ec Z (ec Z eN)) (fun w hw => have h := R1_Rest_w w hx12 ; h)) (wa Z (nt (WC.ret ?_)))
 obtain rfl := (eq_of_some hm13).symm
 exact WQ.ret1 Z Z fun w hw => kg hw
end Go.Proofs.Ytaimbkndebaaiab
end