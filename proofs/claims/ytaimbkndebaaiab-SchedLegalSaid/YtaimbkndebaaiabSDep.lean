/- What waits for what: what the models of both sides tell of single pairs. -/
import Derived.Test.YtaimbkndebaaiabSLoop
import Derived.Test.YtaimbkndebaaiabMDep
import Derived.Test.YtaimbkndebaaiabMRDep
namespace Go.Rd
set_option linter.unusedVariables false
set_option linter.unusedSimpArgs false
/-! ### words that meet -/
def MeetP (a b : Stm) (back size : Int) : Prop := ∃ i : Nat, (i : Int) < size ∧ (a.sp * i + a.pl) % size = (b.sp * (i + back) + b.pl) % size
def NearS (a : Stm) : Prop := -64 ≤ a.sp ∧ a.sp ≤ 64 ∧ -64 ≤ a.pl ∧ a.pl ≤ 64
theorem pow2 {k : Nat} (h : k ≤ 5) : (1 : Int) ≤ 2 ^ k ∧ (2 : Int) ^ k ≤ 32 ∧ ((2 ^ k : Nat) : Int) = 2 ^ k := ⟨(two_pow_5 k h).1, (two_pow_5 k h).2, by simp⟩
theorem bitAnd_mask {x : Int} {k : Nat} (h : k ≤ 5) : bitAnd x (2 ^ k - 1) = x % 2 ^ k := by
  have hp := pow2 h
  unfold bitAnd
  rw [and_mask _ _ h, wrap_i64]
  · have := Int.emod_nonneg x (show (2 : Int) ^ k ≠ 0 from by omega); omega
  · have := Int.emod_lt_of_pos x (show (0 : Int) < 2 ^ k from by omega); omega
theorem meet_s {a b : Stm} (ha : NearS a) (hb : NearS b) {back : Int} (h0 : 0 ≤ back) (h1 : back ≤ 32) {k : Nat} (hk : k ≤ 5) : dep_meet_m a b back (2 ^ k) = some (tb (MeetP a b back (2 ^ k))) := by
  obtain ⟨p1, p2, p3⟩ := pow2 hk
  unfold dep_meet_m
  have step : ∀ i : Nat, 0 ≤ i → i < 2 ^ k → (¬ ((a.sp * i + a.pl) % 2 ^ k = (b.sp * (i + back) + b.pl) % 2 ^ k) → dep_meet_L0 a b back (2 ^ k) i = some (.next ((i : Int) + 1))) ∧ (¬ ¬ ((a.sp * i + a.pl) % 2 ^ k = (b.sp * (i + back) + b.pl) % 2 ^ k) → dep_meet_L0 a b back (2 ^ k) i = some (.ret true)) := fun i _ hi => by
    have hi' : (i : Int) < 2 ^ k := by omega
    have m1 := mul_le ha.1 ha.2.1 (show (0 : Int) ≤ i from by omega) (show (i : Int) ≤ 64 from by omega)
    have m2 := mul_le hb.1 hb.2.1 (show (0 : Int) ≤ i + back from by omega) (show (i : Int) + back ≤ 64 from by omega)
    obtain ⟨_, _, a3, a4⟩ := ha
    obtain ⟨_, _, b3, b4⟩ := hb
    have hiff : ((a.sp * i + a.pl) % 2 ^ k = (b.sp * (i + back) + b.pl) % 2 ^ k) ↔ (a.sp * i + a.pl - b.sp * (i + back) - b.pl) % 2 ^ k = 0 := by
      rw [Int.emod_eq_emod_iff_emod_sub_eq_zero, Int.sub_sub]
    have e : dep_meet_L0 a b back (2 ^ k) i = br ((a.sp * i + a.pl - b.sp * (i + back) - b.pl) % 2 ^ k == 0) (some (.ret true)) (some (.next ((i : Int) + 1))) := by
      unfold dep_meet_L0
      rw [br_T hi', ck_IR (by omega) (by omega), ck_IR (by omega) (by omega), ck_IR (by omega) (by omega), ck_IR (by omega) (by omega), ck_IR (by omega) (by omega), ck_IR (by omega) (by omega), ck_IR (by omega) (by omega), bitAnd_mask hk, ck_IR (by omega) (by omega)]
    rw [e, hiff]
    exact ⟨fun h => by rw [show ((a.sp * i + a.pl - b.sp * (i + back) - b.pl) % 2 ^ k == 0) = false from by simpa using h]; rfl, fun h => by rw [show ((a.sp * i + a.pl - b.sp * (i + back) - b.pl) % 2 ^ k == 0) = true from by simpa using h]; rfl⟩
  rcases lp_scan (f := dep_meet_L0 a b back (2 ^ k)) (n := 2 ^ k) (fun _ => true) (2 ^ k) 0 (by omega) step (by unfold dep_meet_L0; rw [p3]; exact br_F (by omega)) with ⟨h, e⟩ | ⟨i, _, h2, h3, _, e⟩
  · rw [show (((0 : Nat)) : Int) = 0 from rfl] at e
    rw [e, bd_ret, Out.on_go, tb_f]
    rintro ⟨i, hi, he⟩
    exact h i (by omega) (by omega) he
  · rw [show (((0 : Nat)) : Int) = 0 from rfl] at e
    rw [e, bd_ret, Out.on_ret, tb_t ⟨i, by omega, Classical.not_not.1 h3⟩]
theorem rmeet_s {a b : Stm} (ha : NearS a) (hb : NearS b) {back : Int} (h0 : 0 ≤ back) (h1 : back ≤ 32) {k : Nat} (hk : k ≤ 5) : roundelayref6_Meets_m a b back (2 ^ k) = some (tb (MeetP a b back (2 ^ k))) := by
  obtain ⟨p1, p2, p3⟩ := pow2 hk
  unfold roundelayref6_Meets_m
  have step : ∀ i : Nat, 0 ≤ i → i < 2 ^ k → (¬ ((a.sp * i + a.pl) % 2 ^ k = (b.sp * (i + back) + b.pl) % 2 ^ k) → roundelayref6_Meets_L0 a b back (2 ^ k) i = some (.next ((i : Int) + 1))) ∧ (¬ ¬ ((a.sp * i + a.pl) % 2 ^ k = (b.sp * (i + back) + b.pl) % 2 ^ k) → roundelayref6_Meets_L0 a b back (2 ^ k) i = some (.ret true)) := fun i _ hi => by
    have hi' : (i : Int) < 2 ^ k := by omega
    have m1 := mul_le ha.1 ha.2.1 (show (0 : Int) ≤ i from by omega) (show (i : Int) ≤ 64 from by omega)
    have m2 := mul_le hb.1 hb.2.1 (show (0 : Int) ≤ i + back from by omega) (show (i : Int) + back ≤ 64 from by omega)
    obtain ⟨_, _, a3, a4⟩ := ha
    obtain ⟨_, _, b3, b4⟩ := hb
    have e : roundelayref6_Meets_L0 a b back (2 ^ k) i = br ((a.sp * i + a.pl) % 2 ^ k == (b.sp * (i + back) + b.pl) % 2 ^ k) (some (.ret true)) (some (.next ((i : Int) + 1))) := by
      unfold roundelayref6_Meets_L0
      rw [br_T hi', ck_IR (by omega) (by omega), ck_IR (by omega) (by omega), Rest_s _ _ (by omega) (by omega), bd_ret, ck_IR (by omega) (by omega), ck_IR (by omega) (by omega), ck_IR (by omega) (by omega), Rest_s _ _ (by omega) (by omega), bd_ret, ck_IR (by omega) (by omega)]
    rw [e]
    exact ⟨fun h => by rw [beq_eq_false_iff_ne.2 h]; rfl, fun h => by rw [beq_iff_eq.2 (Classical.not_not.1 h)]; rfl⟩
  rcases lp_scan (f := roundelayref6_Meets_L0 a b back (2 ^ k)) (n := 2 ^ k) (fun _ => true) (2 ^ k) 0 (by omega) step (by unfold roundelayref6_Meets_L0; rw [p3]; exact br_F (by omega)) with ⟨h, e⟩ | ⟨i, _, h2, h3, _, e⟩
  · rw [show (((0 : Nat)) : Int) = 0 from rfl] at e
    rw [e, bd_ret, Out.on_go, tb_f]
    rintro ⟨i, hi, he⟩
    exact h i (by omega) (by omega) he
  · rw [show (((0 : Nat)) : Int) = 0 from rfl] at e
    rw [e, bd_ret, Out.on_ret, tb_t ⟨i, by omega, Classical.not_not.1 h3⟩]
/-! ### edges by words -/
def wordS (s : Stm) : Prop := s.op = 3 ∨ s.op = 4
def leastV (fr to : Int) : Int := if fr ≥ to then 1 else 0
def sizeV (l : Lp) (a : Stm) : Int := 2 ^ (ele l.logs a.ar).toNat
def memC (l : Lp) (fr to : Int) : Prop := wordS (ele l.body fr) ∧ wordS (ele l.body to) ∧ (ele l.body fr).ar = (ele l.body to).ar ∧ ((ele l.body fr).op = 4 ∨ (ele l.body to).op = 4)
structure MemE (l : Lp) (f u : Int) (e : Edg) : Prop where
  c : memC l f u
  fr : e.fr = f
  to : e.to = u
  wt : e.wt = if (ele l.body f).op = 4 then 1 else 0
  lo : leastV f u ≤ e.bk
  hi : e.bk ≤ sizeV l (ele l.body f)
  meet : MeetP (ele l.body f) (ele l.body u) e.bk (sizeV l (ele l.body f))
  first : ∀ k : Int, leastV f u ≤ k → k < e.bk → ¬ MeetP (ele l.body f) (ele l.body u) k (sizeV l (ele l.body f))
theorem MemE.one {l : Lp} {fr to : Int} {e e' : Edg} (h : MemE l fr to e) (h' : MemE l fr to e') : e = e' := by
  have hb : e.bk = e'.bk := by
    rcases Int.lt_trichotomy e.bk e'.bk with hh | hh | hh
    · exact absurd h.meet (h'.first _ h.lo hh)
    · exact hh
    · exact absurd h'.meet (h.first _ h'.lo hh)
  have h1 := h.fr.trans h'.fr.symm
  have h2 := h.to.trans h'.to.symm
  have h3 := h.wt.trans h'.wt.symm
  cases e; cases e'
  simp only [Edg.mk.injEq]
  exact ⟨h1, h2, hb, h3⟩
theorem word_near {l : Lp} (hl : LoopOk l) {i : Nat} (hi : i < l.body.length) (h : wordS (ele l.body (i : Int))) : NearS (ele l.body (i : Int)) ∧ IX (ele l.body (i : Int)).ar (ln l.logs) ∧ 0 ≤ ele l.logs (ele l.body (i : Int)).ar ∧ ele l.logs (ele l.body (i : Int)).ar ≤ 5 := by
  obtain ⟨_, _, q3⟩ := hl.stm i hi
  rw [show l.body.getD i Stm.zero = ele l.body (i : Int) from rfl] at q3
  generalize ele l.body (i : Int) = s at q3 h
  have hw : WordOk l.logs.length s := by
    unfold wordS at h
    rcases q3 with h' | h' | h' | h' | h' <;> first | exact h'.2.2.1 | omega
  obtain ⟨w1, w2, w3⟩ := hw
  have hlg := hl.log s.ar.toNat (by omega)
  exact ⟨w3, ⟨w1, by unfold ln; omega⟩, hlg⟩
theorem leastV_bd (fr to : Int) : 0 ≤ leastV fr to ∧ leastV fr to ≤ 1 := by unfold leastV; split <;> omega
theorem boolC {l : Lp} {fr to : Int} : ((((!((ele l.body fr).op == 3 || (ele l.body fr).op == 4)) || (!(if ((ele l.body fr).op == 3 || (ele l.body fr).op == 4) = true then ((ele l.body to).op == 3 || (ele l.body to).op == 4) else false))) || ((ele l.body fr).ar != (ele l.body to).ar)) || (((ele l.body fr).op == 3) && ((ele l.body to).op == 3))) = !tb (memC l fr to) := by
  unfold memC
  generalize ele l.body fr = a
  generalize ele l.body to = b
  have : (!((((!(a.op == 3 || a.op == 4)) || (!(if (a.op == 3 || a.op == 4) = true then (b.op == 3 || b.op == 4) else false))) || (a.ar != b.ar)) || ((a.op == 3) && (b.op == 3)))) = tb (wordS a ∧ wordS b ∧ a.ar = b.ar ∧ (a.op = 4 ∨ b.op = 4)) := by
    refine tb_eq ?_
    unfold wordS
    by_cases h1 : a.op = 3 <;> by_cases h2 : a.op = 4 <;> by_cases h3 : b.op = 3 <;> by_cases h4 : b.op = 4 <;> by_cases h5 : a.ar = b.ar <;> simp_all
  rw [← this, Bool.not_not]
theorem memory_s {l : Lp} (hl : LoopOk l) {fr to : Nat} (h1 : fr < l.body.length) (h2 : to < l.body.length) : ∃ r, dep_memory_m l fr to = some r ∧ ((r.2 = true ∧ MemE l fr to r.1) ∨ (r.2 = false ∧ ∀ e, ¬ MemE l fr to e)) := by
  unfold dep_memory_m dep_words_m
  rw [ck_IX (by omega) (by unfold ln; omega), ck_IX (by omega) (by unfold ln; omega), bd_ret]
  simp only [bdG_some', Bool.not_not]
  rw [boolC]
  by_cases hc : memC l fr to
  · rw [tb_t hc, Bool.not_true, br_false, br_go, bd_ret, Out.on_go, br_go, bd_ret, Out.on_go]
    obtain ⟨n1, x1, g1, g2⟩ := word_near hl h1 hc.1
    obtain ⟨n2, _, _, _⟩ := word_near hl h2 hc.2.1
    have hk : (ele l.logs (ele l.body (fr : Int)).ar).toNat ≤ 5 := by omega
    obtain ⟨p1, p2, p3⟩ := pow2 hk
    have hsz : shlD 1 (ele l.logs (ele l.body (fr : Int)).ar) = sizeV l (ele l.body (fr : Int)) := shl_one _ g1 g2
    have hS : sizeV l (ele l.body (fr : Int)) = 2 ^ (ele l.logs (ele l.body (fr : Int)).ar).toNat := rfl
    rw [ck_yes x1, ck_yes g1]
    have hle : (if decide ((fr : Int) ≥ to) = true then (1 : Int) else 0) = leastV fr to := by unfold leastV; simp
    have hwt : (if ((ele l.body (fr : Int)).op == 4) = true then (1 : Int) else 0) = if (ele l.body (fr : Int)).op = 4 then 1 else 0 := by simp
    rw [hle, hwt]
    have hlb := leastV_bd fr to
    generalize hW : (if (ele l.body (fr : Int)).op = 4 then (1 : Int) else 0) = W
    have hm : ∀ k : Int, 0 ≤ k → k ≤ 32 → dep_meet_m (ele l.body (fr : Int)) (ele l.body (to : Int)) k (sizeV l (ele l.body (fr : Int))) = some (tb (MeetP (ele l.body (fr : Int)) (ele l.body (to : Int)) k (sizeV l (ele l.body (fr : Int))))) := fun k a b => meet_s n1 n2 a b hk
    generalize hSS : sizeV l (ele l.body (fr : Int)) = Sz at hm hS hsz
    have hn : ((Sz.toNat : Nat) : Int) = Sz := by omega
    have step : ∀ i : Nat, (leastV fr to).toNat ≤ i → i < Sz.toNat + 1 → (¬ MeetP (ele l.body (fr : Int)) (ele l.body (to : Int)) i Sz → dep_memory_L0 l fr to W i = some (.next ((i : Int) + 1))) ∧ (¬ ¬ MeetP (ele l.body (fr : Int)) (ele l.body (to : Int)) i Sz → dep_memory_L0 l fr to W i = some (.ret (Edg.mk fr to i W, true))) := fun i _ hi => by
      have e : dep_memory_L0 l fr to W i = br (tb (MeetP (ele l.body (fr : Int)) (ele l.body (to : Int)) i Sz)) (some (.ret (Edg.mk fr to i W, true))) (some (.next ((i : Int) + 1))) := by
        unfold dep_memory_L0
        rw [hsz, br_T (by omega), hm i (by omega) (by omega), bd_ret, ck_IR (by omega) (by omega)]
      rw [e]
      exact ⟨fun h => by rw [tb_f h]; rfl, fun h => by rw [tb_t (Classical.not_not.1 h)]; rfl⟩
    rcases lp_scan (f := dep_memory_L0 l fr to W) (n := Sz.toNat + 1) (fun i => (Edg.mk fr to i W, true)) (Sz.toNat + 1 - (leastV fr to).toNat) (leastV fr to).toNat (by omega) step (by unfold dep_memory_L0; rw [hsz]; exact br_F (by omega)) with ⟨h, e⟩ | ⟨i, h3, h4, h5, h6, e⟩
    · rw [show (((leastV fr to).toNat : Nat) : Int) = leastV fr to from by omega] at e
      rw [e, bd_ret, Out.on_go]
      refine ⟨_, rfl, .inr ⟨rfl, fun e he => ?_⟩⟩
      have hlo := he.lo; have hhi := he.hi; have hme := he.meet
      rw [hSS] at hhi hme
      have hek : ((e.bk.toNat : Nat) : Int) = e.bk := by omega
      refine h e.bk.toNat (by omega) (by omega) ?_
      rw [hek]; exact hme
    · rw [show (((leastV fr to).toNat : Nat) : Int) = leastV fr to from by omega] at e
      rw [e, bd_ret, Out.on_ret]
      refine ⟨_, rfl, .inl ⟨rfl, ⟨hc, rfl, rfl, hW.symm, by show leastV fr to ≤ (i : Int); omega, by rw [hSS]; show (i : Int) ≤ Sz; omega, by rw [hSS]; exact Classical.not_not.1 h5, fun k hk1 hk2 => ?_⟩⟩⟩
      rw [hSS]
      have hk2' : k < (i : Int) := hk2
      have hkk : ((k.toNat : Nat) : Int) = k := by omega
      have := h6 k.toNat (by omega) (by omega)
      rwa [hkk] at this
  · rw [tb_f hc, Bool.not_false, br_true]
    exact ⟨_, rfl, .inr ⟨rfl, fun e he => hc he.c⟩⟩
/-! ### edges by what is looked at -/
def UseE (l : Lp) (t : Tgt) (to : Int) (e : Edg) : Prop := ∃ r ∈ usesL (ele l.body to), e = ⟨r.st, to, r.bk, waitV t (ele l.body r.st).op⟩
theorem uses_ok {l : Lp} (hl : LoopOk l) {i : Nat} (hi : i < l.body.length) {r : Rf} (hr : r ∈ usesL (ele l.body (i : Int))) : RefOk l.body.length i r := by
  obtain ⟨q1, q2, q3⟩ := hl.stm i hi
  rw [show l.body.getD i Stm.zero = ele l.body (i : Int) from rfl] at q1 q2 q3
  generalize ele l.body (i : Int) = s at q1 q2 q3 hr
  unfold usesL at hr
  split at hr
  · simp only [List.mem_singleton] at hr; subst hr; exact q1 (.inl ‹_›)
  · split at hr
    · simp only [List.mem_cons, List.not_mem_nil, or_false] at hr
      rcases hr with rfl | rfl
      · exact q1 (.inr ‹_›)
      · exact q2 ‹_›
    · cases hr
theorem RefOk.st {n k : Int} {r : Rf} (h : RefOk n k r) (hk : k ≤ n) : 0 ≤ r.st ∧ r.st < n := by
  obtain ⟨a1, a2, a3, a4, a5⟩ := h
  refine ⟨a3, ?_⟩
  by_cases hb : r.bk = 0
  · have := a4 hb; omega
  · exact a5 hb
/-- All edges. -/
def EdgeP (l : Lp) (t : Tgt) (e : Edg) : Prop := ∃ to : Nat, to < l.body.length ∧ (UseE l t to e ∨ ∃ fr : Nat, fr < l.body.length ∧ MemE l fr to e)
structure EdgeIn (n : Int) (e : Edg) : Prop where
  fr : 0 ≤ e.fr ∧ e.fr < n
  to : 0 ≤ e.to ∧ e.to < n
  bk : 0 ≤ e.bk ∧ e.bk ≤ 32
  wt : 0 ≤ e.wt ∧ e.wt ≤ 6
  ahead : e.bk = 0 → e.fr < e.to
theorem MemE.in {l : Lp} (hl : LoopOk l) {fr to : Nat} (h1 : fr < l.body.length) (h2 : to < l.body.length) {e : Edg} (h : MemE l fr to e) : EdgeIn l.body.length e := by
  obtain ⟨n1, x1, g1, g2⟩ := word_near hl h1 h.c.1
  obtain ⟨p1, p2, p3⟩ := pow2 (show (ele l.logs (ele l.body (fr : Int)).ar).toNat ≤ 5 from by omega)
  have hlo := h.lo; have hhi := h.hi
  have hlb := leastV_bd fr to
  have hS : sizeV l (ele l.body (fr : Int)) = 2 ^ (ele l.logs (ele l.body (fr : Int)).ar).toNat := rfl
  have hwt := h.wt
  refine ⟨by rw [h.fr]; omega, by rw [h.to]; omega, by omega, by split at hwt <;> omega, fun h0 => ?_⟩
  rw [h.fr, h.to]
  unfold leastV at hlo
  split at hlo <;> omega
theorem UseE.in {l : Lp} (hl : LoopOk l) {t : Tgt} {to : Nat} (h2 : to < l.body.length) {e : Edg} (h : UseE l t to e) : EdgeIn l.body.length e := by
  obtain ⟨r, hr, rfl⟩ := h
  have hk := uses_ok hl h2 hr
  have hst := hk.st (by omega)
  obtain ⟨a1, a2, a3, a4, a5⟩ := hk
  have hw := waitV_bd t (ele l.body r.st).op
  exact ⟨hst, ⟨by show (0 : Int) ≤ to; omega, by show (to : Int) < _; omega⟩, ⟨a1, by show r.bk ≤ 32; omega⟩, hw, fun h0 => a4 h0⟩
theorem EdgeP.in {l : Lp} (hl : LoopOk l) {t : Tgt} {e : Edg} (h : EdgeP l t e) : EdgeIn l.body.length e := by
  obtain ⟨to, h1, h2 | ⟨fr, h2, h3⟩⟩ := h
  · exact h2.in hl h1
  · exact h3.in hl h2 h1
end Go.Rd
