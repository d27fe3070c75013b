/- Texts that the law stands on: part 3. -/
import Derived.Test.YtaimbkndebaaiacZLcheckTells2
import Derived.Test.YtaimbkndebaaiacProg
import Derived.KernelRfl
section
namespace Go.Rd
set_option linter.unusedVariables false
set_option linter.unusedSimpArgs false
def lpC (logs : List Int) (o : Opr) : Lp := ⟨logs, [⟨1, ⟨0, 0⟩, ⟨0, 0⟩, 0, 0, 0, 0⟩, stmO o], []⟩
theorem lpC_iff {logs : List Int} {o : Opr} : LoopOk (lpC logs o) ↔ LoopOk (lpO logs o) := by
  have hz : Rf.isZero ⟨0, 0⟩ := ⟨rfl, rfl⟩
  have key : ∀ s s' : Stm, (StmtOk logs.length 2 0 s') → LoopOk ⟨logs, [s, stmO o], []⟩ → LoopOk ⟨logs, [s', stmO o], []⟩ := fun s s' hs h => by
    refine ⟨h.1, h.2.1, h.2.2.1, h.2.2.2.1, h.2.2.2.2.1, fun j hj => ?_⟩
    have hj' : j = 0 ∨ j = 1 := by
      have : (Lp.mk logs [s', stmO o] []).body.length = 2 := rfl
      omega
    rcases hj' with rfl | rfl
    · exact hs
    · exact h.2.2.2.2.2 1 (by show (1 : Int) < 2; omega)
  refine ⟨fun h => key _ _ ?_ h, fun h => key _ _ ?_ h⟩
  · refine ⟨fun hh => ?_, fun hh => absurd hh (by decide), .inr (.inl ⟨rfl, rfl, ⟨rfl, rfl, rfl⟩, hz, hz⟩)⟩
    rcases hh with hh | hh <;> exact absurd hh (by decide)
  · refine ⟨fun hh => ?_, fun hh => absurd hh (by decide), .inl ⟨rfl, ⟨rfl, rfl, rfl⟩, hz, hz⟩⟩
    rcases hh with hh | hh <;> exact absurd hh (by decide)
theorem uses_ln (o : Opr) : ((usesL (stmO o)).length : Int) = usesN o.op := by
  unfold usesL usesN
  rw [show (stmO o).op = o.op from rfl]
  by_cases h : o.op = 4
  · rw [if_pos h, if_pos h]; rfl
  · by_cases h2 : o.op > 10
    · rw [if_neg h, if_pos h2, if_neg h, if_pos h2]; rfl
    · rw [if_neg h, if_neg h2, if_neg h, if_neg h2]; rfl
theorem lpC_fine {logs : List Int} {o : Opr} (h : (lpO logs o).Fine) : (lpC logs o).Fine := by
  have h0 : InR 0 := by unfold InR; omega
  have h1 : InR 1 := by unfold InR; omega
  refine ⟨h.rlogs, fun u hu => ?_, h.routs, h.llogs, h.lbody, h.louts⟩
  rcases List.mem_cons.1 hu with rfl | hu
  · exact ⟨h1, h0, h0, h0, h0, h0, h0, h0, h0⟩
  · exact h.rbody u (by rw [List.mem_singleton] at hu; subst hu; show stmO o ∈ [turnS, stmO o]; simp)
theorem kop_s {t : Tgt} (ht : tgtOk t = true) {k : Krn} {o : Opr} {logs : List Int} (hp : 1 ≤ k.pace ∧ k.pace ≤ 200) (hs : 1 ≤ k.stages ∧ k.stages ≤ 1001) (hf : (lpO logs o).Fine) : kernel_op_m t k o logs = some (tb (OneP t k o logs)) := by
  rw [tgtOk_iff] at ht
  have hst : kernel_Stmt_m o = some (stmO o) := rfl
  have hu : loop_Uses_m (stmO o) = some (usesL (stmO o)) := Uses_s _
  have hun := uses_ln o
  have hmay : loop_May_m (lpC logs o) = some (tb (LoopOk (lpO logs o))) := by
    rw [May_s _ (lpC_fine hf)]
    congr 1
    exact tb_congr lpC_iff
  unfold kernel_op_m
  rw [hst, bd_ret, hu, bd_ret]
  have hsel : (show Option (Out (Int × Int × Int × Int) (Empty)) from br (decide ((ln (usesL (stmO o))) > 0)) (some (.go (0, 0, 0, 0))) (some (.go ((stmO o).a.st, (stmO o).a.bk, (stmO o).b.st, (stmO o).b.bk)))) = some (.go (0, 0, 0, 0)) := by
    by_cases c : ln (usesL (stmO o)) > 0
    · rw [decide_eq_true c]; rfl
    · rw [decide_eq_false c]; rfl
  rw [hsel, bd_ret, Out.on_go]
  simp only
  rw [show (Lp.mk logs [(Stm.mk 1 (Rf.mk 0 0) (Rf.mk 0 0) 0 0 0 0), (Stm.mk (stmO o).op (Rf.mk 0 0) (Rf.mk 0 0) (stmO o).ar (stmO o).sp (stmO o).pl (stmO o).n)] []) = lpC logs o from rfl]
  by_cases h1 : 0 ≤ o.slot ∧ o.slot < k.pace ∧ 0 ≤ o.stage ∧ o.stage < k.stages
  · have m1 := mul_le (a := o.stage) (A := 1001) (b := k.pace) (B := 200) (by omega) (by omega) (by omega) (by omega)
    have htm : kernel_Time_m k o = some (o.stage * k.pace + o.slot) := by
      unfold kernel_Time_m
      rw [ck_IR (by omega) (by omega), ck_IR (by omega) (by omega)]
    have hc : ((((decide (o.slot ≥ 0)) && (decide (o.slot < k.pace))) && (decide (o.stage ≥ 0))) && (decide (o.stage < k.stages))) = true := by
      simp only [Bool.and_eq_true, decide_eq_true_eq]; omega
    rw [hc, htm, bdG_t, bd_ret, Bool.true_and]
    by_cases h2 : o.stage * k.pace + o.slot ≤ 1000
    · rw [decide_eq_true h2, bdG_t, hmay, bd_ret, Bool.true_and]
      by_cases h3 : LoopOk (lpO logs o)
      · rw [tb_t h3, Bool.true_and]
        by_cases h4 : 0 ≤ o.dest ∧ o.dest < t.regs
        · rw [show (decide (o.dest ≥ 0) && decide (o.dest < t.regs)) = true from by simp only [Bool.and_eq_true, decide_eq_true_eq]; omega, bdG_t]
          unfold kernel_op_c1_m
          rw [bd_ret, bdG_some', Bool.true_and]
          have ha : ((o.a == 0) || (((decide (ln (usesL (stmO o)) > 0)) && (decide (o.a > 0))) && (decide (o.a < t.regs)))) = tb (o.a = 0 ∨ (0 < usesN o.op ∧ 0 < o.a ∧ o.a < t.regs)) := tb_eq (by unfold ln; rw [hun]; simp [and_assoc])
          have hb : ((o.b == 0) || (((decide (ln (usesL (stmO o)) > 1)) && (decide (o.b > 0))) && (decide (o.b < t.regs)))) = tb (o.b = 0 ∨ (1 < usesN o.op ∧ 0 < o.b ∧ o.b < t.regs)) := tb_eq (by unfold ln; rw [hun]; simp [and_assoc])
          rw [ha, hb]
          have hN : NamesP t o ↔ (o.a = 0 ∨ (0 < usesN o.op ∧ 0 < o.a ∧ o.a < t.regs)) ∧ (o.b = 0 ∨ (1 < usesN o.op ∧ 0 < o.b ∧ o.b < t.regs)) := by
            unfold NamesP
            constructor
            · rintro ⟨a1, a2, a3, a4, a5, a6, a7, a8⟩
              refine ⟨?_, ?_⟩
              · by_cases c : o.a = 0
                · exact .inl c
                · exact .inr ⟨by have : ¬ usesN o.op < 1 := fun hh => c (a7 hh); omega, by omega, a4⟩
              · by_cases c : o.b = 0
                · exact .inl c
                · exact .inr ⟨by have : ¬ usesN o.op < 2 := fun hh => c (a8 hh); omega, by omega, a6⟩
            · rintro ⟨b1, b2⟩
              refine ⟨h4.1, h4.2, ?_, ?_, ?_, ?_, fun hh => ?_, fun hh => ?_⟩
              all_goals first | omega | (rcases b1 with b1 | b1 <;> rcases b2 with b2 | b2 <;> omega)
          by_cases h5 : (o.a = 0 ∨ (0 < usesN o.op ∧ 0 < o.a ∧ o.a < t.regs))
          · by_cases h6 : (o.b = 0 ∨ (1 < usesN o.op ∧ 0 < o.b ∧ o.b < t.regs))
            · rw [tb_t h5, tb_t h6, tb_t (p := OneP t k o logs) ⟨⟨h1.1, h1.2.1, h1.2.2.1, h1.2.2.2, h2⟩, hN.2 ⟨h5, h6⟩, h3⟩]; rfl
            · rw [tb_t h5, tb_f h6, tb_f fun hh : OneP t k o logs => h6 (hN.1 hh.2.1).2]; rfl
          · rw [tb_f h5, tb_f fun hh : OneP t k o logs => h5 (hN.1 hh.2.1).1]; rfl
        · have hd : (decide (o.dest ≥ 0) && decide (o.dest < t.regs)) = false := by
            rw [Bool.and_eq_false_iff, decide_eq_false_iff_not, decide_eq_false_iff_not]; omega
          rw [hd, tb_f fun hh : OneP t k o logs => h4 ⟨hh.2.1.1, hh.2.1.2.1⟩]; rfl
      · rw [tb_f h3, tb_f fun hh : OneP t k o logs => h3 hh.2.2]; rfl
    · rw [decide_eq_false h2, tb_f fun hh : OneP t k o logs => h2 hh.1.2.2.2.2]; rfl
  · have hc : ((((decide (o.slot ≥ 0)) && (decide (o.slot < k.pace))) && (decide (o.stage ≥ 0))) && (decide (o.stage < k.stages))) = false := by
      cases hh : ((((decide (o.slot ≥ 0)) && (decide (o.slot < k.pace))) && (decide (o.stage ≥ 0))) && (decide (o.stage < k.stages))) with
      | false => rfl
      | true =>
        simp only [Bool.and_eq_true, decide_eq_true_eq] at hh
        exact absurd ⟨hh.1.1.1, hh.1.1.2, hh.1.2, hh.2⟩ h1
    rw [hc, tb_f fun hh : OneP t k o logs => h1 ⟨hh.1.1, hh.1.2.1, hh.1.2.2.1, hh.1.2.2.2.1⟩]
    rfl
theorem cntO_all {t : Tgt} (ht : tgtOk t = true) {k : Krn} {n : Nat} : (∀ i, i < n → (cntO k (i + 1) (keyO k i) : Int) ≤ unitsV t (keyO k i).2) ↔ (∀ i, i < n → (cntO k n (keyO k i) : Int) ≤ unitsV t (keyO k i).2) := by
  have mono : ∀ (κ : Int × Int) i j, i ≤ j → cntO k i κ ≤ cntO k j κ := fun κ i j h => by
    induction j with
    | zero => have : i = 0 := by omega
              subst this; exact Nat.le_refl _
    | succ j ih =>
      by_cases e : i = j + 1
      · subst e; exact Nat.le_refl _
      · rw [cntO_succ]; have := ih (by omega); omega
  constructor
  · intro h
    have key : ∀ m, m ≤ n → ∀ κ, (cntO k m κ : Int) ≤ unitsV t κ.2 := by
      intro m
      induction m with
      | zero => intro _ κ; have := (units_bd ht κ.2).1; show ((0 : Nat) : Int) ≤ _; omega
      | succ m ih =>
        intro hm κ
        by_cases e : keyO k m = κ
        · have := h m (by omega); rw [e] at this; exact this
        · rw [cntO_succ, if_neg e]; exact ih (by omega) κ
    exact fun i _ => key n (Nat.le_refl _) _
  · intro h i hi
    have := h i hi
    have := mono (keyO k i) (i + 1) n hi
    omega
theorem pMay_s {t : Tgt} {k : Krn} {logs : List Int} (hf : ∀ i : Nat, i < k.ops.length → (lpO logs (ele k.ops (i : Int))).Fine) : kernel_May_m t k logs = some (tb (KMayP t k logs)) := by
  unfold kernel_May_m
  rw [target_May_s, bd_ret]
  by_cases h : tgtOk t = true ∧ (1 ≤ k.pace ∧ k.pace ≤ 200) ∧ (1 ≤ k.stages ∧ k.stages ≤ 1001) ∧ (1 ≤ k.ops.length ∧ k.ops.length ≤ 16)
  · obtain ⟨h1, h2, h3, h4⟩ := h
    rw [show (((((((!tgtOk t) || (decide (k.pace < 1))) || (decide (k.pace > 200))) || (decide (k.stages < 1))) || (decide (k.stages > 1001))) || (decide ((ln k.ops) < 1))) || (decide ((ln k.ops) > 16))) = false from by rw [h1]; unfold ln; simp; omega, br_false]
    rcases lp_chk (f := kernel_May_L0 t k logs) (n := k.ops.length) (r0 := false) (fun i => OneP t k (ele k.ops (i : Int)) logs ∧ (cntO k (i + 1) (keyO k i) : Int) ≤ unitsV t (keyO k i).2) (fun i m => ∀ κ, mget m κ 0 = (cntO k i κ : Int)) (fun i g hi hg => by
        have hc := clsV_range (ele k.ops (i : Int)).op
        have hcl := cntO_le k (keyO k i) i
        have hk : ((ele k.ops (i : Int)).slot, clsV (ele k.ops (i : Int)).op) = keyO k i := rfl
        have hmg := hg (keyO k i)
        have hnew : mget (mput g (keyO k i) (mget g (keyO k i) 0 + 1)) (keyO k i) 0 = (cntO k (i + 1) (keyO k i) : Int) := by rw [mget_mput, if_pos rfl, hmg, cntO_succ, if_pos rfl]; rfl
        have hun : sel3 t.u0 t.u1 t.u2 (clsV (ele k.ops (i : Int)).op) = unitsV t (keyO k i).2 := rfl
        unfold kernel_May_L0
        simp only
        rw [br_T (by unfold ln; omega), ck_IX (by omega) (by unfold ln; omega), kop_s h1 h2 h3 (hf i hi), bd_ret]
        by_cases h5 : OneP t k (ele k.ops (i : Int)) logs
        · rw [tb_t h5, Bool.not_true, br_false, num_Class_s, bd_ret, hk, ck_IR (by omega) (by omega), ck_IX hc.1 hc.2, hnew, hun]
          by_cases h6 : (cntO k (i + 1) (keyO k i) : Int) > unitsV t (keyO k i).2
          · rw [br_T h6]; exact .inr ⟨fun h => by omega, rfl⟩
          · rw [br_F h6, ck_IR (by omega) (by omega)]
            refine .inl ⟨⟨h5, by omega⟩, _, rfl, fun κ => ?_⟩
            rw [mget_mput, cntO_succ]
            by_cases hq : keyO k i = κ
            · rw [if_pos hq, if_pos hq, hmg, hq]; rfl
            · rw [if_neg hq, if_neg hq, hg]; rfl
        · rw [tb_f h5]
          exact .inr ⟨fun h => h5 h.1, rfl⟩) (fun g => by unfold kernel_May_L0; exact br_F (by unfold ln; omega)) [] (fun κ => rfl) with ⟨q1, m, e, _⟩ | ⟨q1, e⟩
    · rw [e, bd_ret, Out.on_go, tb_t (p := KMayP t k logs) ⟨h1, h2, h3, h4, fun i hi => (q1 i hi).1, (cntO_all h1).1 fun i hi => (q1 i hi).2⟩]
    · rw [e, bd_ret, Out.on_ret, tb_f fun h : KMayP t k logs => q1 fun i hi => ⟨h.one i hi, (cntO_all h1).2 h.units i hi⟩]
  · rw [tb_f fun hk : KMayP t k logs => h ⟨hk.tgt, hk.pace, hk.stages, hk.n⟩]
    have hc : (((((((!tgtOk t) || (decide (k.pace < 1))) || (decide (k.pace > 200))) || (decide (k.stages < 1))) || (decide (k.stages > 1001))) || (decide ((ln k.ops) < 1))) || (decide ((ln k.ops) > 16))) = true := by
      cases hh : (((((((!tgtOk t) || (decide (k.pace < 1))) || (decide (k.pace > 200))) || (decide (k.stages < 1))) || (decide (k.stages > 1001))) || (decide ((ln k.ops) < 1))) || (decide ((ln k.ops) > 16))) with
      | true => rfl
      | false =>
        unfold ln at hh
        simp only [Bool.or_eq_false_iff, Bool.not_eq_false', decide_eq_false_iff_not] at hh
        obtain ⟨⟨⟨⟨⟨⟨a1, a2⟩, a3⟩, a4⟩, a5⟩, a6⟩, a7⟩ := hh
        exact absurd ⟨a1, ⟨by omega, by omega⟩, ⟨by omega, by omega⟩, by omega, by omega⟩ h
    rw [hc]; rfl
end Go.Rd
end

section
namespace Go.Rd
set_option linter.unusedVariables false
def regF (y : LayD) (a : Int) (q : Nat) : Int := (ele y.places a - q - 1) % y.regs
def frA (y : LayD) (a : Int) (n : Nat) : List Int := (List.range n).map (regF y a)
def fregs (y : LayD) (L : List Int) : List Int := L.flatMap fun a => frA y a (farV y.body a).toNat
def FirstsP (y : LayD) (L : List Int) : Prop := (fregs y L).Nodup
theorem nodup_snoc {l : List Int} {x : Int} : (l ++ [x]).Nodup ↔ l.Nodup ∧ x ∉ l := by
  rw [List.nodup_append]
  constructor
  · rintro ⟨h1, _, h3⟩
    exact ⟨h1, fun h => h3 x h x (by simp) rfl⟩
  · rintro ⟨h1, h2⟩
    exact ⟨h1, by simp, fun a ha b hb e => by
      rw [List.mem_singleton] at hb
      subst hb; subst e
      exact h2 ha⟩
theorem frA_succ (y : LayD) (a : Int) (n : Nat) : frA y a (n + 1) = frA y a n ++ [regF y a n] := rm_succ.symm
theorem nodup_frA {y : LayD} {a : Int} {F : List Int} : ∀ n, (F ++ frA y a n).Nodup ↔ F.Nodup ∧ ∀ i, i < n → regF y a i ∉ F ++ frA y a i
  | 0 => by
    show (F ++ []).Nodup ↔ _
    rw [List.append_nil]
    exact ⟨fun h => ⟨h, fun i hi => absurd hi (Nat.not_lt_zero _)⟩, fun h => h.1⟩
  | n + 1 => by
    rw [frA_succ, ← List.append_assoc, nodup_snoc, nodup_frA n]
    constructor
    · rintro ⟨⟨h1, h2⟩, h3⟩
      refine ⟨h1, fun i hi => ?_⟩
      by_cases e : i = n
      · subst e; exact h3
      · exact h2 i (by omega)
    · rintro ⟨h1, h2⟩
      exact ⟨⟨h1, fun i hi => h2 i (by omega)⟩, h2 n (by omega)⟩
theorem LayD.Ok.bk {y : LayD} (hy : y.Ok) : ∀ i : Nat, i < y.body.length → ∀ r ∈ usesL (ele y.body (i : Int)), 0 ≤ r.bk ∧ r.bk ≤ 3 := fun i hi r hr => (hy.us i hi r hr).2.2
theorem far_bd {y : LayD} (hy : y.Ok) (a : Int) : 0 ≤ farV y.body a ∧ farV y.body a ≤ 3 := farN_bd hy.bk a _ (Nat.le_refl _)
theorem first_in {y : LayD} (hy : y.Ok) {L : List Int} {i : Nat} (hi : i < L.length) (hL : ∀ x ∈ L, 0 ≤ x ∧ x < y.body.length) {n : Nat} (hn : n ≤ 3) {F : List Int} {m : List (Int × Bool)} (hm : ∀ v, mget m v false = true ↔ v ∈ F) :
    ((∀ q, q < n → regF y (ele L (i : Int)) q ∉ F ++ frA y (ele L (i : Int)) q) ∧ ∃ m', lp (keep_Layout_Firsts_L2 y.regs y.places L i n) (m, 0) = some (.go (m', (n : Int))) ∧ ∀ v, mget m' v false = true ↔ v ∈ F ++ frA y (ele L (i : Int)) n) ∨ (¬ (∀ q, q < n → regF y (ele L (i : Int)) q ∉ F ++ frA y (ele L (i : Int)) q) ∧ lp (keep_Layout_Firsts_L2 y.regs y.places L i n) (m, 0) = some (.ret false)) := by
  have hR := hy.regs
  have ha := hL _ (ele_mem' hi)
  obtain ⟨a, haa⟩ := Int.eq_ofNat_of_zero_le ha.1
  have hp := hy.pl a (by omega)
  have hlp := hy.lp
  rw [← haa] at hp
  refine lp_chk (f := keep_Layout_Firsts_L2 y.regs y.places L i n) (n := n) (r0 := false) (fun q => regF y (ele L (i : Int)) q ∉ F ++ frA y (ele L (i : Int)) q) (fun q m => ∀ v, mget m v false = true ↔ v ∈ F ++ frA y (ele L (i : Int)) q) (fun q g hq hg => ?_) (fun g => by unfold keep_Layout_Firsts_L2; exact br_F (by omega)) m (fun v => by rw [hm]; show _ ↔ v ∈ F ++ []; rw [List.append_nil])
  have ht := tmod_lt' (ele y.places (ele L (i : Int)) - (q : Int) - 1) (show 0 < y.regs by omega)
  have he : (ele y.places (ele L (i : Int)) - (q : Int) - 1) % y.regs = regF y (ele L (i : Int)) q := rfl
  unfold keep_Layout_Firsts_L2
  simp only
  rw [br_T (by omega), ck_IX (by omega) (by unfold ln; omega), ck_IR (by omega) (by omega), ck_IR (by omega) (by omega), ck_yes (by omega), ck_IR (by omega) (by omega), ck_yes (by omega), tm2 hR.1 hR.2, he]
  by_cases h : regF y (ele L (i : Int)) q ∈ F ++ frA y (ele L (i : Int)) q
  · rw [(hg _).2 h, br_true]
    exact .inr ⟨fun h' => h' h, rfl⟩
  · have hf : mget g (regF y (ele L (i : Int)) q) false = false := by
      cases hh : mget g (regF y (ele L (i : Int)) q) false with
      | false => rfl
      | true => exact absurd ((hg _).1 hh) h
    rw [hf, br_false, ck_IR (by omega) (by omega)]
    refine .inl ⟨h, _, rfl, fun v => ?_⟩
    rw [mget_mput, frA_succ, ← List.append_assoc, List.mem_append, List.mem_singleton, ← hg]
    by_cases e : regF y (ele L (i : Int)) q = v
    · rw [if_pos e]; simp [e]
    · rw [if_neg e]
      exact ⟨.inl, fun h => h.resolve_right fun h => e h.symm⟩
theorem fregs_take {y : LayD} {L : List Int} {i : Nat} (hi : i < L.length) : fregs y (L.take (i + 1)) = fregs y (L.take i) ++ frA y (ele L (i : Int)) (farV y.body (ele L (i : Int))).toNat := by
  rw [take_next hi]
  unfold fregs
  rw [List.flatMap_append]
  simp
theorem nodup_take {y : LayD} {L : List Int} : ∀ n, n ≤ L.length → ((fregs y (L.take n)).Nodup ↔ ∀ i, i < n → ∀ q, q < (farV y.body (ele L (i : Int))).toNat → regF y (ele L (i : Int)) q ∉ fregs y (L.take i) ++ frA y (ele L (i : Int)) q)
  | 0, _ => by simp [fregs]
  | n + 1, h => by
    rw [fregs_take (by omega), nodup_frA, nodup_take n (by omega)]
    constructor
    · rintro ⟨h1, h2⟩ i hi
      by_cases e : i = n
      · subst e; exact h2
      · exact h1 i (by omega)
    · intro h1
      exact ⟨fun i hi => h1 i (by omega), h1 n (by omega)⟩
theorem firsts_s {y : LayD} (hy : y.Ok) {L : List Int} (hL : ∀ x ∈ L, 0 ≤ x ∧ x < y.body.length) (hl : L.length ≤ 100000) : keep_Layout_Firsts_m y.logs y.body y.outs y.pace y.regs y.places L = some (tb (FirstsP y L)) := by
  have hn := hy.n
  unfold keep_Layout_Firsts_m
  have X := lp_chk (f := keep_Layout_Firsts_L0 y.logs y.body y.outs y.regs y.places L) (n := L.length) (r0 := false) (fun i => ∀ q, q < (farV y.body (ele L (i : Int))).toNat → regF y (ele L (i : Int)) q ∉ fregs y (L.take i) ++ frA y (ele L (i : Int)) q) (fun i m => ∀ v, mget m v false = true ↔ v ∈ fregs y (L.take i)) (fun i g hi hg => by
    have hf := far_bd hy (ele L (i : Int))
    obtain ⟨n, hn'⟩ := Int.eq_ofNat_of_zero_le hf.1
    unfold keep_Layout_Firsts_L0
    simp only
    rw [br_T (by unfold ln; omega), ck_IX (by omega) (by unfold ln; omega), far_s (l := ⟨y.logs, y.body, y.outs⟩) hn.2 hy.bk, bd_ret, show farV (Lp.mk y.logs y.body y.outs).body (ele L (i : Int)) = farV y.body (ele L (i : Int)) from rfl, hn', Int.toNat_natCast]
    rcases first_in hy hi hL (n := n) (by omega) hg with ⟨h1, m', h2, h3⟩ | ⟨h1, h2⟩
    · refine .inl ⟨h1, m', ?_, fun v => ?_⟩
      · rw [h2, bd_ret, Out.on_go, ck_IR (by omega) (by omega)]
      · rw [h3, fregs_take hi, hn', Int.toNat_natCast]
    · exact .inr ⟨h1, by rw [h2, bd_ret, Out.on_ret]⟩) (fun g => by unfold keep_Layout_Firsts_L0; exact br_F (by unfold ln; omega)) [] (fun v => by simp [fregs, mget_nil])
  have hN := nodup_take (y := y) (L := L) L.length (Nat.le_refl _)
  rw [List.take_length] at hN
  rcases X with ⟨h1, m, e, _⟩ | ⟨h1, e⟩
  · rw [e, bd_ret, Out.on_go, tb_t (p := FirstsP y L) (hN.2 h1)]
  · rw [e, bd_ret, Out.on_ret, tb_f fun h : FirstsP y L => h1 (hN.1 h)]
end Go.Rd
end

section
namespace Go.Rd
set_option linter.unusedVariables false
end Go.Rd
end

section
namespace Go.Rd
set_option linter.unusedVariables false
def natL (n : Nat) : List Int := (List.range n).map fun i : Nat => (i : Int)
theorem natL_mem {n : Nat} {x : Int} (h : x ∈ natL n) : 0 ≤ x ∧ x < n := by
  unfold natL at h
  rw [List.mem_map] at h
  obtain ⟨i, hi, rfl⟩ := h
  have := List.mem_range.1 hi
  omega
theorem natL_len (n : Nat) : (natL n).length = n := by unfold natL; simp
def LayD.wp (y : LayD) (v : List Int) : LayD := { y with places := v }
structure PlOk (y : LayD) (v : List Int) : Prop where
  len : v.length = y.body.length
  bd : ∀ i : Nat, i < y.body.length → 0 ≤ ele v (i : Int) ∧ ele v (i : Int) ≤ 128
theorem LayD.Ok.wp {y : LayD} (hy : y.Ok) {v : List Int} (hv : PlOk y v) : (y.wp v).Ok :=
  ⟨hy.n, hy.lt, hy.lr, hv.len, hy.lo, hy.pace, hy.regs, hy.tm, hy.rd, fun i hi => by have := hv.bd i hi; exact ⟨by show -100000 ≤ ele v _; omega, by show ele v _ ≤ 100000; omega⟩, hy.us⟩
end Go.Rd
end

section
namespace Go.Rd
set_option linter.unusedVariables false
theorem rfar_s {l : Lp} (hn : l.body.length ≤ 16) (hu : ∀ i : Nat, i < l.body.length → ∀ r ∈ usesL (ele l.body (i : Int)), 0 ≤ r.bk ∧ r.bk ≤ 3) (a : Int) : roundelayref10_Far_m l a = some (farV l.body a) := by
  have X := lp_det (f := roundelayref10_Far_L0 l a) (ρ := Empty) (fun k => (farN l.body a k, (k : Int))) l.body.length (fun k hk => by
    have h2 := usesL_len (ele l.body (k : Int))
    have Y := lp_det (f := roundelayref10_Far_L2 a (usesL (ele l.body (k : Int)))) (ρ := Empty) (fun j => (farU a ((usesL (ele l.body (k : Int))).take j) (farN l.body a k), (j : Int))) (usesL (ele l.body (k : Int))).length (fun j hj => by
      unfold roundelayref10_Far_L2
      simp only
      rw [br_T (by unfold ln; omega), ck_IX (by omega) (by unfold ln; omega), ck_imp (fun _ => ⟨by omega, by unfold ln; omega⟩), take_next hj, farU_app]
      generalize farU a ((usesL (ele l.body (k : Int))).take j) (farN l.body a k) = f
      show _ = some (Stp.next (if (ele (usesL (ele l.body (k : Int))) (j : Int)).st = a then max f (ele (usesL (ele l.body (k : Int))) (j : Int)).bk else f, _))
      by_cases e : (ele (usesL (ele l.body (k : Int))) (j : Int)).st = a
      · by_cases e2 : (ele (usesL (ele l.body (k : Int))) (j : Int)).bk > f
        · rw [show (((ele (usesL (ele l.body (k : Int))) (j : Int)).st == a) && decide ((ele (usesL (ele l.body (k : Int))) (j : Int)).bk > f)) = true from by simp [e, e2], br_true, ck_IX (by omega) (by unfold ln; omega), ck_IR (by omega) (by omega), if_pos e, show max f (ele (usesL (ele l.body (k : Int))) (j : Int)).bk = (ele (usesL (ele l.body (k : Int))) (j : Int)).bk from by omega]; rfl
        · rw [show (((ele (usesL (ele l.body (k : Int))) (j : Int)).st == a) && decide ((ele (usesL (ele l.body (k : Int))) (j : Int)).bk > f)) = false from by simp [e2], br_false, ck_IR (by omega) (by omega), if_pos e, show max f (ele (usesL (ele l.body (k : Int))) (j : Int)).bk = f from by omega]; rfl
      · rw [show (((ele (usesL (ele l.body (k : Int))) (j : Int)).st == a) && decide ((ele (usesL (ele l.body (k : Int))) (j : Int)).bk > f)) = false from by simp [e], br_false, ck_IR (by omega) (by omega), if_neg e]; rfl) (by unfold roundelayref10_Far_L2; exact br_F (by unfold ln; omega))
    rw [List.take_length] at Y
    unfold roundelayref10_Far_L0
    simp only
    rw [br_T (by unfold ln; omega), ck_IX (by omega) (by unfold ln; omega), ref_Uses_s, bd_ret,
      show lp (roundelayref10_Far_L2 a (usesL (ele l.body (k : Int)))) (farN l.body a k, 0) = _ from Y, bd_ret, Out.on_go, ck_IR (by omega) (by omega)]
    rfl) (by unfold roundelayref10_Far_L0; exact br_F (by unfold ln; omega))
  unfold roundelayref10_Far_m
  rw [show lp (roundelayref10_Far_L0 l a) (0, 0) = _ from X, bd_ret, Out.on_go]
  rfl
def oprAt (k : Krn) (order : List Int) (s : Nat) : Opr := ele k.ops (ele order (s : Int))
def timeK (k : Krn) (o : Opr) : Int := o.slot + k.pace * o.stage
def offK (t : Tgt) (k : Krn) (order : List Int) (s : Nat) : Off := ⟨timeK k (oprAt k order s), timeK k (oprAt k order s) + waitV t (oprAt k order s).op, (oprAt k order s).dest + (oprAt k order s).stage⟩
def layK (l : Lp) (t : Tgt) (k : Krn) (order : List Int) : LayD :=
  ⟨l.logs, l.body, l.outs, k.pace, t.regs, (List.range l.body.length).map fun s => (offK t k order s).time, (List.range l.body.length).map fun s => (offK t k order s).ready, (List.range l.body.length).map fun s => (offK t k order s).place⟩
def SameO (o : Opr) (x : Stm) : Prop := o.op = x.op ∧ o.ar = x.ar ∧ o.sp = x.sp ∧ o.pl = x.pl ∧ o.n = x.n
def OrdP (l : Lp) (k : Krn) (order : List Int) (s : Nat) : Prop := (0 ≤ ele order (s : Int) ∧ ele order (s : Int) < l.body.length) ∧ (∀ i, i < s → ele order (i : Int) ≠ ele order (s : Int)) ∧ SameO (oprAt k order s) (ele l.body (s : Int))
structure LayP (l : Lp) (t : Tgt) (k : Krn) (order : List Int) : Prop where
  loop : LoopOk l
  tgt : tgtOk t = true
  may : KMayP t k l.logs
  n : k.ops.length = l.body.length
  no : order.length = l.body.length
  ord : ∀ s, s < l.body.length → OrdP l k order s
def KFine (l : Lp) (k : Krn) : Prop := ∀ i : Nat, i < k.ops.length → (lpO l.logs (ele k.ops (i : Int))).Fine
theorem LayP.opr {l : Lp} {t : Tgt} {k : Krn} {order : List Int} (hm : KMayP t k l.logs) (hn : k.ops.length = l.body.length) {s : Nat} (h : 0 ≤ ele order (s : Int) ∧ ele order (s : Int) < l.body.length) : OneP t k (oprAt k order s) l.logs := by
  obtain ⟨i, hi⟩ := Int.eq_ofNat_of_zero_le h.1
  unfold oprAt
  rw [hi]
  exact hm.one i (by omega)
theorem opr_bd {t : Tgt} {k : Krn} {o : Opr} {logs : List Int} (hm : KMayP t k logs) (h : OneP t k o logs) : (0 ≤ timeK k o ∧ timeK k o ≤ 1000) ∧ (0 ≤ k.pace * o.stage ∧ k.pace * o.stage ≤ 1000) ∧ (0 ≤ o.dest ∧ o.dest < 128) ∧ (0 ≤ o.stage ∧ o.stage ≤ 1000) := by
  obtain ⟨⟨a1, a2, a3, a4, a5⟩, ⟨b1, b2, _⟩, _⟩ := h
  have ht := hm.tgt
  rw [tgtOk_iff] at ht
  have hp := hm.pace; have hs := hm.stages
  have h0 := Int.mul_nonneg (show 0 ≤ k.pace by omega) a3
  have e := Int.mul_comm o.stage k.pace
  unfold timeK
  omega
theorem Layout_s {l : Lp} (hf : l.Fine) {t : Tgt} {k : Krn} {order : List Int} (hk : KFine l k) (ho : order.length ≤ 9223372036854775807) : roundelayref10_Layout_m l t k order = some (if tb (LayP l t k order) = true then ((List.range l.body.length).map (offK t k order), true) else ([], false)) := by
  unfold roundelayref10_Layout_m
  rw [rMay_s hf, bd_ret, kMay_s hk, bdG_some']
  by_cases h : (LoopOk l ∧ tgtOk t = true) ∧ KMayP t k l.logs ∧ k.ops.length = l.body.length ∧ order.length = l.body.length
  · obtain ⟨h1, h2, h3, h4⟩ := h
    have hn := h1.1.2.2.1
    rw [tb_t h1, tb_t h2, show ((((!true) || (!(if (!(!true)) = true then true else false))) || ((ln k.ops) != (ln l.body))) || ((ln order) != (ln l.body))) = false from by unfold ln; simp [h3, h4], br_false]
    have X := lp_det2 (f := roundelayref10_Layout_L0 l t k order) (ρ := List Off × Bool) (fun s => ((List.range s).map (offK t k order), (s : Int))) l.body.length (fun s => OrdP l k order s) (fun _ => ([], false)) (fun s hs _ => by
      unfold roundelayref10_Layout_L0
      simp only
      have hix : IX (s : Int) (ln order) := ⟨by omega, by unfold ln; omega⟩
      rw [br_T (by unfold ln; omega), ck_yes hix, ck_imp (fun _ => hix)]
      by_cases c1 : 0 ≤ ele order (s : Int) ∧ ele order (s : Int) < l.body.length
      · rw [show (decide (ele order (s : Int) < 0) || decide (ele order (s : Int) ≥ ln l.body)) = false from by unfold ln; simp; omega, br_false]
        rcases lp_det2 (f := roundelayref10_Layout_L2 order s) (ρ := List Off × Bool) (fun i => (i : Int)) s (fun i => ele order (i : Int) ≠ ele order (s : Int)) (fun _ => ([], false)) (fun i hi _ => by
            unfold roundelayref10_Layout_L2
            rw [br_T (by omega), ck_IX (by omega) (by unfold ln; omega), ck_yes hix]
            exact ⟨fun h => by rw [show (ele order (i : Int) == ele order (s : Int)) = false from by simp [h], br_false, ck_IR (by omega) (by omega)]; rfl, fun h => by rw [show (ele order (i : Int) == ele order (s : Int)) = true from by simpa using h, br_true]⟩) (by unfold roundelayref10_Layout_L2; exact br_F (by omega)) with ⟨q1, e⟩ | ⟨i, q1, q2, _, e⟩
        · have ho := LayP.opr h2 h3 c1
          have hob := opr_bd h2 ho
          have hw := waitV_bd t (oprAt k order s).op
          rw [show lp (roundelayref10_Layout_L2 order s) 0 = _ from e, bd_ret, Out.on_go, ck_yes hix, ck_IX (by omega) (by unfold ln; omega), ck_IX (by omega) (by unfold ln; omega)]
          rw [show ele k.ops (ele order (s : Int)) = oprAt k order s from rfl]
          have hb : ((((((oprAt k order s).op != (ele l.body (s : Int)).op) || ((oprAt k order s).ar != (ele l.body (s : Int)).ar)) || ((oprAt k order s).sp != (ele l.body (s : Int)).sp)) || ((oprAt k order s).pl != (ele l.body (s : Int)).pl)) || ((oprAt k order s).n != (ele l.body (s : Int)).n)) = !tb (SameO (oprAt k order s) (ele l.body (s : Int))) := by
            rw [show tb (SameO (oprAt k order s) (ele l.body (s : Int))) = !((((((oprAt k order s).op != (ele l.body (s : Int)).op) || ((oprAt k order s).ar != (ele l.body (s : Int)).ar)) || ((oprAt k order s).sp != (ele l.body (s : Int)).sp)) || ((oprAt k order s).pl != (ele l.body (s : Int)).pl)) || ((oprAt k order s).n != (ele l.body (s : Int)).n)) from (tb_eq (by unfold SameO; simp [and_assoc])).symm, Bool.not_not]
          rw [hb]
          by_cases c2 : SameO (oprAt k order s) (ele l.body (s : Int))
          · rw [tb_t c2, Bool.not_true, br_false]
            unfold timeK at hob
            rw [ck_IR (by omega) (by omega), ck_IR (by omega) (by omega), ref_Wait_s, bd_ret, ck_IR (by omega) (by omega), ck_IR (by omega) (by omega), ck_yes ⟨by show _ ≤ 9223372036854775807; simp; omega, by simp; omega⟩, ck_IR (by omega) (by omega)]
            refine ⟨fun _ => ?_, fun h => absurd ⟨c1, q1, c2⟩ h⟩
            show some (Stp.next ((List.range s).map (offK t k order) ++ [offK t k order s], _)) = _
            rw [rm_succ]; rfl
          · rw [tb_f c2]
            exact ⟨fun h => absurd h.2.2 c2, fun _ => rfl⟩
        · rw [show lp (roundelayref10_Layout_L2 order s) 0 = _ from e, bd_ret, Out.on_ret]
          exact ⟨fun h => absurd (h.2.1 i q1) q2, fun _ => rfl⟩
      · rw [show (decide (ele order (s : Int) < 0) || decide (ele order (s : Int) ≥ ln l.body)) = true from by
          unfold ln
          rw [Bool.or_eq_true, decide_eq_true_eq, decide_eq_true_eq]; omega, br_true]
        exact ⟨fun h => absurd h.1 c1, fun _ => rfl⟩) (by unfold roundelayref10_Layout_L0; exact br_F (by unfold ln; omega))
    rcases X with ⟨q1, e⟩ | ⟨s, q1, q2, _, e⟩
    · rw [show lp (roundelayref10_Layout_L0 l t k order) ([], 0) = _ from e, bd_ret, Out.on_go, tb_t (p := LayP l t k order) ⟨h1.1, h1.2, h2, h3, h4, q1⟩]
      rfl
    · rw [show lp (roundelayref10_Layout_L0 l t k order) ([], 0) = _ from e, bd_ret, Out.on_ret, tb_f fun h : LayP l t k order => q2 (h.ord s q1)]
      rfl
  · rw [tb_f fun hl : LayP l t k order => h ⟨⟨hl.loop, hl.tgt⟩, hl.may, hl.n, hl.no⟩]
    by_cases h1 : LoopOk l ∧ tgtOk t = true
    · by_cases h2 : KMayP t k l.logs
      · rw [tb_t h1, tb_t h2, show ((((!true) || (!(if (!(!true)) = true then true else false))) || ((ln k.ops) != (ln l.body))) || ((ln order) != (ln l.body))) = true from by
          unfold ln
          by_cases h3 : k.ops.length = l.body.length
          · have h4 : ¬ order.length = l.body.length := fun h4 => h ⟨h1, h2, h3, h4⟩
            simp; omega
          · simp; omega, br_true]
        rfl
      · rw [tb_t h1, tb_f h2]; rfl
    · rw [tb_f h1]; rfl
theorem layK_ok {l : Lp} {t : Tgt} {k : Krn} {order : List Int} (h : LayP l t k order) : (layK l t k order).Ok := by
  have ht := h.tgt
  rw [tgtOk_iff] at ht
  refine ⟨⟨h.loop.2.1, h.loop.2.2.1⟩, by unfold layK; simp, by unfold layK; simp, by unfold layK; simp, by have := outs_len h.loop; show l.outs.length ≤ _; omega, h.may.pace, ht.2.2.2, fun i hi => ?_, fun i hi => ?_, fun i hi => ?_, fun i hi r hr => ?_⟩
  all_goals have hi' : i < l.body.length := hi
  · have ho := opr_bd h.may (LayP.opr h.may h.n (h.ord i hi').1)
    rw [show ele (layK l t k order).time (i : Int) = (offK t k order i).time from ele_rm hi']
    exact ho.1
  · have ho := opr_bd h.may (LayP.opr h.may h.n (h.ord i hi').1)
    have hw := waitV_bd t (oprAt k order i).op
    rw [show ele (layK l t k order).ready (i : Int) = (offK t k order i).ready from ele_rm hi']
    show 0 ≤ timeK k (oprAt k order i) + waitV t (oprAt k order i).op ∧ timeK k (oprAt k order i) + waitV t (oprAt k order i).op ≤ 1006
    omega
  · have ho := opr_bd h.may (LayP.opr h.may h.n (h.ord i hi').1)
    rw [show ele (layK l t k order).places (i : Int) = (offK t k order i).place from ele_rm hi']
    show -100000 ≤ (oprAt k order i).dest + (oprAt k order i).stage ∧ (oprAt k order i).dest + (oprAt k order i).stage ≤ 100000
    omega
  · have h1 := uses_ok h.loop hi' hr
    have h2 := h1.st (by omega)
    exact ⟨h2.1, h2.2, h1.1, h1.2.1⟩
end Go.Rd
end

section
namespace Go.Rd
set_option linter.unusedVariables false
def offsK (l : Lp) (t : Tgt) (k : Krn) (order : List Int) : List Off := (List.range l.body.length).map (offK t k order)
def NearP (y : LayD) (r : Rf) (u : Int) (m j : Int) : Prop := (ele y.ready r.st ≤ ele y.ready m + j * y.pace ∧ ele y.ready m + j * y.pace ≤ u) ∨ (0 < r.bk ∧ 0 < j ∧ ele y.ready m + j * y.pace ≤ u)
def KeptAt (y : LayD) (r : Rf) (u : Int) (m j : Int) : Prop := NearP y r u m j → ¬ (m = r.st ∧ j = 0) → (ele y.places m + j - ele y.places r.st) % y.regs ≠ 0
def KeptP (y : LayD) (r : Rf) (u : Int) : Prop := ∀ m : Nat, m < y.body.length → ∀ i : Nat, i < 8201 → KeptAt y r u m (-4100 + i)
def ToldAt (y : LayD) (a m j : Int) : Prop := (m ≠ a ∨ j ≠ 0) → (ele y.places m + j - ele y.places a) % y.regs ≠ 0
def ToldP (y : LayD) (a : Int) : Prop := ∀ m : Nat, m < y.body.length → ∀ i : Nat, ele y.ready a ≤ ele y.ready (m : Int) - i * y.pace → ToldAt y a m (-(i : Int))
section
variable {l : Lp} {t : Tgt} {k : Krn} {order : List Int}
theorem offs_ln : ln (offsK l t k order) = l.body.length := ln_rm
theorem offs_at {i : Nat} (hi : i < l.body.length) : (ele (offsK l t k order) (i : Int)).time = ele (layK l t k order).time (i : Int) ∧ (ele (offsK l t k order) (i : Int)).ready = ele (layK l t k order).ready (i : Int) ∧ (ele (offsK l t k order) (i : Int)).place = ele (layK l t k order).places (i : Int) := by
  unfold offsK layK
  rw [ele_rm hi, ele_rm hi, ele_rm hi, ele_rm hi]
  exact ⟨rfl, rfl, rfl⟩
theorem kept_s (h : LayP l t k order) {r : Rf} (hr : 0 ≤ r.st ∧ r.st < l.body.length) {u : Int} : roundelayref10_kept_m (offsK l t k order) k.pace t.regs r u = some (tb (KeptP (layK l t k order) r u)) := by
  have hy := layK_ok h
  have hn := h.loop.2.2.1
  have hp := h.may.pace
  have hR := hy.regs
  obtain ⟨a, ha⟩ := Int.eq_ofNat_of_zero_le hr.1
  have ha' : a < l.body.length := by omega
  have pa := hy.pl a ha'
  obtain ⟨a1, a2, a3⟩ := offs_at (t := t) (k := k) (order := order) ha'
  unfold roundelayref10_kept_m
  rw [ck_IX (by omega) (by rw [offs_ln]; omega)]
  have X := lp_det2 (f := roundelayref10_kept_L0 (offsK l t k order) k.pace t.regs r u) (ρ := Bool) (fun i => (i : Int)) l.body.length (fun m => ∀ i : Nat, i < 8201 → KeptAt (layK l t k order) r u m (-4100 + i)) (fun _ => false) (fun m hm _ => by
    have rm := hy.rd m hm; have pm := hy.pl m hm
    obtain ⟨m1, m2, m3⟩ := offs_at (t := t) (k := k) (order := order) hm
    unfold roundelayref10_kept_L0
    rw [br_T (by rw [offs_ln]; omega)]
    rcases lp_det2 (f := roundelayref10_kept_L2 (offsK l t k order) k.pace t.regs r u m) (ρ := Bool) (fun i => -4100 + (i : Int)) 8201 (fun i => KeptAt (layK l t k order) r u m (-4100 + i)) (fun _ => false) (fun i hi _ => by
        generalize hj : -4100 + (i : Int) = j
        have hjb : -4100 ≤ j ∧ j ≤ 4100 := by omega
        have hmul := mul_le (a := j) (A := 4100) (b := k.pace) (B := 200) (by omega) (by omega) (by omega) (by omega)
        unfold roundelayref10_kept_L2
        rw [br_T (by omega), ck_IX (by omega) (by rw [offs_ln]; omega), ck_IR (by omega) (by omega), m2, ha, a2, m3, a3, ck_IR (by omega) (by omega)]
        have hb : ((!(((decide ((ele (layK l t k order).ready (m : Int) + (j * k.pace)) ≥ ele (layK l t k order).ready (a : Int))) && (decide ((ele (layK l t k order).ready (m : Int) + (j * k.pace)) ≤ u))) || (((decide (r.bk > 0)) && (decide (j > 0))) && (decide ((ele (layK l t k order).ready (m : Int) + (j * k.pace)) ≤ u))))) || (((m : Int) == (a : Int)) && (j == 0))) = !tb (NearP (layK l t k order) r u m j ∧ ¬ ((m : Int) = r.st ∧ j = 0)) := by
          rw [show tb (NearP (layK l t k order) r u m j ∧ ¬ ((m : Int) = r.st ∧ j = 0)) = !((!(((decide ((ele (layK l t k order).ready (m : Int) + (j * k.pace)) ≥ ele (layK l t k order).ready (a : Int))) && (decide ((ele (layK l t k order).ready (m : Int) + (j * k.pace)) ≤ u))) || (((decide (r.bk > 0)) && (decide (j > 0))) && (decide ((ele (layK l t k order).ready (m : Int) + (j * k.pace)) ≤ u))))) || (((m : Int) == (a : Int)) && (j == 0))) from (tb_eq (by
            unfold NearP
            rw [ha, show (layK l t k order).pace = k.pace from rfl]
            simp [and_assoc]
            exact fun _ => by by_cases c : (m : Int) = (a : Int) <;> simp [c])).symm, Bool.not_not]
        rw [hb]
        have hst : ((i + 1 : Nat) : Int) = (i : Int) + 1 := by omega
        by_cases c : NearP (layK l t k order) r u m j ∧ ¬ ((m : Int) = r.st ∧ j = 0)
        · rw [tb_t c, Bool.not_true, br_false, ck_IX (by omega) (by rw [offs_ln]; omega), ck_IR (by omega) (by omega), ck_IR (by omega) (by omega), Rest_s _ _ (by show 0 < (layK l t k order).regs; omega) (by show (layK l t k order).regs ≤ _; omega), bd_ret]
          constructor
          · intro hq
            have hq' : (ele (layK l t k order).places (m : Int) + j - ele (layK l t k order).places (a : Int)) % t.regs ≠ 0 := by
              have := hq c.1 c.2
              rw [ha] at this
              exact this
            rw [show ((ele (layK l t k order).places (m : Int) + j - ele (layK l t k order).places (a : Int)) % t.regs == 0) = false from by simpa using hq', br_false, ck_IR (by omega) (by omega)]
            refine congrArg some (congrArg Stp.next ?_); omega
          · intro hq
            have hq' : (ele (layK l t k order).places (m : Int) + j - ele (layK l t k order).places (a : Int)) % t.regs = 0 := Classical.byContradiction fun hh => hq fun _ _ => by rw [ha]; exact hh
            rw [show ((ele (layK l t k order).places (m : Int) + j - ele (layK l t k order).places (a : Int)) % t.regs == 0) = true from by simpa using hq', br_true]
        · rw [tb_f c, Bool.not_false, br_true, ck_IR (by omega) (by omega)]
          refine ⟨fun _ => congrArg some (congrArg Stp.next (by omega)), fun hq => absurd (fun h1 h2 => absurd ⟨h1, h2⟩ c) hq⟩) (by unfold roundelayref10_kept_L2; exact br_F (by omega)) with ⟨q1, e⟩ | ⟨i, q1, q2, _, e⟩
    · rw [show lp (roundelayref10_kept_L2 (offsK l t k order) k.pace t.regs r u m) (-4100) = _ from e, bd_ret, Out.on_go, ck_IR (by omega) (by omega)]
      exact ⟨fun _ => rfl, fun h => absurd q1 h⟩
    · rw [show lp (roundelayref10_kept_L2 (offsK l t k order) k.pace t.regs r u m) (-4100) = _ from e, bd_ret, Out.on_ret]
      exact ⟨fun h => absurd (h i q1) q2, fun _ => rfl⟩) (by unfold roundelayref10_kept_L0; exact br_F (by rw [offs_ln]; omega))
  rcases X with ⟨q1, e⟩ | ⟨m, q1, q2, _, e⟩
  · rw [show lp (roundelayref10_kept_L0 (offsK l t k order) k.pace t.regs r u) 0 = _ from e, bd_ret, Out.on_go, tb_t (p := KeptP (layK l t k order) r u) q1]
  · rw [show lp (roundelayref10_kept_L0 (offsK l t k order) k.pace t.regs r u) 0 = _ from e, bd_ret, Out.on_ret, tb_f fun h : KeptP (layK l t k order) r u => q2 (h m q1)]
theorem told_s (h : LayP l t k order) {a : Nat} (ha : a < l.body.length) : roundelayref10_told_m (offsK l t k order) k.pace t.regs a = some (tb (ToldP (layK l t k order) a)) := by
  have hy := layK_ok h
  have hn := h.loop.2.2.1
  have hp := h.may.pace
  have hR := hy.regs
  have pa := hy.pl a ha; have ra := hy.rd a ha
  obtain ⟨a1, a2, a3⟩ := offs_at (t := t) (k := k) (order := order) ha
  unfold roundelayref10_told_m
  rw [ck_IX (by omega) (by rw [offs_ln]; omega)]
  have X := lp_det2 (f := roundelayref10_told_L0 (offsK l t k order) k.pace t.regs a) (ρ := Bool) (fun i => (i : Int)) l.body.length (fun m => ∀ i : Nat, ele (layK l t k order).ready (a : Int) ≤ ele (layK l t k order).ready (m : Int) - i * (layK l t k order).pace → ToldAt (layK l t k order) a m (-(i : Int))) (fun _ => false) (fun m hm _ => by
    have rm := hy.rd m hm; have pm := hy.pl m hm
    obtain ⟨m1, m2, m3⟩ := offs_at (t := t) (k := k) (order := order) hm
    -- how many turns back are looked at
    obtain ⟨N, hN1, hN2⟩ : ∃ N : Nat, (∀ i : Nat, i < N ↔ ele (layK l t k order).ready (a : Int) ≤ ele (layK l t k order).ready (m : Int) - i * k.pace) ∧ N ≤ 2000 := by
      by_cases c : ele (layK l t k order).ready (a : Int) ≤ ele (layK l t k order).ready (m : Int)
      · have h0 := Int.ediv_nonneg (show 0 ≤ ele (layK l t k order).ready (m : Int) - ele (layK l t k order).ready (a : Int) by omega) (show 0 ≤ k.pace by omega)
        have h1 := Int.ediv_le_self k.pace (show 0 ≤ ele (layK l t k order).ready (m : Int) - ele (layK l t k order).ready (a : Int) by omega)
        refine ⟨((ele (layK l t k order).ready (m : Int) - ele (layK l t k order).ready (a : Int)) / k.pace).toNat + 1, fun i => ⟨fun hi => ?_, fun hi => ?_⟩, by omega⟩
        · have h2 := Int.mul_le_mul_of_nonneg_right (show (i : Int) ≤ (ele (layK l t k order).ready (m : Int) - ele (layK l t k order).ready (a : Int)) / k.pace by omega) (show 0 ≤ k.pace by omega)
          have h3 := Int.ediv_mul_le (ele (layK l t k order).ready (m : Int) - ele (layK l t k order).ready (a : Int)) (show k.pace ≠ 0 by omega)
          omega
        · have h2 : (i : Int) ≤ (ele (layK l t k order).ready (m : Int) - ele (layK l t k order).ready (a : Int)) / k.pace := Int.le_ediv_of_mul_le (by omega) (by omega)
          omega
      · refine ⟨0, fun i => ⟨fun hi => absurd hi (Nat.not_lt_zero _), fun hi => ?_⟩, by omega⟩
        have := Int.mul_nonneg (show 0 ≤ (i : Int) by omega) (show 0 ≤ k.pace by omega)
        omega
    unfold roundelayref10_told_L0
    rw [br_T (by rw [offs_ln]; omega)]
    have hcom : ∀ i : Nat, i ≤ 2000 → (-(i : Int)) * k.pace = -(i * k.pace) ∧ 0 ≤ (i : Int) * k.pace ∧ (i : Int) * k.pace ≤ 400000 := fun i hi => by
      have h1 := mul_le (a := (i : Int)) (A := 2000) (b := k.pace) (B := 200) (by omega) (by omega) (by omega) (by omega)
      have h2 := Int.mul_nonneg (show 0 ≤ (i : Int) by omega) (show 0 ≤ k.pace by omega)
      exact ⟨Int.neg_mul _ _, h2, by omega⟩
    rcases lp_det2 (f := roundelayref10_told_L2 (offsK l t k order) k.pace t.regs a m) (ρ := Bool) (fun i => -(i : Int)) N (fun i => ToldAt (layK l t k order) a m (-(i : Int))) (fun _ => false) (fun i hi _ => by
        have hc := hcom i (by omega)
        have hin := (hN1 i).1 hi
        unfold roundelayref10_told_L2
        rw [ck_IX (by omega) (by rw [offs_ln]; omega), hc.1, ck_IR (by omega) (by omega), m2, a2, m3, a3, ck_IR (by omega) (by omega), br_T (by omega), ck_imp (fun _ => ⟨by omega, by rw [offs_ln]; omega⟩), ck_imp (fun _ => ⟨by omega, by omega⟩), ck_imp (fun _ => ⟨by omega, by omega⟩), Rest_s _ _ (by show 0 < (layK l t k order).regs; omega) (by show (layK l t k order).regs ≤ _; omega), bdG_any]
        have hb : ((((m : Int) != (a : Int)) || (-(i : Int) != 0)) && ((if (((m : Int) != (a : Int)) || (-(i : Int) != 0)) = true then (ele (layK l t k order).places (m : Int) + -(i : Int) - ele (layK l t k order).places (a : Int)) % t.regs else default) == 0)) = !tb (ToldAt (layK l t k order) a m (-(i : Int))) := by
          rw [show (((m : Int) != (a : Int)) || (-(i : Int) != 0)) = tb ((m : Int) ≠ a ∨ -(i : Int) ≠ 0) from tb_eq (by simp)]
          by_cases c : (m : Int) ≠ a ∨ -(i : Int) ≠ 0
          · rw [tb_t c, if_pos rfl, Bool.true_and]
            by_cases d : (ele (layK l t k order).places (m : Int) + -(i : Int) - ele (layK l t k order).places (a : Int)) % t.regs = 0
            · rw [tb_f fun hh : ToldAt (layK l t k order) a m (-(i : Int)) => hh c d, d]; rfl
            · rw [tb_t (p := ToldAt (layK l t k order) a m (-(i : Int))) fun _ => d]; simpa using d
          · rw [tb_f c, tb_t (p := ToldAt (layK l t k order) a m (-(i : Int))) fun h => absurd h c]; rfl
        rw [hb]
        exact ⟨fun hq => by rw [tb_t hq, Bool.not_true, br_false, ck_IR (by omega) (by omega)]; refine congrArg some (congrArg Stp.next ?_); omega, fun hq => by rw [tb_f hq, Bool.not_false, br_true]⟩) (by
        have hc := hcom N hN2
        have hin : ¬ ele (layK l t k order).ready (a : Int) ≤ ele (layK l t k order).ready (m : Int) - (N : Int) * k.pace := fun hh => absurd ((hN1 N).2 hh) (Nat.lt_irrefl _)
        unfold roundelayref10_told_L2
        rw [ck_IX (by omega) (by rw [offs_ln]; omega), hc.1, ck_IR (by omega) (by omega), m2, a2, ck_IR (by omega) (by omega)]
        exact br_F (by omega)) with ⟨q1, e⟩ | ⟨i, q1, q2, _, e⟩
    · rw [show lp (roundelayref10_told_L2 (offsK l t k order) k.pace t.regs a m) 0 = _ from e, bd_ret, Out.on_go, ck_IR (by omega) (by omega)]
      exact ⟨fun _ => rfl, fun h => absurd (fun i hi => q1 i ((hN1 i).2 hi)) h⟩
    · rw [show lp (roundelayref10_told_L2 (offsK l t k order) k.pace t.regs a m) 0 = _ from e, bd_ret, Out.on_ret]
      exact ⟨fun h => absurd (h i ((hN1 i).1 q1)) q2, fun _ => rfl⟩) (by unfold roundelayref10_told_L0; exact br_F (by rw [offs_ln]; omega))
  rcases X with ⟨q1, e⟩ | ⟨m, q1, q2, _, e⟩
  · rw [show lp (roundelayref10_told_L0 (offsK l t k order) k.pace t.regs a) 0 = _ from e, bd_ret, Out.on_go, tb_t (p := ToldP (layK l t k order) a) q1]
  · rw [show lp (roundelayref10_told_L0 (offsK l t k order) k.pace t.regs a) 0 = _ from e, bd_ret, Out.on_ret, tb_f fun h : ToldP (layK l t k order) a => q2 (h m q1)]
end
end Go.Rd
end

section
namespace Go.Rd
set_option linter.unusedVariables false
def nameO (o : Opr) (i : Nat) : Int := if i = 1 then o.b else o.a
def NameP (l : Lp) (t : Tgt) (k : Krn) (order : List Int) (s i : Nat) : Prop := nameO (oprAt k order s) i = (ele (layK l t k order).places (ele (usesL (ele l.body (s : Int))) (i : Int)).st - (ele (usesL (ele l.body (s : Int))) (i : Int)).bk - (oprAt k order s).stage) % t.regs
def TEdgeP (y : LayD) (e : Edg) : Prop := ele y.time e.fr + e.wt ≤ ele y.time e.to + e.bk * y.pace
structure TakesP (l : Lp) (t : Tgt) (k : Krn) (order : List Int) : Prop where
  lay : LayP l t k order
  edge : ∀ e, EdgeP l t e → TEdgeP (layK l t k order) e
  name : ∀ s, s < l.body.length → ∀ i, i < (usesL (ele l.body (s : Int))).length → NameP l t k order s i
  apart : ∀ a m : Nat, a < l.body.length → m < l.body.length → ApartP (layK l t k order) a m
  firsts : FirstsP (layK l t k order) (natL l.body.length)
theorem layK_us {l : Lp} {t : Tgt} {k : Krn} {order : List Int} (h : LayP l t k order) : ∀ s : Nat, s < l.body.length → ∀ r ∈ usesL (ele l.body (s : Int)), 0 ≤ r.st ∧ r.st < l.body.length ∧ 0 ≤ r.bk ∧ r.bk ≤ 3 := fun s hs r hr => (layK_ok h).us s hs r hr
def KeepAll (l : Lp) (y : LayD) : Prop := (∀ s : Nat, s < l.body.length → ∀ i : Nat, i < (usesL (ele l.body (s : Int))).length → KeptP y (ele (usesL (ele l.body (s : Int))) (i : Int)) (ele y.time (s : Int) + (ele (usesL (ele l.body (s : Int))) (i : Int)).bk * y.pace)) ∧ ∀ i : Nat, i < l.outs.length → ToldP y (ele l.outs (i : Int))
theorem keep_iff {l : Lp} {t : Tgt} {k : Krn} {order : List Int} (h : LayP l t k order) : KeepAll l (layK l t k order) ↔ ∀ a m : Nat, a < l.body.length → m < l.body.length → ApartP (layK l t k order) a m := by
  have hy := layK_ok h
  constructor
  · rintro ⟨h1, h2⟩ a m ha hm j hj hz hb
    have hn := bad_near hy ha hm hb
    rcases hb with ⟨s, r, q1, q2, q3, q4⟩ | ⟨q1, q2, q3⟩
    · obtain ⟨i, hi, he⟩ := mem_ele q2
      have hk := h1 s q1 i hi m hm (j + 4100).toNat (by omega)
      rw [show (-4100 : Int) + ((j + 4100).toNat : Int) = j from by omega, show ele (usesL (ele l.body (s : Int))) (i : Int) = r from he] at hk
      refine hk ?_ ?_ ?_
      · unfold NearP; rw [q3]; exact q4
      · rw [q3]; exact fun hh => hj.elim (fun h => h hh.1) (fun h => h hh.2)
      · rw [q3]; exact hz
    · obtain ⟨i, hi, he⟩ := mem_ele q3
      have ht := h2 i hi
      rw [show ele l.outs (i : Int) = (a : Int) from he] at ht
      obtain ⟨z, hz'⟩ := Int.eq_ofNat_of_zero_le (show 0 ≤ -j by omega)
      have ht2 := ht m hm z (by
        have e : j * (layK l t k order).pace = -((z : Int) * (layK l t k order).pace) := by rw [← Int.neg_mul]; congr 1; omega
        omega)
      rw [show -(z : Int) = j from by omega] at ht2
      exact ht2 hj hz
  · intro h1
    refine ⟨fun s hs i hi m hm z hz hn hne hzz => ?_, fun i hi m hm z hz hne hzz => ?_⟩
    · have hu := layK_us h s hs _ (ele_mem' hi)
      obtain ⟨a, ha⟩ := Int.eq_ofNat_of_zero_le hu.1
      have ha' : a < l.body.length := by have := hu.2.1; omega
      rw [ha] at hzz
      refine h1 a m ha' hm (-4100 + (z : Int)) ?_ hzz (.inl ⟨s, _, hs, ele_mem' hi, ha, ?_⟩)
      · rw [ha] at hne
        by_cases c : (m : Int) = a
        · exact .inr fun h => hne ⟨c, h⟩
        · exact .inl c
      · unfold NearP at hn; rw [ha] at hn; exact hn
    · have ho := h.loop.out i hi
      rw [show l.outs.getD i 0 = ele l.outs (i : Int) from rfl] at ho
      obtain ⟨a, ha⟩ := Int.eq_ofNat_of_zero_le ho.1
      rw [ha] at hz hne hzz
      refine h1 a m (by omega) hm (-(z : Int)) hne hzz (.inr ⟨by omega, ?_, ?_⟩)
      · rw [Int.neg_mul]; omega
      · rw [← ha]; exact ele_mem' hi
theorem natL_take {n i : Nat} (h : i ≤ n) : (natL n).take i = natL i := by
  unfold natL
  rw [← List.map_take, List.take_range, Nat.min_eq_left h]
theorem natL_ele {n i : Nat} (h : i < n) : ele (natL n) (i : Int) = i := ele_rm h
theorem firsts_iff {y : LayD} (n : Nat) : FirstsP y (natL n) ↔ ∀ s, s < n → ∀ q, q < (farV y.body s).toNat → regF y s q ∉ fregs y (natL s) ++ frA y s q := by
  have h := nodup_take (y := y) (L := natL n) n (by rw [natL_len]; exact Nat.le_refl _)
  rw [natL_take (Nat.le_refl _)] at h
  unfold FirstsP
  rw [h]
  constructor
  · intro h1 s hs
    have := h1 s hs
    rw [natL_ele hs, natL_take (by omega)] at this
    exact this
  · intro h1 s hs
    rw [natL_ele hs, natL_take (by omega)]
    exact h1 s hs
theorem fregs_natL {y : LayD} {s : Nat} : fregs y (natL (s + 1)) = fregs y (natL s) ++ frA y s (farV y.body s).toNat := by
  have h := fregs_take (y := y) (L := natL (s + 1)) (i := s) (by rw [natL_len]; omega)
  rw [natL_take (Nat.le_refl _), natL_take (by omega), natL_ele (by omega)] at h
  exact h
section
variable {l : Lp} {t : Tgt} {k : Krn} {order : List Int}
theorem fregs_len {y : LayD} (hy : y.Ok) : ∀ s : Nat, (fregs y (natL s)).length ≤ 3 * s
  | 0 => by simp [natL, fregs]
  | s + 1 => by
    rw [fregs_natL, List.length_append]
    have := fregs_len hy s
    have hf := far_bd hy (s : Int)
    have : (frA y s (farV y.body s).toNat).length = (farV y.body s).toNat := by unfold frA; simp
    omega
theorem uses_loop (h : LayP l t k order) {s : Nat} (hs : s < l.body.length) :
    ((∀ i, i < (usesL (ele l.body (s : Int))).length → NameP l t k order s i ∧ KeptP (layK l t k order) (ele (usesL (ele l.body (s : Int))) (i : Int)) (ele (layK l t k order).time (s : Int) + (ele (usesL (ele l.body (s : Int))) (i : Int)).bk * k.pace)) ∧ lp (roundelayref10_Takes_L4 t k order (offsK l t k order, true) s (usesL (ele l.body (s : Int)))) 0 = some (.go ((usesL (ele l.body (s : Int))).length : Int))) ∨
    (¬ (∀ i, i < (usesL (ele l.body (s : Int))).length → NameP l t k order s i ∧ KeptP (layK l t k order) (ele (usesL (ele l.body (s : Int))) (i : Int)) (ele (layK l t k order).time (s : Int) + (ele (usesL (ele l.body (s : Int))) (i : Int)).bk * k.pace)) ∧ lp (roundelayref10_Takes_L4 t k order (offsK l t k order, true) s (usesL (ele l.body (s : Int)))) 0 = some (.ret false)) := by
  have hy := layK_ok h
  have hlen := usesL_len (ele l.body (s : Int))
  have hR := hy.regs
  have hp := h.may.pace
  have ho := opr_bd h.may (LayP.opr h.may h.n (h.ord s hs).1)
  have hts := hy.tm s hs
  obtain ⟨s1, s2, s3⟩ := offs_at (t := t) (k := k) (order := order) hs
  rcases lp_det2 (f := roundelayref10_Takes_L4 t k order (offsK l t k order, true) s (usesL (ele l.body (s : Int)))) (ρ := Bool) (fun i => (i : Int)) (usesL (ele l.body (s : Int))).length (fun i => NameP l t k order s i ∧ KeptP (layK l t k order) (ele (usesL (ele l.body (s : Int))) (i : Int)) (ele (layK l t k order).time (s : Int) + (ele (usesL (ele l.body (s : Int))) (i : Int)).bk * k.pace)) (fun _ => false) (fun i hi _ => by
      have hu := layK_us h s hs _ (ele_mem' hi)
      obtain ⟨a, ha⟩ := Int.eq_ofNat_of_zero_le hu.1
      have hb' : (layK l t k order).body.length = l.body.length := rfl
      have ha' : a < l.body.length := by have := hu.2.1; omega
      have pa := hy.pl a ha'
      obtain ⟨a1, a2, a3⟩ := offs_at (t := t) (k := k) (order := order) ha'
      have m1 := mul_le (a := (ele (usesL (ele l.body (s : Int))) (i : Int)).bk) (A := 3) (b := k.pace) (B := 200) (by omega) hu.2.2.2 (by omega) (by omega)
      have hbk : 0 ≤ (ele (usesL (ele l.body (s : Int))) (i : Int)).bk ∧ (ele (usesL (ele l.body (s : Int))) (i : Int)).bk ≤ 3 := hu.2.2
      have hst : (ele (usesL (ele l.body (s : Int))) (i : Int)).st = (a : Int) := ha
      unfold roundelayref10_Takes_L4
      simp only
      have hname : (br ((i : Int) == 1) (some (Out.go (ele k.ops (ele order (s : Int))).b)) (some (Out.go (ele k.ops (ele order (s : Int))).a)) : Option (Out Int Empty)) = some (.go (nameO (oprAt k order s) i)) := by
        unfold nameO
        by_cases c : i = 1
        · subst c; rfl
        · rw [show ((i : Int) == 1) = false from by simp; omega, if_neg c]; rfl
      rw [br_T (by unfold ln; omega), hname, bd_ret, Out.on_go, ck_IX (by omega) (by unfold ln; omega), hst, ck_IX (by omega) (by rw [offs_ln]; omega), ck_IX (by omega) (by unfold ln; omega), a3, ck_IR (by omega) (by omega)]
      rw [show (ele k.ops (ele order (s : Int))).stage = (oprAt k order s).stage from rfl, ck_IR (by omega) (by omega), Rest_s _ _ (by show 0 < (layK l t k order).regs; omega) (by show (layK l t k order).regs ≤ _; omega), bd_ret, ck_imp (fun _ => ⟨by omega, by unfold ln; omega⟩), ck_imp (fun _ => ⟨by omega, by rw [offs_ln]; omega⟩), ck_imp (fun _ => ⟨by omega, by unfold ln; omega⟩), ck_imp (fun _ => ⟨by omega, by omega⟩), s1, ck_imp (fun _ => ⟨by omega, by omega⟩), kept_s h ⟨hu.1, by have := hu.2.1; omega⟩, bdG_some']
      have hnp : (nameO (oprAt k order s) i != (ele (layK l t k order).places (a : Int) - (ele (usesL (ele l.body (s : Int))) (i : Int)).bk - (oprAt k order s).stage) % t.regs) = !tb (NameP l t k order s i) := by
        unfold NameP
        rw [hst, neB]
      rw [hnp]
      by_cases c1 : NameP l t k order s i
      · by_cases c2 : KeptP (layK l t k order) (ele (usesL (ele l.body (s : Int))) (i : Int)) (ele (layK l t k order).time (s : Int) + (ele (usesL (ele l.body (s : Int))) (i : Int)).bk * k.pace)
        · rw [tb_t c1, tb_t c2, show ((!true) || (!(if (!(!true)) = true then true else false))) = false from rfl, br_false, ck_IR (by omega) (by omega)]
          exact ⟨fun _ => rfl, fun h => absurd ⟨c1, c2⟩ h⟩
        · rw [tb_t c1, tb_f c2]
          exact ⟨fun h => absurd h.2 c2, fun _ => rfl⟩
      · rw [tb_f c1]
        exact ⟨fun h => absurd h.1 c1, fun _ => rfl⟩) (by unfold roundelayref10_Takes_L4; exact br_F (by unfold ln; omega)) with ⟨q1, e⟩ | ⟨i, q1, q2, _, e⟩
  · exact .inl ⟨q1, e⟩
  · exact .inr ⟨fun h => q2 (h i q1), e⟩
theorem first_loop (h : LayP l t k order) {s : Nat} (hs : s < l.body.length) :
    ((∀ q, q < (farV l.body s).toNat → regF (layK l t k order) s q ∉ fregs (layK l t k order) (natL s) ++ frA (layK l t k order) s q) ∧ lp (roundelayref10_Takes_L6 l t (offsK l t k order, true) s) (fregs (layK l t k order) (natL s), 1) = some (.go (fregs (layK l t k order) (natL (s + 1)), (((farV l.body s).toNat : Nat) : Int) + 1))) ∨
    (¬ (∀ q, q < (farV l.body s).toNat → regF (layK l t k order) s q ∉ fregs (layK l t k order) (natL s) ++ frA (layK l t k order) s q) ∧ lp (roundelayref10_Takes_L6 l t (offsK l t k order, true) s) (fregs (layK l t k order) (natL s), 1) = some (.ret false)) := by
  have hy := layK_ok h
  have hR := hy.regs
  have hf : 0 ≤ farV l.body s ∧ farV l.body s ≤ 3 := far_bd hy (s : Int)
  have hn := h.loop.2.2.1
  have hfl := fregs_len hy s
  have ps := hy.pl s hs
  obtain ⟨s1, s2, s3⟩ := offs_at (t := t) (k := k) (order := order) hs
  have hfar : roundelayref10_Far_m l (s : Int) = some (farV l.body s) := rfar_s hn hy.bk s
  rw [fregs_natL]
  rcases lp_det2 (f := roundelayref10_Takes_L6 l t (offsK l t k order, true) s) (ρ := Bool) (fun q => (fregs (layK l t k order) (natL s) ++ frA (layK l t k order) s q, (q : Int) + 1)) (farV l.body s).toNat (fun q => regF (layK l t k order) s q ∉ fregs (layK l t k order) (natL s) ++ frA (layK l t k order) s q) (fun _ => false) (fun q hq _ => by
      have hlen : (fregs (layK l t k order) (natL s) ++ frA (layK l t k order) s q).length ≤ 3 * s + q := by rw [List.length_append]; unfold frA; simp; omega
      have hreg : (ele (layK l t k order).places (s : Int) - ((q : Int) + 1)) % t.regs = regF (layK l t k order) s q := by
        unfold regF
        rw [show ele (layK l t k order).places (s : Int) - (q : Int) - 1 = ele (layK l t k order).places (s : Int) - ((q : Int) + 1) from by omega]
        rfl
      unfold roundelayref10_Takes_L6
      simp only
      rw [hfar, bd_ret, br_T (by omega), ck_IX (by omega) (by rw [offs_ln]; omega), s3, ck_IR (by omega) (by omega), Rest_s _ _ (by show 0 < (layK l t k order).regs; omega) (by show (layK l t k order).regs ≤ _; omega), bd_ret, hreg]
      obtain ⟨F, hF⟩ : ∃ F, F = fregs (layK l t k order) (natL s) ++ frA (layK l t k order) s q := ⟨_, rfl⟩
      rw [← hF] at hlen ⊢
      rcases lp_det2 (f := roundelayref10_Takes_L8 F (regF (layK l t k order) s q)) (ρ := Bool) (fun i => (i : Int)) F.length (fun i => ele F (i : Int) ≠ regF (layK l t k order) s q) (fun _ => false) (fun i hi _ => by
          unfold roundelayref10_Takes_L8
          rw [br_T (by unfold ln; omega), ck_IX (by omega) (by unfold ln; omega)]
          exact ⟨fun h => by rw [show (ele F (i : Int) == regF (layK l t k order) s q) = false from by simp [h], br_false, ck_IR (by omega) (by omega)]; rfl, fun h => by rw [show (ele F (i : Int) == regF (layK l t k order) s q) = true from by simpa using h, br_true]⟩) (by unfold roundelayref10_Takes_L8; exact br_F (by unfold ln; omega)) with ⟨w1, e⟩ | ⟨i, w1, w2, _, e⟩
      · rw [show lp (roundelayref10_Takes_L8 F (regF (layK l t k order) s q)) 0 = _ from e, bd_ret, Out.on_go, ck_yes (AL8 (by simp; omega)), ck_IR (by omega) (by omega)]
        exact ⟨fun _ => by rw [frA_succ, ← List.append_assoc, ← hF]; rfl, fun hh => absurd (fun hm => by
          obtain ⟨i, hi, he⟩ := mem_ele hm
          exact w1 i hi he) hh⟩
      · rw [show lp (roundelayref10_Takes_L8 F (regF (layK l t k order) s q)) 0 = _ from e, bd_ret, Out.on_ret]
        exact ⟨fun hh => absurd (by rw [← Classical.not_not.1 w2]; exact ele_mem' w1) hh, fun _ => rfl⟩) (by
      unfold roundelayref10_Takes_L6
      simp only
      rw [hfar, bd_ret]
      exact br_F (by omega)) with ⟨q1, e⟩ | ⟨q, q1, q2, _, e⟩
  · refine .inl ⟨q1, ?_⟩
    rw [show frA (layK l t k order) s 0 = [] from rfl, List.append_nil] at e
    exact e
  · refine .inr ⟨fun h => q2 (h q q1), ?_⟩
    rw [show frA (layK l t k order) s 0 = [] from rfl, List.append_nil] at e
    exact e
end
end Go.Rd
end

section
namespace Go.Rd
set_option linter.unusedVariables false
theorem Takes_s {l : Lp} (hf : l.Fine) {t : Tgt} {k : Krn} {order : List Int} (hk : KFine l k) (ho : order.length ≤ 9223372036854775807) : roundelayref10_Takes_m l t k order = some (tb (TakesP l t k order)) := by
  unfold roundelayref10_Takes_m
  rw [Layout_s hf hk ho, bd_ret]
  by_cases h : LayP l t k order
  · rw [tb_t h, if_pos rfl]
    obtain ⟨E, e1, e2, e3, e4, e5⟩ := edges_both h.loop hf h.tgt
    have hy := layK_ok h
    have hp := h.may.pace
    have hn := h.loop.2.2.1
    rw [show (!((offsK l t k order, true) : List Off × Bool).2) = false from rfl, br_false, e2, bd_ret, show ((List.range l.body.length).map (offK t k order), true) = (offsK l t k order, true) from rfl]
    rcases lp_all (f := roundelayref10_Takes_L0 k (offsK l t k order, true) E) (n := E.length) (p := fun i => TEdgeP (layK l t k order) (ele E (i : Int))) (fun i hi _ => by
        have hin := ((e4 _).1 (ele_mem' hi)).in h.loop
        obtain ⟨a, ha⟩ := Int.eq_ofNat_of_zero_le hin.to.1
        obtain ⟨b, hb⟩ := Int.eq_ofNat_of_zero_le hin.fr.1
        have ha' : a < l.body.length := by have := hin.to.2; omega
        have hb' : b < l.body.length := by have := hin.fr.2; omega
        have ta := hy.tm a ha'; have tb_ := hy.tm b hb'
        have hbk := hin.bk; have hwt := hin.wt
        have m1 := mul_le (a := (ele E (i : Int)).bk) (A := 32) (b := k.pace) (B := 200) (by omega) (by omega) (by omega) (by omega)
        obtain ⟨a1, _, _⟩ := offs_at (t := t) (k := k) (order := order) ha'
        obtain ⟨b1, _, _⟩ := offs_at (t := t) (k := k) (order := order) hb'
        have e : roundelayref10_Takes_L0 k (offsK l t k order, true) E i = br (!tb (TEdgeP (layK l t k order) (ele E (i : Int)))) (some (.ret false)) (some (.next ((i : Int) + 1))) := by
          unfold roundelayref10_Takes_L0
          simp only
          rw [br_T (by unfold ln; omega), ck_IX (by omega) (by unfold ln; omega), ha, hb, ck_IX (by omega) (by rw [offs_ln]; omega), ck_IR (by omega) (by omega), a1, b1, ck_IR (by omega) (by omega), ck_IX (by omega) (by rw [offs_ln]; omega), ck_IR (by omega) (by omega), ck_IR (by omega) (by omega)]
          congr 1
          have : (!decide (ele (layK l t k order).time (a : Int) + (ele E (i : Int)).bk * k.pace < ele (layK l t k order).time (b : Int) + (ele E (i : Int)).wt)) = tb (TEdgeP (layK l t k order) (ele E (i : Int))) := tb_eq (by
            unfold TEdgeP
            rw [ha, hb, show (layK l t k order).pace = k.pace from rfl]
            simp)
          rw [← this, Bool.not_not]
        rw [e]
        exact ⟨fun h => by rw [tb_t h]; rfl, fun h => by rw [tb_f h]; rfl⟩) (by unfold roundelayref10_Takes_L0; exact br_F (by unfold ln; omega)) with ⟨q1, w1⟩ | ⟨q1, w1⟩
    · rw [w1, bd_ret, Out.on_go]
      have X := lp_det2 (f := roundelayref10_Takes_L2 l t k order (offsK l t k order, true)) (ρ := Bool) (fun s => (fregs (layK l t k order) (natL s), (s : Int))) l.body.length (fun s => (∀ i, i < (usesL (ele l.body (s : Int))).length → NameP l t k order s i ∧ KeptP (layK l t k order) (ele (usesL (ele l.body (s : Int))) (i : Int)) (ele (layK l t k order).time (s : Int) + (ele (usesL (ele l.body (s : Int))) (i : Int)).bk * k.pace)) ∧ (∀ q, q < (farV l.body s).toNat → regF (layK l t k order) s q ∉ fregs (layK l t k order) (natL s) ++ frA (layK l t k order) s q)) (fun _ => false) (fun s hs _ => by
        have hor := h.ord s hs
        have hno := h.no; have hnn := h.n
        unfold roundelayref10_Takes_L2
        simp only
        rw [br_T (by rw [offs_ln]; omega), ck_IX (by omega) (by unfold ln; omega), ck_IX hor.1.1 (by unfold ln; rw [hnn]; exact hor.1.2), ck_IX (by omega) (by unfold ln; omega), ref_Uses_s, bd_ret]
        rcases uses_loop h hs with ⟨u1, u2⟩ | ⟨u1, u2⟩
        · rw [u2, bd_ret, Out.on_go]
          rcases first_loop h hs with ⟨f1, f2⟩ | ⟨f1, f2⟩
          · rw [f2, bd_ret, Out.on_go]
            simp only
            rw [ck_IR (by omega) (by omega)]
            exact ⟨fun _ => rfl, fun hh => absurd ⟨u1, f1⟩ hh⟩
          · rw [f2, bd_ret, Out.on_ret]
            exact ⟨fun hh => absurd hh.2 f1, fun _ => rfl⟩
        · rw [u2, bd_ret, Out.on_ret]
          exact ⟨fun hh => absurd hh.1 u1, fun _ => rfl⟩) (by unfold roundelayref10_Takes_L2; exact br_F (by rw [offs_ln]; omega))
      rcases X with ⟨q2, w2⟩ | ⟨s, q2, q3, _, w2⟩
      · rw [show lp (roundelayref10_Takes_L2 l t k order (offsK l t k order, true)) ([], 0) = _ from w2, bd_ret, Out.on_go]
        simp only
        have hout := outs_len h.loop
        rcases lp_all (f := roundelayref10_Takes_L10 l t k (offsK l t k order, true)) (n := l.outs.length) (p := fun i => ToldP (layK l t k order) (ele l.outs (i : Int))) (fun i hi _ => by
            have ho := h.loop.out i hi
            rw [show l.outs.getD i 0 = ele l.outs (i : Int) from rfl] at ho
            obtain ⟨a, ha⟩ := Int.eq_ofNat_of_zero_le ho.1
            unfold roundelayref10_Takes_L10
            rw [br_T (by unfold ln; omega), ck_IX (by omega) (by unfold ln; omega), ha, told_s h (show a < l.body.length by omega), bd_ret]
            exact ⟨fun hh => by rw [tb_t hh, Bool.not_true, br_false, ck_IR (by omega) (by omega)], fun hh => by rw [tb_f hh]; rfl⟩) (by unfold roundelayref10_Takes_L10; exact br_F (by unfold ln; omega)) with ⟨q4, w3⟩ | ⟨q4, w3⟩
        · rw [w3, bd_ret, Out.on_go, tb_t (p := TakesP l t k order)]
          exact ⟨h, (all_edges e4).1 q1, fun s hs i hi => ((q2 s hs).1 i hi).1, (keep_iff h).1 ⟨fun s hs i hi => ((q2 s hs).1 i hi).2, q4⟩, (firsts_iff _).2 fun s hs => (q2 s hs).2⟩
        · rw [w3, bd_ret, Out.on_ret, tb_f fun hh : TakesP l t k order => q4 ((keep_iff h).2 hh.apart).2]
      · rw [show lp (roundelayref10_Takes_L2 l t k order (offsK l t k order, true)) ([], 0) = _ from w2, bd_ret, Out.on_ret, tb_f]
        exact fun hh : TakesP l t k order => q3 ⟨fun i hi => ⟨hh.name s q2 i hi, ((keep_iff h).2 hh.apart).1 s q2 i hi⟩, (firsts_iff _).1 hh.firsts s q2⟩
    · rw [w1, bd_ret, Out.on_ret, tb_f fun hh : TakesP l t k order => q1 ((all_edges e4).2 hh.edge)]
  · rw [tb_f h, tb_f fun hh : TakesP l t k order => h hh.lay]
    rfl
end Go.Rd
end

section
namespace Go.Rd
set_option linter.unusedVariables false
noncomputable def check_layout_L0 (l : Lp) (t : Tgt) (k_ : Krn) (order : List Int) : ((List Int) × (List Int) × (List Int) × (List (Int × Bool)) × Int) → Option (Stp ((List Int) × (List Int) × (List Int) × (List (Int × Bool)) × Int) (Option LayT × Bool)) := fun (v17_1, v16_1, v15_1, m14n_1, x54_1) =>
 br (decide (x54_1 < (ln order))) (
 ck (IX x54_1 (ln order)) <|
 br (((decide ((ele order x54_1) < 0)) || (decide ((ele order x54_1) ≥ (ln k_.ops)))) || (mget m14n_1 (ele order x54_1) false)) (
 some (.ret (none, false))) (
 ck (IX (ele order x54_1) (ln k_.ops)) <|
 ck (IX x54_1 (ln l.body)) <|
 bd (kernel_Stmt_m (ele k_.ops (ele order x54_1))) fun x42 =>
 br (!([x42.op, x42.a.st, x42.a.bk, x42.b.st, x42.b.bk, x42.ar, x42.sp, x42.pl, x42.n] == [(ele l.body x54_1).op, 0, 0, 0, 0, (ele l.body x54_1).ar, (ele l.body x54_1).sp, (ele l.body x54_1).pl, (ele l.body x54_1).n])) (
 some (.ret (none, false))) (
 bd (kernel_Time_m k_ (ele k_.ops (ele order x54_1))) fun x48 =>
 ck (AL (v15_1 ++ [x48]).length 8) <|
 bd (kernel_Time_m k_ (ele k_.ops (ele order x54_1))) fun x56 =>
 bd (target_Wait_m t ((ele k_.ops (ele order x54_1)).op)) fun x59 =>
 ck (IR (x56 + x59)) <|
 ck (AL (v16_1 ++ [(x56 + x59)]).length 8) <|
 ck (IR ((ele k_.ops (ele order x54_1)).dest + (ele k_.ops (ele order x54_1)).stage)) <|
 ck (AL (v17_1 ++ [((ele k_.ops (ele order x54_1)).dest + (ele k_.ops (ele order x54_1)).stage)]).length 8) <|
 ck (IR (x54_1 + 1)) <|
 some (.next ((v17_1 ++ [((ele k_.ops (ele order x54_1)).dest + (ele k_.ops (ele order x54_1)).stage)]), (v16_1 ++ [(x56 + x59)]), (v15_1 ++ [x48]), (mput m14n_1 (ele order x54_1) true), (x54_1 + 1)))))) (
 some (.brk (v17_1, v16_1, v15_1, m14n_1, x54_1)))
noncomputable def check_layout_m (l : Lp) (t : Tgt) (k_ : Krn) (order : List Int) : Option (Option LayT × Bool) :=
 bd (loop_May_m l) fun x4 =>
 bdG (!(!x4)) (kernel_May_m t k_ l.logs) fun x7 =>
 br ((((!x4) || (!x7)) || ((ln k_.ops) != (ln l.body))) || ((ln order) != (ln l.body))) (
 some (none, false)) (
 bd (lp (check_layout_L0 l t k_ order) ([], [], [], ([] : List (Int × Bool)), 0)) fun o18 => o18.on (fun (v17_1, v16_1, v15_1, m14n_1, x54_1) =>
 some ((some (l.logs, l.body, l.outs, k_.pace, t.regs, v15_1, v16_1, v17_1)), true)) (fun r => some r))

noncomputable def check_named_L2 (t : Tgt) (k_ : Krn) (order : List Int) (y_Places : List Int) (x19_3 : Int) (x25 : List Rf) : Int → Option (Stp (Int) (Bool)) := fun x35_4 =>
 br (decide (x35_4 < (ln x25))) (
 ck (IX x35_4 (ln x25)) <|
 ck (IX x35_4 2) <|
 ck (IX ((ele x25 x35_4).st) (ln y_Places)) <|
 ck (IR ((ele y_Places ((ele x25 x35_4).st)) - (ele x25 x35_4).bk)) <|
 ck (IR (((ele y_Places ((ele x25 x35_4).st)) - (ele x25 x35_4).bk) - (ele k_.ops (ele order x19_3)).stage)) <|
 bd (emit_Rest_m (((ele y_Places ((ele x25 x35_4).st)) - (ele x25 x35_4).bk) - (ele k_.ops (ele order x19_3)).stage) t.regs) fun x51 =>
 br ((ele ([(ele k_.ops (ele order x19_3)).a, (ele k_.ops (ele order x19_3)).b] : List Int) x35_4) != x51) (
 some (.ret false)) (
 ck (IR (x35_4 + 1)) <|
 some (.next (x35_4 + 1)))) (
 some (.brk x35_4))
noncomputable def check_named_L0 (l : Lp) (t : Tgt) (k_ : Krn) (order : List Int) (y_Places : List Int) : Int → Option (Stp (Int) (Bool)) := fun x19_3 =>
 br (decide (x19_3 < (ln l.body))) (
 ck (IX x19_3 (ln l.body)) <|
 ck (IX x19_3 (ln order)) <|
 ck (IX (ele order x19_3) (ln k_.ops)) <|
 bd (loop_Uses_m (ele l.body x19_3)) fun x25 =>
 bd (lp (check_named_L2 t k_ order y_Places x19_3 x25) 0) fun o29 => o29.on (fun x35_4 =>
 ck (IR (x19_3 + 1)) <|
 some (.next (x19_3 + 1))) (fun r => some (.ret r))) (
 some (.brk x19_3))
noncomputable def check_named_m (l : Lp) (t : Tgt) (k_ : Krn) (order : List Int) (y_Pace : Int) (y_Regs : Int) (y_Places : List Int) : Option (Bool) :=
 bd (lp (check_named_L0 l t k_ order y_Places) 0) fun o4 => o4.on (fun x19_3 =>
 some true) (fun r => some r)

noncomputable def check_takes_L0 (k_ : Krn) (y9 : LayT) (x25 : List Edg × Int) : Int → Option (Stp (Int) (Option LayT × Bool)) := fun x46_1 =>
 br (decide (x46_1 < (ln x25.1))) (
 ck (IX x46_1 (ln x25.1)) <|
 ck (IX ((ele x25.1 x46_1).to) (ln y9.2.2.2.2.2.1)) <|
 ck (IR ((ele x25.1 x46_1).bk * k_.pace)) <|
 ck (IR ((ele y9.2.2.2.2.2.1 ((ele x25.1 x46_1).to)) + ((ele x25.1 x46_1).bk * k_.pace))) <|
 ck (IX ((ele x25.1 x46_1).fr) (ln y9.2.2.2.2.2.1)) <|
 ck (IR ((ele y9.2.2.2.2.2.1 ((ele x25.1 x46_1).fr)) + (ele x25.1 x46_1).wt)) <|
 br (decide (((ele y9.2.2.2.2.2.1 ((ele x25.1 x46_1).to)) + ((ele x25.1 x46_1).bk * k_.pace)) < ((ele y9.2.2.2.2.2.1 ((ele x25.1 x46_1).fr)) + (ele x25.1 x46_1).wt))) (
 some (.ret (none, false))) (
 ck (IR (x46_1 + 1)) <|
 some (.next (x46_1 + 1)))) (
 some (.brk x46_1))
noncomputable def check_takes_L4 (l : Lp) (y9 : LayT) (x80_5 : Int) : Int → Option (Stp (Int) (Option LayT × Bool)) := fun x90_6 =>
 br (decide (x90_6 < (ln l.body))) (
 bd (keep_Layout_Apart_m y9.2.1 y9.2.2.1 y9.2.2.2.1 y9.2.2.2.2.1 y9.2.2.2.2.2.1 y9.2.2.2.2.2.2.1 y9.2.2.2.2.2.2.2 x80_5 x90_6) fun x54 =>
 br (!x54) (
 some (.ret (none, false))) (
 ck (IR (x90_6 + 1)) <|
 some (.next (x90_6 + 1)))) (
 some (.brk x90_6))
noncomputable def check_takes_L2 (l : Lp) (y9 : LayT) : ((List Int) × Int) → Option (Stp ((List Int) × Int) (Option LayT × Bool)) := fun (v34_5, x80_5) =>
 br (decide (x80_5 < (ln l.body))) (
 ck (AL (v34_5 ++ [x80_5]).length 8) <|
 bd (lp (check_takes_L4 l y9 x80_5) 0) fun o47 => o47.on (fun x90_6 =>
 ck (IR (x80_5 + 1)) <|
 some (.next ((v34_5 ++ [x80_5]), (x80_5 + 1)))) (fun r => some (.ret r))) (
 some (.brk (v34_5, x80_5)))
noncomputable def check_takes_m (l : Lp) (t : Tgt) (k_ : Krn) (order : List Int) : Option (Option LayT × Bool) :=
 bd (check_layout_m l t k_ order) fun x4 =>
 optC x4.1 (
 ck (x4.2 = false) <|
 ck ((!(!false)) = true → False) <|
 some (none, false)) fun y9 =>
 bdG (!(!x4.2)) (check_named_m l t k_ order y9.2.2.2.1 y9.2.2.2.2.1 y9.2.2.2.2.2.2.2) fun x19 =>
 br ((!x4.2) || (!x19)) (
 some (none, false)) (
 bd (dep_Edges_m l t) fun x25 =>
 bd (lp (check_takes_L0 k_ y9 x25) 0) fun o29 => o29.on (fun x46_1 =>
 bd (lp (check_takes_L2 l y9) ([], 0)) fun o35 => o35.on (fun (v34_5, x80_5) =>
 bd (keep_Layout_Firsts_m y9.1 y9.2.1 y9.2.2.1 y9.2.2.2.1 y9.2.2.2.2.1 y9.2.2.2.2.2.2.2 v34_5) fun x40 =>
 some ((some (y9.1, y9.2.1, y9.2.2.1, y9.2.2.2.1, y9.2.2.2.2.1, y9.2.2.2.2.2.1, y9.2.2.2.2.2.2.1, y9.2.2.2.2.2.2.2)), x40)) (fun r => some r)) (fun r => some r))

noncomputable def check_Takes_m (l : Lp) (t : Tgt) (k_ : Krn) (order : List Int) : Option (Bool) :=
 bd (check_takes_m l t k_ order) fun x4 =>
 optC x4.1 (
 ck (x4.2 = false) <|
 some false) fun y9 =>
 some x4.2
end Go.Rd
end

section
namespace Go.Rd
set_option linter.unusedVariables false
def layT (y : LayD) : LayT := (y.logs, y.body, y.outs, y.pace, y.regs, y.time, y.ready, y.places)
theorem timeK_s {t : Tgt} {k : Krn} {o : Opr} {logs : List Int} (hm : KMayP t k logs) (h : OneP t k o logs) : kernel_Time_m k o = some (timeK k o) := by
  have hb := opr_bd hm h
  unfold timeK at *
  have e := Int.mul_comm o.stage k.pace
  have hs := h.1
  unfold SlotP at hs
  unfold kernel_Time_m
  rw [ck_IR (by omega) (by omega), ck_IR (by omega) (by omega)]
  congr 1
  omega
theorem pLayout_s {l : Lp} (hf : l.Fine) {t : Tgt} {k : Krn} {order : List Int} (hk : KFine l k) (ho : order.length ≤ 9223372036854775807) : check_layout_m l t k order = some (if tb (LayP l t k order) = true then (some (layT (layK l t k order)), true) else (none, false)) := by
  unfold check_layout_m
  rw [May_s l hf, bd_ret, pMay_s hk, bdG_some']
  by_cases h : LoopOk l ∧ KMayP t k l.logs ∧ k.ops.length = l.body.length ∧ order.length = l.body.length
  · obtain ⟨h1, h2, h3, h4⟩ := h
    have hn := h1.2.2.1
    rw [tb_t h1, tb_t h2, show ((((!true) || (!(if (!(!true)) = true then true else false))) || ((ln k.ops) != (ln l.body))) || ((ln order) != (ln l.body))) = false from by unfold ln; simp [h3, h4], br_false]
    have key : ∀ d s : Nat, s + d = l.body.length → (∀ j, j < s → OrdP l k order j) → ∀ m : List (Int × Bool), (∀ v, mget m v false = true ↔ ∃ j, j < s ∧ ele order (j : Int) = v) →
        ((∀ j, j < l.body.length → OrdP l k order j) ∧ ∃ m', lp (check_layout_L0 l t k order) ((List.range s).map (fun i => (offK t k order i).place), (List.range s).map (fun i => (offK t k order i).ready), (List.range s).map (fun i => (offK t k order i).time), m, (s : Int)) =
          some (.go ((List.range l.body.length).map (fun i => (offK t k order i).place), (List.range l.body.length).map (fun i => (offK t k order i).ready), (List.range l.body.length).map (fun i => (offK t k order i).time), m', (l.body.length : Int)))) ∨
        (¬ (∀ j, j < l.body.length → OrdP l k order j) ∧ lp (check_layout_L0 l t k order) ((List.range s).map (fun i => (offK t k order i).place), (List.range s).map (fun i => (offK t k order i).ready), (List.range s).map (fun i => (offK t k order i).time), m, (s : Int)) = some (.ret (none, false))) := by
      intro d
      induction d with
      | zero =>
        intro s hs hp m hm
        have : s = l.body.length := by omega
        subst this
        exact .inl ⟨hp, m, lp_brk (by unfold check_layout_L0; exact br_F (by unfold ln; omega))⟩
      | succ d ih =>
        intro s hs hp m hm
        have hs' : s < l.body.length := by omega
        have hix : IX (s : Int) (ln order) := ⟨by omega, by unfold ln; omega⟩
        by_cases c1 : 0 ≤ ele order (s : Int) ∧ ele order (s : Int) < l.body.length
        · have hone := LayP.opr h2 h3 c1
          have hob := opr_bd h2 hone
          have hw := waitV_bd t (oprAt k order s).op
          have hixo : IX (ele order (s : Int)) (ln k.ops) := ⟨c1.1, by unfold ln; omega⟩
          by_cases c2 : ∀ i, i < s → ele order (i : Int) ≠ ele order (s : Int)
          · have hmf : mget m (ele order (s : Int)) false = false := by
              cases hh : mget m (ele order (s : Int)) false with
              | false => rfl
              | true =>
                obtain ⟨j, hj, he⟩ := (hm _).1 hh
                exact absurd he (c2 j hj)
            have hb : (!([(stmO (oprAt k order s)).op, (stmO (oprAt k order s)).a.st, (stmO (oprAt k order s)).a.bk, (stmO (oprAt k order s)).b.st, (stmO (oprAt k order s)).b.bk, (stmO (oprAt k order s)).ar, (stmO (oprAt k order s)).sp, (stmO (oprAt k order s)).pl, (stmO (oprAt k order s)).n] == [(ele l.body (s : Int)).op, 0, 0, 0, 0, (ele l.body (s : Int)).ar, (ele l.body (s : Int)).sp, (ele l.body (s : Int)).pl, (ele l.body (s : Int)).n])) = !tb (SameO (oprAt k order s) (ele l.body (s : Int))) := by
              congr 1
              exact tb_eq (by unfold SameO stmO; simp)
            have hstep : check_layout_L0 l t k order ((List.range s).map (fun i => (offK t k order i).place), (List.range s).map (fun i => (offK t k order i).ready), (List.range s).map (fun i => (offK t k order i).time), m, (s : Int)) = br (!tb (SameO (oprAt k order s) (ele l.body (s : Int)))) (some (.ret (none, false))) (some (.next ((List.range (s + 1)).map (fun i => (offK t k order i).place), (List.range (s + 1)).map (fun i => (offK t k order i).ready), (List.range (s + 1)).map (fun i => (offK t k order i).time), mput m (ele order (s : Int)) true, ((s + 1 : Nat) : Int)))) := by
              unfold check_layout_L0
              simp only
              rw [br_T (by unfold ln; omega), ck_yes hix, show ((decide (ele order (s : Int) < 0) || decide (ele order (s : Int) ≥ ln k.ops)) || mget m (ele order (s : Int)) false) = false from by rw [hmf]; unfold ln; simp; omega, br_false, ck_yes hixo, ck_IX (by omega) (by unfold ln; omega)]
              rw [show ele k.ops (ele order (s : Int)) = oprAt k order s from rfl, show kernel_Stmt_m (oprAt k order s) = some (stmO (oprAt k order s)) from rfl, bd_ret, hb, timeK_s h2 hone]
              simp only [bd_ret]
              rw [ck_yes (AL8 (by simp; omega)), target_Wait_s, bd_ret, ck_IR (by omega) (by omega), ck_yes (AL8 (by simp; omega)), ck_IR (by omega) (by omega), ck_yes (AL8 (by simp; omega)), ck_IR (by omega) (by omega)]
              rw [show timeK k (oprAt k order s) = (fun i => (offK t k order i).time) s from rfl, show (fun i => (offK t k order i).time) s + waitV t (oprAt k order s).op = (fun i => (offK t k order i).ready) s from rfl, show (oprAt k order s).dest + (oprAt k order s).stage = (fun i => (offK t k order i).place) s from rfl, rm_succ, rm_succ, rm_succ]
              rfl
            by_cases c3 : SameO (oprAt k order s) (ele l.body (s : Int))
            · rw [tb_t c3, Bool.not_true, br_false] at hstep
              have hp' : ∀ j, j < s + 1 → OrdP l k order j := fun j hj => by
                by_cases e : j = s
                · subst e; exact ⟨c1, c2, c3⟩
                · exact hp j (by omega)
              rcases ih (s + 1) (by omega) hp' (mput m (ele order (s : Int)) true) (fun v => by
                rw [mget_mput]
                by_cases e : ele order (s : Int) = v
                · rw [if_pos e]; exact ⟨fun _ => ⟨s, by omega, e⟩, fun _ => rfl⟩
                · rw [if_neg e, hm]
                  constructor
                  · rintro ⟨j, hj, he⟩; exact ⟨j, by omega, he⟩
                  · rintro ⟨j, hj, he⟩
                    by_cases e2 : j = s
                    · subst e2; exact absurd he e
                    · exact ⟨j, by omega, he⟩) with ⟨q1, m', q2⟩ | ⟨q1, q2⟩
              · exact .inl ⟨q1, m', lp_step hstep q2⟩
              · exact .inr ⟨q1, lp_step hstep q2⟩
            · rw [tb_f c3] at hstep
              exact .inr ⟨fun h => c3 (h s hs').2.2, lp_ret hstep⟩
          · have hmt : mget m (ele order (s : Int)) false = true := by
              refine (hm _).2 ?_
              refine Classical.byContradiction fun hh => c2 fun i hi he => hh ⟨i, hi, he⟩
            refine .inr ⟨fun h => c2 (h s hs').2.1, lp_ret ?_⟩
            unfold check_layout_L0
            simp only
            rw [br_T (by unfold ln; omega), ck_yes hix, hmt, Bool.or_true, br_true]
        · refine .inr ⟨fun h => c1 (h s hs').1, lp_ret ?_⟩
          unfold check_layout_L0
          simp only
          rw [br_T (by unfold ln; omega), ck_yes hix, show ((decide (ele order (s : Int) < 0) || decide (ele order (s : Int) ≥ ln k.ops)) || mget m (ele order (s : Int)) false) = true from by
            unfold ln
            rw [Bool.or_eq_true, Bool.or_eq_true, decide_eq_true_eq, decide_eq_true_eq]; omega, br_true]
    rcases key l.body.length 0 (by omega) (fun j hj => absurd hj (Nat.not_lt_zero _)) [] (fun v => ⟨fun h => (by cases h), fun ⟨j, hj, _⟩ => absurd hj (Nat.not_lt_zero _)⟩) with ⟨q1, m', e⟩ | ⟨q1, e⟩
    · rw [show lp (check_layout_L0 l t k order) ([], [], [], ([] : List (Int × Bool)), 0) = _ from e, bd_ret, Out.on_go, tb_t (p := LayP l t k order) ⟨h1, h2.tgt, h2, h3, h4, q1⟩]
      rfl
    · rw [show lp (check_layout_L0 l t k order) ([], [], [], ([] : List (Int × Bool)), 0) = _ from e, bd_ret, Out.on_ret, tb_f fun h : LayP l t k order => q1 h.ord]
      rfl
  · rw [tb_f fun hl : LayP l t k order => h ⟨hl.loop, hl.may, hl.n, hl.no⟩]
    by_cases h1 : LoopOk l
    · by_cases h2 : KMayP t k l.logs
      · rw [tb_t h1, tb_t h2, show ((((!true) || (!(if (!(!true)) = true then true else false))) || ((ln k.ops) != (ln l.body))) || ((ln order) != (ln l.body))) = true from by
          unfold ln
          by_cases h3 : k.ops.length = l.body.length
          · have h4 : ¬ order.length = l.body.length := fun h4 => h ⟨h1, h2, h3, h4⟩
            simp; omega
          · simp; omega, br_true]
        rfl
      · rw [tb_t h1, tb_f h2]; rfl
    · rw [tb_f h1]; rfl
section
variable {l : Lp} {t : Tgt} {k : Krn} {order : List Int}
def NamesAll (l : Lp) (t : Tgt) (k : Krn) (order : List Int) : Prop := ∀ s, s < l.body.length → ∀ i, i < (usesL (ele l.body (s : Int))).length → NameP l t k order s i
theorem named_s (h : LayP l t k order) : check_named_m l t k order (layK l t k order).pace (layK l t k order).regs (layK l t k order).places = some (tb (NamesAll l t k order)) := by
  have hy := layK_ok h
  have hn := h.loop.2.2.1
  have hR := hy.regs
  have hlp := hy.lp
  have hbl : (layK l t k order).body.length = l.body.length := rfl
  have hno := h.no; have hnn := h.n
  unfold check_named_m
  have X := lp_det2 (f := check_named_L0 l t k order (layK l t k order).places) (ρ := Bool) (fun s => (s : Int)) l.body.length (fun s => ∀ i, i < (usesL (ele l.body (s : Int))).length → NameP l t k order s i) (fun _ => false) (fun s hs _ => by
    have hor := h.ord s hs
    have ho := opr_bd h.may (LayP.opr h.may h.n hor.1)
    have hlen := usesL_len (ele l.body (s : Int))
    unfold check_named_L0
    rw [br_T (by unfold ln; omega), ck_IX (by omega) (by unfold ln; omega), ck_IX (by omega) (by unfold ln; omega), ck_IX hor.1.1 (by unfold ln; rw [hnn]; exact hor.1.2), Uses_s, bd_ret]
    rcases lp_det2 (f := check_named_L2 t k order (layK l t k order).places s (usesL (ele l.body (s : Int)))) (ρ := Bool) (fun i => (i : Int)) (usesL (ele l.body (s : Int))).length (fun i => NameP l t k order s i) (fun _ => false) (fun i hi _ => by
        have hu := layK_us h s hs _ (ele_mem' hi)
        obtain ⟨a, ha⟩ := Int.eq_ofNat_of_zero_le hu.1
        have ha' : a < l.body.length := by have := hu.2.1; omega
        have pa := hy.pl a ha'
        unfold check_named_L2
        rw [br_T (by unfold ln; omega), ck_IX (by omega) (by unfold ln; omega), ck_IX (by omega) (by omega), ha, ck_IX (by omega) (by unfold ln; omega), ck_IR (by omega) (by omega)]
        rw [show ele k.ops (ele order (s : Int)) = oprAt k order s from rfl, ck_IR (by omega) (by omega), eRest_s (by show 1 ≤ (layK l t k order).regs; omega) (by show (layK l t k order).regs ≤ 128; omega), bd_ret]
        have hname : ele ([(oprAt k order s).a, (oprAt k order s).b] : List Int) (i : Int) = nameO (oprAt k order s) i := by
          obtain c | c : i = 0 ∨ i = 1 := by omega
          all_goals subst c; rfl
        have hnp : (ele ([(oprAt k order s).a, (oprAt k order s).b] : List Int) (i : Int) != (ele (layK l t k order).places (a : Int) - (ele (usesL (ele l.body (s : Int))) (i : Int)).bk - (oprAt k order s).stage) % t.regs) = !tb (NameP l t k order s i) := by
          unfold NameP
          rw [hname, ha, neB]
        rw [hnp]
        exact ⟨fun h => by rw [tb_t h, Bool.not_true, br_false, ck_IR (by omega) (by omega)]; rfl, fun h => by rw [tb_f h, Bool.not_false, br_true]⟩) (by unfold check_named_L2; exact br_F (by unfold ln; omega)) with ⟨q1, e⟩ | ⟨i, q1, q2, _, e⟩
    · rw [show lp (check_named_L2 t k order (layK l t k order).places s (usesL (ele l.body (s : Int)))) 0 = _ from e, bd_ret, Out.on_go, ck_IR (by omega) (by omega)]
      exact ⟨fun _ => rfl, fun h => absurd q1 h⟩
    · rw [show lp (check_named_L2 t k order (layK l t k order).places s (usesL (ele l.body (s : Int)))) 0 = _ from e, bd_ret, Out.on_ret]
      exact ⟨fun h => absurd (h i q1) q2, fun _ => rfl⟩) (by unfold check_named_L0; exact br_F (by unfold ln; omega))
  rcases X with ⟨q1, e⟩ | ⟨s, q1, q2, _, e⟩
  · rw [show lp (check_named_L0 l t k order (layK l t k order).places) 0 = _ from e, bd_ret, Out.on_go, tb_t (p := NamesAll l t k order) q1]
  · rw [show lp (check_named_L0 l t k order (layK l t k order).places) 0 = _ from e, bd_ret, Out.on_ret, tb_f fun h : NamesAll l t k order => q2 (h s q1)]
end
end Go.Rd
end

section
namespace Go.Rd
set_option linter.unusedVariables false
section
variable {l : Lp} {t : Tgt} {k : Krn} {order : List Int}
theorem pTakes_s (hf : l.Fine) (hk : KFine l k) (ho : order.length ≤ 9223372036854775807) : ∃ r, check_takes_m l t k order = some (r, tb (TakesP l t k order)) ∧ (TakesP l t k order → r = some (layT (layK l t k order))) := by
  unfold check_takes_m
  rw [pLayout_s hf hk ho, bd_ret]
  by_cases h : LayP l t k order
  · rw [tb_t h, if_pos rfl]
    show ∃ r, (optC (some (layT (layK l t k order))) _ _) = _ ∧ _
    unfold optC
    simp only
    have hn := named_s h
    rw [show (!(!((some (layT (layK l t k order)), true) : Option LayT × Bool).2)) = true from rfl, bdG_t, show check_named_m l t k order (layT (layK l t k order)).2.2.2.1 (layT (layK l t k order)).2.2.2.2.1 (layT (layK l t k order)).2.2.2.2.2.2.2 = _ from hn, bd_ret]
    by_cases hN : NamesAll l t k order
    · rw [tb_t hN, show ((!((some (layT (layK l t k order)), true) : Option LayT × Bool).2) || (!true)) = false from rfl, br_false]
      obtain ⟨E, e1, e2, e3, e4, e5⟩ := edges_both h.loop hf h.tgt
      have hy := layK_ok h
      have hp := h.may.pace
      have hnn := h.loop.2.2.1
      have hlt := hy.lt
      have hbl : (layK l t k order).body.length = l.body.length := rfl
      rw [e1, bd_ret]
      rcases lp_det2 (f := check_takes_L0 k (layT (layK l t k order)) (E, 0)) (ρ := Option LayT × Bool) (fun i => (i : Int)) E.length (fun i => TEdgeP (layK l t k order) (ele E (i : Int))) (fun _ => (none, false)) (fun i hi _ => by
          have hin := ((e4 _).1 (ele_mem' hi)).in h.loop
          obtain ⟨a, ha⟩ := Int.eq_ofNat_of_zero_le hin.to.1
          obtain ⟨b, hb⟩ := Int.eq_ofNat_of_zero_le hin.fr.1
          have ha' : a < l.body.length := by have := hin.to.2; omega
          have hb' : b < l.body.length := by have := hin.fr.2; omega
          have ta := hy.tm a ha'; have tb_ := hy.tm b hb'
          have hbk := hin.bk; have hwt := hin.wt
          have m1 := mul_le (a := (ele E (i : Int)).bk) (A := 32) (b := k.pace) (B := 200) (by omega) (by omega) (by omega) (by omega)
          have e : check_takes_L0 k (layT (layK l t k order)) (E, 0) i = br (!tb (TEdgeP (layK l t k order) (ele E (i : Int)))) (some (.ret (none, false))) (some (.next ((i : Int) + 1))) := by
            unfold check_takes_L0
            simp only
            rw [show (layT (layK l t k order)).2.2.2.2.2.1 = (layK l t k order).time from rfl]
            rw [br_T (by unfold ln; omega), ck_IX (by omega) (by unfold ln; omega), ha, hb, ck_IX (by omega) (by unfold ln; omega), ck_IR (by omega) (by omega), ck_IR (by omega) (by omega), ck_IX (by omega) (by unfold ln; omega), ck_IR (by omega) (by omega), ck_IR (by omega) (by omega)]
            congr 1
            have : (!decide (ele (layK l t k order).time (a : Int) + (ele E (i : Int)).bk * k.pace < ele (layK l t k order).time (b : Int) + (ele E (i : Int)).wt)) = tb (TEdgeP (layK l t k order) (ele E (i : Int))) := tb_eq (by
              unfold TEdgeP
              rw [ha, hb, show (layK l t k order).pace = k.pace from rfl]
              simp)
            rw [← this, Bool.not_not]
          rw [e]
          exact ⟨fun h => by rw [tb_t h]; rfl, fun h => by rw [tb_f h]; rfl⟩) (by unfold check_takes_L0; exact br_F (by show ¬ ((E.length : Int) < ln E); unfold ln; omega)) with ⟨q1, w1⟩ | ⟨i, q1, q2, _, w1⟩
      · rw [show lp (check_takes_L0 k (layT (layK l t k order)) (E, 0)) 0 = _ from w1, bd_ret, Out.on_go]
        have X := lp_det2 (f := check_takes_L2 l (layT (layK l t k order))) (ρ := Option LayT × Bool) (fun a => (natL a, (a : Int))) l.body.length (fun a => ∀ m : Nat, m < l.body.length → ApartP (layK l t k order) a m) (fun _ => (none, false)) (fun a ha _ => by
          unfold check_takes_L2
          simp only
          rw [br_T (by unfold ln; omega), show natL a ++ [(a : Int)] = natL (a + 1) from rm_succ (g := fun i : Nat => (i : Int)), ck_yes (AL8 (by rw [natL_len]; omega))]
          rcases lp_det2 (f := check_takes_L4 l (layT (layK l t k order)) a) (ρ := Option LayT × Bool) (fun i => (i : Int)) l.body.length (fun m => ApartP (layK l t k order) a m) (fun _ => (none, false)) (fun m hm _ => by
              have hap := apart_s hy ha hm
              unfold check_takes_L4
              rw [br_T (by unfold ln; omega), show keep_Layout_Apart_m (layT (layK l t k order)).2.1 (layT (layK l t k order)).2.2.1 (layT (layK l t k order)).2.2.2.1 (layT (layK l t k order)).2.2.2.2.1 (layT (layK l t k order)).2.2.2.2.2.1 (layT (layK l t k order)).2.2.2.2.2.2.1 (layT (layK l t k order)).2.2.2.2.2.2.2 a m = _ from hap, bd_ret]
              exact ⟨fun h => by rw [tb_t h, Bool.not_true, br_false, ck_IR (by omega) (by omega)]; rfl, fun h => by rw [tb_f h, Bool.not_false, br_true]⟩) (by unfold check_takes_L4; exact br_F (by unfold ln; omega)) with ⟨w1, e⟩ | ⟨m, w1, w2, _, e⟩
          · rw [show lp (check_takes_L4 l (layT (layK l t k order)) a) 0 = _ from e, bd_ret, Out.on_go, ck_IR (by omega) (by omega)]
            exact ⟨fun _ => rfl, fun h => absurd w1 h⟩
          · rw [show lp (check_takes_L4 l (layT (layK l t k order)) a) 0 = _ from e, bd_ret, Out.on_ret]
            exact ⟨fun h => absurd (h m w1) w2, fun _ => rfl⟩) (by unfold check_takes_L2; exact br_F (by unfold ln; omega))
        rcases X with ⟨q3, w2⟩ | ⟨a, q3, q4, _, w2⟩
        · rw [show lp (check_takes_L2 l (layT (layK l t k order))) ([], 0) = _ from w2, bd_ret, Out.on_go]
          simp only
          have hfs := firsts_s hy (L := natL l.body.length) (fun x hx => by have := natL_mem hx; omega) (by rw [natL_len]; omega)
          rw [show keep_Layout_Firsts_m (layT (layK l t k order)).1 (layT (layK l t k order)).2.1 (layT (layK l t k order)).2.2.1 (layT (layK l t k order)).2.2.2.1 (layT (layK l t k order)).2.2.2.2.1 (layT (layK l t k order)).2.2.2.2.2.2.2 (natL l.body.length) = _ from hfs, bd_ret]
          refine ⟨_, congrArg some (Prod.ext rfl ?_), fun _ => rfl⟩
          exact tb_congr ⟨fun hh => ⟨h, (all_edges e4).1 q1, hN, fun a m ha hm => q3 a ha m hm, hh⟩, fun hh => hh.firsts⟩
        · rw [show lp (check_takes_L2 l (layT (layK l t k order))) ([], 0) = _ from w2, bd_ret, Out.on_ret]
          have hnt : ¬ TakesP l t k order := fun hh => q4 fun m hm => hh.apart a m q3 hm
          exact ⟨none, by rw [tb_f hnt], fun hh => absurd hh hnt⟩
      · rw [show lp (check_takes_L0 k (layT (layK l t k order)) (E, 0)) 0 = _ from w1, bd_ret, Out.on_ret]
        have hnt : ¬ TakesP l t k order := fun hh => q2 (hh.edge _ ((e4 _).1 (ele_mem' q1)))
        exact ⟨none, by rw [tb_f hnt], fun hh => absurd hh hnt⟩
    · have hnt : ¬ TakesP l t k order := fun hh => hN hh.name
      rw [tb_f hN, show ((!((some (layT (layK l t k order)), true) : Option LayT × Bool).2) || (!false)) = true from rfl, br_true]
      exact ⟨none, by rw [tb_f hnt], fun hh => absurd hh hnt⟩
  · have hnt : ¬ TakesP l t k order := fun hh => h hh.lay
    rw [tb_f h, if_neg (by decide)]
    refine ⟨none, ?_, fun hh => absurd hh hnt⟩
    rw [tb_f hnt]
    unfold optC
    simp only
    rw [ck_yes trivial, ck_yes (by decide)]
theorem pTakes2_s (hf : l.Fine) (hk : KFine l k) (ho : order.length ≤ 9223372036854775807) : check_Takes_m l t k order = some (tb (TakesP l t k order)) := by
  obtain ⟨r, e, hr⟩ := pTakes_s (t := t) hf hk ho
  unfold check_Takes_m
  rw [e, bd_ret]
  by_cases h : TakesP l t k order
  · rw [hr h]; rfl
  · rw [tb_f h]
    unfold optC
    cases r with
    | none => simp only; rw [ck_yes trivial]
    | some y => rfl
end
end Go.Rd
end

section
namespace Go.Rd
set_option linter.unusedVariables false
noncomputable def roundelayref10_Before_L0 (before : List (List Int)) : Int → Option (Stp (Int) (Bool)) := fun i5_1 =>
 br (decide (i5_1 < (ln before))) (
 ck (IX i5_1 (ln before)) <|
 br ((ln (ele before i5_1)) != 3) (
 some (.ret false)) (
 ck (IR (i5_1 + 1)) <|
 some (.next (i5_1 + 1)))) (
 some (.brk i5_1))
noncomputable def roundelayref10_Before_m (l : Lp) (before : List (List Int)) : Option (Bool) :=
 br ((ln before) != (ln l.body)) (
 some false) (
 bd (lp (roundelayref10_Before_L0 before) 0) fun o5 => o5.on (fun i5_1 =>
 some true) (fun r => some r))

noncomputable def roundelayref10_Enter_L2 (l : Lp) (t : Tgt) (before : List (List Int)) (x4 : List Off × Bool) (s14_3 : Int) : ((List Int) × Int) → Option (Stp ((List Int) × Int) (Empty)) := fun (v14_4, q15_4) =>
 bd (roundelayref10_Far_m l s14_3) fun x27 =>
 br (decide (q15_4 ≤ x27)) (
 ck (IX s14_3 (ln x4.1)) <|
 ck (IR ((ele x4.1 s14_3).place - q15_4)) <|
 bd (roundelayref1_Rest_m ((ele x4.1 s14_3).place - q15_4) t.regs) fun x38 =>
 ck (IX s14_3 (ln before)) <|
 ck (IR (q15_4 - 1)) <|
 ck (IX (q15_4 - 1) (ln (ele before s14_3))) <|
 ck (IX x38 (ln v14_4)) <|
 ck (IR (q15_4 + 1)) <|
 some (.next ((upd v14_4 x38 (ele (ele before s14_3) (q15_4 - 1))), (q15_4 + 1)))) (
 some (.brk (v14_4, q15_4)))
noncomputable def roundelayref10_Enter_L0 (l : Lp) (t : Tgt) (before : List (List Int)) (x4 : List Off × Bool) : ((List Int) × Int) → Option (Stp ((List Int) × Int) (Empty)) := fun (v14_3, s14_3) =>
 br (decide (s14_3 < (ln x4.1))) (
 bd (lp (roundelayref10_Enter_L2 l t before x4 s14_3) (v14_3, 1)) fun o22 => o22.on (fun (v14_4, q15_4) =>
 ck (IR (s14_3 + 1)) <|
 some (.next (v14_4, (s14_3 + 1)))) (fun r => r.elim)) (
 some (.brk (v14_3, s14_3)))
noncomputable def roundelayref10_Enter_m (l : Lp) (t : Tgt) (k_ : Krn) (order : List Int) (before : List (List Int)) : Option (List Int) :=
 bd (roundelayref10_Layout_m l t k_ order) fun x4 =>
 ck (0 ≤ t.regs) <|
 ck (AL t.regs.toNat 8) <|
 bd (lp (roundelayref10_Enter_L0 l t before x4) ((List.replicate t.regs.toNat (0 : Int)), 0)) fun o15 => o15.on (fun (v14_3, s14_3) =>
 some v14_3) (fun r => r.elim)

noncomputable def roundelayref10_Leave_L0 (l : Lp) (t : Tgt) (before : List (List Int)) (regs : List Int) (turns : Int) (x4 : List Off × Bool) : ((List Int) × Int) → Option (Stp ((List Int) × Int) (Empty)) := fun (v8_1, i18_1) =>
 br (decide (i18_1 < (ln l.outs))) (
 ck (IX i18_1 (ln l.outs)) <|
 ck (IX (ele l.outs i18_1) (ln before)) <|
 ck (IX 0 (ln (ele before (ele l.outs i18_1)))) <|
 br (decide (turns > 0)) (
 ck (IX i18_1 (ln l.outs)) <|
 ck (IX (ele l.outs i18_1) (ln x4.1)) <|
 ck (IR ((ele x4.1 (ele l.outs i18_1)).place + turns)) <|
 ck (IR (((ele x4.1 (ele l.outs i18_1)).place + turns) - 1)) <|
 bd (roundelayref1_Rest_m (((ele x4.1 (ele l.outs i18_1)).place + turns) - 1) t.regs) fun x45 =>
 ck (IX x45 (ln regs)) <|
 ck (AL (v8_1 ++ [(ele regs x45)]).length 8) <|
 ck (IR (i18_1 + 1)) <|
 some (.next ((v8_1 ++ [(ele regs x45)]), (i18_1 + 1)))) (
 ck (AL (v8_1 ++ [(ele (ele before (ele l.outs i18_1)) 0)]).length 8) <|
 ck (IR (i18_1 + 1)) <|
 some (.next ((v8_1 ++ [(ele (ele before (ele l.outs i18_1)) 0)]), (i18_1 + 1))))) (
 some (.brk (v8_1, i18_1)))
noncomputable def roundelayref10_Leave_m (l : Lp) (t : Tgt) (k_ : Krn) (order : List Int) (before : List (List Int)) (regs : List Int) (turns : Int) : Option (List Int) :=
 bd (roundelayref10_Layout_m l t k_ order) fun x4 =>
 bd (lp (roundelayref10_Leave_L0 l t before regs turns x4) ([], 0)) fun o9 => o9.on (fun (v8_1, i18_1) =>
 some v8_1) (fun r => r.elim)
end Go.Rd
end

section
namespace Go.Rd
set_option linter.unusedVariables false
noncomputable def roundelayref3_Numbers_L0 (a : List Int) (b : List Int) : Int → Option (Stp (Int) (Bool)) := fun i5_1 =>
 br (decide (i5_1 < (ln a))) (
 ck (IX i5_1 (ln a)) <|
 ck (IX i5_1 (ln b)) <|
 br ((ele a i5_1) != (ele b i5_1)) (
 some (.ret false)) (
 ck (IR (i5_1 + 1)) <|
 some (.next (i5_1 + 1)))) (
 some (.brk i5_1))
noncomputable def roundelayref3_Numbers_m (a : List Int) (b : List Int) : Option (Bool) :=
 br ((ln a) != (ln b)) (
 some false) (
 bd (lp (roundelayref3_Numbers_L0 a b) 0) fun o4 => o4.on (fun i5_1 =>
 some true) (fun r => some r))
end Go.Rd
end

section
namespace Go.Rd
set_option linter.unusedVariables false
def BefP (l : Lp) (b : List (List Int)) : Prop := b.length = l.body.length ∧ ∀ i : Nat, i < b.length → (ele b (i : Int)).length = 3
section
variable {l : Lp} {t : Tgt} {k : Krn} {order : List Int} {b : List (List Int)}
def entQ (y : LayD) (b : List (List Int)) (s : Nat) (R : List Int) : Nat → List Int
  | 0 => R
  | q + 1 => upd (entQ y b s R q) (regF y s q) (ele (ele b (s : Int)) (q : Int))
def entS (y : LayD) (b : List (List Int)) (n : Nat) : Nat → List Int
  | 0 => List.replicate n 0
  | s + 1 => entQ y b s (entS y b n s) (farV y.body s).toNat
theorem entQ_len {y : LayD} {s : Nat} {R : List Int} : ∀ q, (entQ y b s R q).length = R.length
  | 0 => rfl
  | q + 1 => by show (upd _ _ _).length = _; rw [upd_len, entQ_len q]
theorem entS_len {y : LayD} {n : Nat} : ∀ s, (entS y b n s).length = n
  | 0 => by show (List.replicate n 0).length = n; simp
  | s + 1 => by show (entQ _ _ _ _ _).length = n; rw [entQ_len, entS_len s]
theorem reg_bd {y : LayD} (hy : y.Ok) (s : Int) (q : Nat) : 0 ≤ regF y s q ∧ regF y s q < y.regs := by
  have hR := hy.regs
  exact ⟨Int.emod_nonneg _ (by omega), Int.emod_lt_of_pos _ (by omega)⟩
theorem enter_r (h : LayP l t k order) (hb : BefP l b) : lp (roundelayref10_Enter_L0 l t b (offsK l t k order, true)) (List.replicate t.regs.toNat 0, 0) = some (.go (entS (layK l t k order) b t.regs.toNat l.body.length, (l.body.length : Int))) := by
  have hy := layK_ok h
  have hn := h.loop.2.2.1
  have hR := hy.regs
  have hrr : (layK l t k order).regs = t.regs := rfl
  refine lp_det (f := roundelayref10_Enter_L0 l t b (offsK l t k order, true)) (fun s => (entS (layK l t k order) b t.regs.toNat s, (s : Int))) l.body.length (fun s hs => ?_) (by unfold roundelayref10_Enter_L0; exact br_F (by rw [offs_ln]; omega))
  have hf := far_bd hy (s : Int)
  have hfe : farV (layK l t k order).body (s : Int) = farV l.body s := rfl
  have hp := hy.pl s hs
  have hbs := hb.2 s (by have := hb.1; omega)
  have hel := entS_len (b := b) (y := layK l t k order) (n := t.regs.toNat) s
  have hfar : roundelayref10_Far_m l (s : Int) = some (farV l.body s) := rfar_s hn hy.bk s
  obtain ⟨s1, s2, s3⟩ := offs_at (t := t) (k := k) (order := order) hs
  have Y := lp_det (f := roundelayref10_Enter_L2 l t b (offsK l t k order, true) s) (ρ := Empty) (fun q => (entQ (layK l t k order) b s (entS (layK l t k order) b t.regs.toNat s) q, (q : Int) + 1)) (farV l.body s).toNat (fun q hq => by
    have hr := reg_bd hy (s : Int) q
    have hl2 := entQ_len (b := b) (y := layK l t k order) (s := s) (R := entS (layK l t k order) b t.regs.toNat s) q
    have hbl2 := hb.1
    have hreg : (ele (layK l t k order).places (s : Int) - ((q : Int) + 1)) % t.regs = regF (layK l t k order) s q := by
      unfold regF
      rw [show ele (layK l t k order).places (s : Int) - (q : Int) - 1 = ele (layK l t k order).places (s : Int) - ((q : Int) + 1) from by omega]
      rfl
    unfold roundelayref10_Enter_L2
    simp only
    rw [hfar, bd_ret, br_T (by omega), ck_IX (by omega) (by rw [offs_ln]; omega), s3, ck_IR (by omega) (by omega), Rest_s _ _ (by omega) (by omega), bd_ret, hreg, ck_IX (by omega) (by unfold ln; omega), ck_IR (by omega) (by omega), show (q : Int) + 1 - 1 = q from by omega, ck_IX (by omega) (by unfold ln; omega), ck_IX hr.1 (by unfold ln; omega), ck_IR (by omega) (by omega)]
    rfl) (by
    unfold roundelayref10_Enter_L2
    simp only
    rw [hfar, bd_ret]
    exact br_F (by omega))
  unfold roundelayref10_Enter_L0
  simp only
  rw [br_T (by rw [offs_ln]; omega), show lp (roundelayref10_Enter_L2 l t b (offsK l t k order, true) s) (entS (layK l t k order) b t.regs.toNat s, 1) = _ from Y, bd_ret, Out.on_go, ck_IR (by omega) (by omega)]
  rfl
def leaveV (l : Lp) (t : Tgt) (y : LayD) (b : List (List Int)) (regs : List Int) (turns : Int) (i : Nat) : Int :=
  if turns = 0 then ele (ele b (ele l.outs (i : Int))) 0 else ele regs ((ele y.places (ele l.outs (i : Int)) + turns - 1) % t.regs)
theorem leave_r (h : LayP l t k order) (hb : BefP l b) {regs : List Int} (hr : (regs.length : Int) = t.regs) {turns : Int} (ht : 0 ≤ turns ∧ turns ≤ 200) : lp (roundelayref10_Leave_L0 l t b regs turns (offsK l t k order, true)) ([], 0) = some (.go ((List.range l.outs.length).map (leaveV l t (layK l t k order) b regs turns), (l.outs.length : Int))) := by
  have hy := layK_ok h
  have hn := h.loop.2.2.1
  have hR := hy.regs
  have hrr : (layK l t k order).regs = t.regs := rfl
  have hol := outs_len h.loop
  refine lp_det (f := roundelayref10_Leave_L0 l t b regs turns (offsK l t k order, true)) (fun i => ((List.range i).map (leaveV l t (layK l t k order) b regs turns), (i : Int))) l.outs.length (fun i hi => ?_) (by unfold roundelayref10_Leave_L0; exact br_F (by unfold ln; omega))
  have ho := h.loop.out i hi
  rw [show l.outs.getD i 0 = ele l.outs (i : Int) from rfl] at ho
  obtain ⟨a, ha⟩ := Int.eq_ofNat_of_zero_le ho.1
  have ha' : a < l.body.length := by omega
  have hp := hy.pl a ha'
  have hbs := hb.2 a (by have := hb.1; omega)
  have hbl2 := hb.1
  obtain ⟨s1, s2, s3⟩ := offs_at (t := t) (k := k) (order := order) ha'
  have h0 := Int.emod_nonneg (ele (layK l t k order).places (a : Int) + turns - 1) (show t.regs ≠ 0 by omega)
  have h1 := Int.emod_lt_of_pos (ele (layK l t k order).places (a : Int) + turns - 1) (show 0 < t.regs by omega)
  have hlv : leaveV l t (layK l t k order) b regs turns i = if turns = 0 then ele (ele b (a : Int)) 0 else ele regs ((ele (layK l t k order).places (a : Int) + turns - 1) % t.regs) := by unfold leaveV; rw [ha]
  unfold roundelayref10_Leave_L0
  simp only
  rw [br_T (by unfold ln; omega), ck_IX (by omega) (by unfold ln; omega), ha, ck_IX (by omega) (by unfold ln; omega), ck_IX (by omega) (by unfold ln; omega)]
  by_cases c : turns = 0
  · rw [br_F (show ¬ turns > 0 by omega), ck_yes (AL8 (by simp; omega)), ck_IR (by omega) (by omega)]
    rw [if_pos c] at hlv
    rw [← hlv, rm_succ]; rfl
  · rw [br_T (show turns > 0 by omega), ck_IX (by omega) (by unfold ln; omega), ck_IX (by omega) (by rw [offs_ln]; omega), s3, ck_IR (by omega) (by omega), ck_IR (by omega) (by omega), Rest_s _ _ (by omega) (by omega), bd_ret, ck_IX h0 (by unfold ln; omega), ck_yes (AL8 (by simp; omega)), ck_IR (by omega) (by omega)]
    rw [if_neg c] at hlv
    rw [← hlv, rm_succ]; rfl
theorem numbers_self {a : List Int} (h : a.length ≤ 9223372036854775807) : roundelayref3_Numbers_m a a = some true := by
  unfold roundelayref3_Numbers_m
  rw [show (ln a != ln a) = false from by simp, br_false]
  have := lp_det (f := roundelayref3_Numbers_L0 a a) (ρ := Bool) (fun i => (i : Int)) a.length (fun i hi => by
    unfold roundelayref3_Numbers_L0
    rw [br_T (by unfold ln; omega), ck_IX (by omega) (by unfold ln; omega), ck_IX (by omega) (by unfold ln; omega), show (ele a (i : Int) != ele a (i : Int)) = false from by simp, br_false, ck_IR (by omega) (by omega)]
    rfl) (by unfold roundelayref3_Numbers_L0; exact br_F (by unfold ln; omega))
  rw [show lp (roundelayref3_Numbers_L0 a a) 0 = _ from this, bd_ret, Out.on_go]
theorem rEnter_s (hf : l.Fine) (hk : KFine l k) (ho : order.length ≤ 9223372036854775807) (h : LayP l t k order) (hb : BefP l b) : roundelayref10_Enter_m l t k order b = some (entS (layK l t k order) b t.regs.toNat l.body.length) := by
  have hR := (layK_ok h).regs
  have hrr : (layK l t k order).regs = t.regs := rfl
  unfold roundelayref10_Enter_m
  rw [Layout_s hf hk ho, bd_ret, tb_t h, if_pos rfl, ck_yes (by omega), ck_yes (AL8 (by omega)), show ((List.range l.body.length).map (offK t k order), true) = (offsK l t k order, true) from rfl, enter_r h hb, bd_ret, Out.on_go]
theorem rLeave_s (hf : l.Fine) (hk : KFine l k) (ho : order.length ≤ 9223372036854775807) (h : LayP l t k order) (hb : BefP l b) {regs : List Int} (hr : (regs.length : Int) = t.regs) {turns : Int} (ht : 0 ≤ turns ∧ turns ≤ 200) : roundelayref10_Leave_m l t k order b regs turns = some ((List.range l.outs.length).map (leaveV l t (layK l t k order) b regs turns)) := by
  unfold roundelayref10_Leave_m
  rw [Layout_s hf hk ho, bd_ret, tb_t h, if_pos rfl, show ((List.range l.body.length).map (offK t k order), true) = (offsK l t k order, true) from rfl, leave_r h hb hr ht, bd_ret, Out.on_go]
end
end Go.Rd
end

section
namespace Go.Rd
set_option linter.unusedVariables false
noncomputable def check_fits_L0 (before : List (List Int)) : Int → Option (Stp (Int) (Bool)) := fun x9_1 =>
 br (decide (x9_1 < (ln before))) (
 ck (IX x9_1 (ln before)) <|
 br ((ln (ele before x9_1)) != 3) (
 some (.ret false)) (
 ck (IR (x9_1 + 1)) <|
 some (.next (x9_1 + 1)))) (
 some (.brk x9_1))
noncomputable def check_fits_m (l : Lp) (before : List (List Int)) : Option (Bool) :=
 bd (lp (check_fits_L0 before) 0) fun o2 => o2.on (fun x9_1 =>
 some ((ln before) == (ln l.body))) (fun r => some r)

noncomputable def check_Enter_L2 (t : Tgt) (before : List (List Int)) (y9 : LayT) (x39_3 : Int) (x40 : Int) : ((List Int) × Int) → Option (Stp ((List Int) × Int) (Empty)) := fun (v32_4, x45_4) =>
 br (decide (x45_4 < x40)) (
 ck (IX x39_3 (ln y9.2.2.2.2.2.2.2)) <|
 ck (IR ((ele y9.2.2.2.2.2.2.2 x39_3) - x45_4)) <|
 ck (IR (((ele y9.2.2.2.2.2.2.2 x39_3) - x45_4) - 1)) <|
 bd (emit_Rest_m (((ele y9.2.2.2.2.2.2.2 x39_3) - x45_4) - 1) t.regs) fun x58 =>
 ck (IX x39_3 (ln before)) <|
 ck (IX x45_4 (ln (ele before x39_3))) <|
 ck (IX x58 (ln v32_4)) <|
 ck (IR (x45_4 + 1)) <|
 some (.next ((upd v32_4 x58 (ele (ele before x39_3) x45_4)), (x45_4 + 1)))) (
 some (.brk (v32_4, x45_4)))
noncomputable def check_Enter_L0 (l : Lp) (t : Tgt) (before : List (List Int)) (y9 : LayT) : ((List Int) × Int) → Option (Stp ((List Int) × Int) (Empty)) := fun (v32_3, x39_3) =>
 br (decide (x39_3 < (ln l.body))) (
 bd (keep_Far_m l x39_3) fun x40 =>
 bd (lp (check_Enter_L2 t before y9 x39_3 x40) (v32_3, 0)) fun o43 => o43.on (fun (v32_4, x45_4) =>
 ck (IR (x39_3 + 1)) <|
 some (.next (v32_4, (x39_3 + 1)))) (fun r => r.elim)) (
 some (.brk (v32_3, x39_3)))
noncomputable def check_Enter_m (l : Lp) (t : Tgt) (k_ : Krn) (order : List Int) (before : List (List Int)) : Option (List Int × Int) :=
 bd (check_takes_m l t k_ order) fun x4 =>
 optC x4.1 (
 ck (x4.2 = false) <|
 bdG (!(!false)) (check_fits_m l before) fun x14 =>
 some ([], 2)) fun y9 =>
 bdG (!(!x4.2)) (check_fits_m l before) fun x20 =>
 br ((!x4.2) || (!x20)) (
 some ([], 2)) (
 ck (0 ≤ t.regs) <|
 ck (AL t.regs.toNat 8) <|
 bd (lp (check_Enter_L0 l t before y9) ((List.replicate t.regs.toNat (0 : Int)), 0)) fun o33 => o33.on (fun (v32_3, x39_3) =>
 some (v32_3, 0)) (fun r => r.elim))

noncomputable def check_Leave_L1 (l : Lp) (t : Tgt) (before : List (List Int)) (regs : List Int) (turns : Int) (y9 : LayT) : ((List Int) × Int) → Option (Stp ((List Int) × Int) (Empty)) := fun (v29_1, x55_1) =>
 br (decide (x55_1 < (ln l.outs))) (
 ck (IX x55_1 (ln l.outs)) <|
 br (turns == 0) (
 ck (IX (ele l.outs x55_1) (ln before)) <|
 ck (IX 0 (ln (ele before (ele l.outs x55_1)))) <|
 ck (AL (v29_1 ++ [(ele (ele before (ele l.outs x55_1)) 0)]).length 8) <|
 ck (IR (x55_1 + 1)) <|
 some (.next ((v29_1 ++ [(ele (ele before (ele l.outs x55_1)) 0)]), (x55_1 + 1)))) (
 ck (IX (ele l.outs x55_1) (ln y9.2.2.2.2.2.2.2)) <|
 ck (IR ((ele y9.2.2.2.2.2.2.2 (ele l.outs x55_1)) + turns)) <|
 ck (IR (((ele y9.2.2.2.2.2.2.2 (ele l.outs x55_1)) + turns) - 1)) <|
 bd (emit_Rest_m (((ele y9.2.2.2.2.2.2.2 (ele l.outs x55_1)) + turns) - 1) t.regs) fun x70 =>
 ck (IX x70 (ln regs)) <|
 ck (AL (v29_1 ++ [(ele regs x70)]).length 8) <|
 ck (IR (x55_1 + 1)) <|
 some (.next ((v29_1 ++ [(ele regs x70)]), (x55_1 + 1))))) (
 some (.brk (v29_1, x55_1)))
noncomputable def check_Leave_m (l : Lp) (t : Tgt) (k_ : Krn) (order : List Int) (before : List (List Int)) (regs : List Int) (turns : Int) : Option (List Int × Int) :=
 bd (check_takes_m l t k_ order) fun x4 =>
 optC x4.1 (
 ck (x4.2 = false) <|
 bdG (!(!false)) (check_fits_m l before) fun x14 =>
 some ([], 2)) fun y9 =>
 bdG (!(!x4.2)) (check_fits_m l before) fun x20 =>
 br (((!x4.2) || (!x20)) || ((ln regs) != t.regs)) (
 some ([], 2)) (
 br ((decide (turns < 0)) || (decide (turns > 200))) (
 some ([], 3)) (
 bd (lp (check_Leave_L1 l t before regs turns y9) ([], 0)) fun o30 => o30.on (fun (v29_1, x55_1) =>
 some (v29_1, 0)) (fun r => r.elim)))
end Go.Rd
end

section
namespace Go.Rd
set_option linter.unusedVariables false
noncomputable def roundelaylaw_CheckTells_m (l : Lp) (t : Tgt) (k_ : Krn) (order : List Int) (before : List (List Int)) (regs : List Int) (turns : Int) : Option (Bool) :=
 bd (check_Takes_m l t k_ order) fun x4 =>
 bd (roundelayref10_Takes_m l t k_ order) fun x7 =>
 br (!(x4 == x7)) (
 some false) (
 bd (check_Enter_m l t k_ order before) fun x13 =>
 bd (check_Leave_m l t k_ order before regs turns) fun x17 =>
 bdG (!(!x4)) (roundelayref10_Before_m l before) fun x21 =>
 br ((!x4) || (!x21)) (
 ck (((x13.2 == 2) && (x17.2 == 2)) = true → IR ((ln x13.1) + (ln x17.1))) <|
 some (((x13.2 == 2) && (x17.2 == 2)) && (((ln x13.1) + (ln x17.1)) == 0))) (
 br (!(x13.2 != 0)) (
 bd (roundelayref10_Enter_m l t k_ order before) fun x31 =>
 bdG (!(x13.2 != 0)) (roundelayref3_Numbers_m x13.1 x31) fun x35 =>
 br ((x13.2 != 0) || (!x35)) (
 some false) (
 br ((ln regs) != t.regs) (
 some ((x17.2 == 2) && ((ln x17.1) == 0))) (
 br ((decide (turns < 0)) || (decide (turns > 200))) (
 some ((x17.2 == 3) && ((ln x17.1) == 0))) (
 br (x17.2 == 0) (
 bd (roundelayref10_Leave_m l t k_ order before regs turns) fun x49 =>
 bdG (x17.2 == 0) (roundelayref3_Numbers_m x17.1 x49) fun x53 =>
 some ((x17.2 == 0) && x53)) (
 some ((x17.2 == 0) && false)))))) (
 br ((x13.2 != 0) || false) (
 some false) (
 br ((ln regs) != t.regs) (
 some ((x17.2 == 2) && ((ln x17.1) == 0))) (
 br ((decide (turns < 0)) || (decide (turns > 200))) (
 some ((x17.2 == 3) && ((ln x17.1) == 0))) (
 br (x17.2 == 0) (
 bd (roundelayref10_Leave_m l t k_ order before regs turns) fun x69 =>
 bdG (x17.2 == 0) (roundelayref3_Numbers_m x17.1 x69) fun x73 =>
 some ((x17.2 == 0) && x73)) (
 some ((x17.2 == 0) && false))))))))
end Go.Rd
end

section
namespace Go.Rd
set_option linter.unusedVariables false
theorem lpO_fine' {l : Lp} (hf : l.Fine) {o : Opr} (ho : InR o.op ∧ InR o.ar ∧ InR o.sp ∧ InR o.pl ∧ InR o.n) : (lpO l.logs o).Fine := by
  have h0 : InR 0 := by unfold InR; omega
  have h2 : InR 2 := by unfold InR; omega
  refine ⟨hf.rlogs, fun u hu => ?_, fun u hu => (by cases hu), hf.llogs, by show 2 ≤ maxLen; rw [maxLen_eq]; omega, by show 0 ≤ maxLen; omega⟩
  have hu' : u = turnS ∨ u = stmO o := by
    rcases List.mem_cons.1 hu with h | h
    · exact .inl h
    · exact .inr (List.mem_singleton.1 h)
  rcases hu' with rfl | rfl
  · exact ⟨h2, h0, h0, h0, h0, h0, h0, h0, h0⟩
  · exact ⟨ho.1, h0, h0, h0, h0, ho.2.1, ho.2.2.1, ho.2.2.2.1, ho.2.2.2.2⟩
theorem kfine_of {l : Lp} (hf : l.Fine) {k : Krn} {w : World} {v : Value} (hK : KrnRep w v k) : KFine l k := fun i hi => by
  have ho := hK.rops _ (ele_mem' hi)
  unfold Opr.InRo at ho
  exact lpO_fine' hf ⟨ho _ (by simp), ho _ (by simp), ho _ (by simp), ho _ (by simp), ho _ (by simp)⟩
end Go.Rd
end

section
namespace Go.Rd
set_option linter.unusedVariables false
theorem before_s {l : Lp} {b : List (List Int)} (hb : b.length ≤ 9223372036854775807) : roundelayref10_Before_m l b = some (tb (BefP l b)) := by
  unfold roundelayref10_Before_m
  by_cases h : b.length = l.body.length
  · rw [show (ln b != ln l.body) = false from by unfold ln; simp [h], br_false]
    rcases lp_det2 (f := roundelayref10_Before_L0 b) (ρ := Bool) (fun i => (i : Int)) b.length (fun i => (ele b (i : Int)).length = 3) (fun _ => false) (fun i hi _ => by
        unfold roundelayref10_Before_L0
        rw [br_T (by unfold ln; omega), ck_IX (by omega) (by unfold ln; omega)]
        exact ⟨fun h => by rw [show (ln (ele b (i : Int)) != 3) = false from by unfold ln; rw [h]; rfl, br_false, ck_IR (by omega) (by omega)]; rfl, fun h => by rw [show (ln (ele b (i : Int)) != 3) = true from by unfold ln; simp; omega, br_true]⟩) (by unfold roundelayref10_Before_L0; exact br_F (by unfold ln; omega)) with ⟨q1, e⟩ | ⟨i, q1, q2, _, e⟩
    · rw [show lp (roundelayref10_Before_L0 b) 0 = _ from e, bd_ret, Out.on_go, tb_t (p := BefP l b) ⟨h, q1⟩]
    · rw [show lp (roundelayref10_Before_L0 b) 0 = _ from e, bd_ret, Out.on_ret, tb_f fun h : BefP l b => q2 (h.2 i q1)]
  · rw [show (ln b != ln l.body) = true from by unfold ln; simp; omega, br_true, tb_f fun hh : BefP l b => h hh.1]
theorem fits_b {l : Lp} {b : List (List Int)} (hb : b.length ≤ 9223372036854775807) : check_fits_m l b = some (tb (BefP l b)) := by
  unfold check_fits_m
  rcases lp_det2 (f := check_fits_L0 b) (ρ := Bool) (fun i => (i : Int)) b.length (fun i => (ele b (i : Int)).length = 3) (fun _ => false) (fun i hi _ => by
      unfold check_fits_L0
      rw [br_T (by unfold ln; omega), ck_IX (by omega) (by unfold ln; omega)]
      exact ⟨fun h => by rw [show (ln (ele b (i : Int)) != 3) = false from by unfold ln; rw [h]; rfl, br_false, ck_IR (by omega) (by omega)]; rfl, fun h => by rw [show (ln (ele b (i : Int)) != 3) = true from by unfold ln; simp; omega, br_true]⟩) (by unfold check_fits_L0; exact br_F (by unfold ln; omega)) with ⟨q1, e⟩ | ⟨i, q1, q2, _, e⟩
  · rw [show lp (check_fits_L0 b) 0 = _ from e, bd_ret, Out.on_go]
    congr 1
    refine tb_eq ?_
    unfold BefP ln
    simp only [beq_iff_eq]
    exact ⟨fun h => ⟨by omega, q1⟩, fun h => by have := h.1; omega⟩
  · rw [show lp (check_fits_L0 b) 0 = _ from e, bd_ret, Out.on_ret, tb_f fun h : BefP l b => q2 (h.2 i q1)]
section
variable {l : Lp} {t : Tgt} {k : Krn} {order : List Int} {b : List (List Int)}
theorem enter_p (h : LayP l t k order) (hb : BefP l b) : lp (check_Enter_L0 l t b (layT (layK l t k order))) (List.replicate t.regs.toNat 0, 0) = some (.go (entS (layK l t k order) b t.regs.toNat l.body.length, (l.body.length : Int))) := by
  have hy := layK_ok h
  have hn := h.loop.2.2.1
  have hR := hy.regs
  have hrr : (layK l t k order).regs = t.regs := rfl
  have hlp := hy.lp
  have hbl : (layK l t k order).body.length = l.body.length := rfl
  refine lp_det (f := check_Enter_L0 l t b (layT (layK l t k order))) (fun s => (entS (layK l t k order) b t.regs.toNat s, (s : Int))) l.body.length (fun s hs => ?_) (by unfold check_Enter_L0; exact br_F (by unfold ln; omega))
  have hf := far_bd hy (s : Int)
  have hfe : farV (layK l t k order).body (s : Int) = farV l.body s := rfl
  have hp := hy.pl s hs
  have hbs := hb.2 s (by have := hb.1; omega)
  have hel := entS_len (b := b) (y := layK l t k order) (n := t.regs.toNat) s
  have Y := lp_det (f := check_Enter_L2 t b (layT (layK l t k order)) s (farV l.body s)) (ρ := Empty) (fun q => (entQ (layK l t k order) b s (entS (layK l t k order) b t.regs.toNat s) q, (q : Int))) (farV l.body s).toNat (fun q hq => by
    have hr := reg_bd hy (s : Int) q
    have hl2 := entQ_len (b := b) (y := layK l t k order) (s := s) (R := entS (layK l t k order) b t.regs.toNat s) q
    have hbl2 := hb.1
    unfold check_Enter_L2
    simp only
    rw [show (layT (layK l t k order)).2.2.2.2.2.2.2 = (layK l t k order).places from rfl]
    rw [br_T (by omega), ck_IX (by omega) (by unfold ln; omega), ck_IR (by omega) (by omega), ck_IR (by omega) (by omega), eRest_s (by omega) (by omega), bd_ret, show (ele (layK l t k order).places (s : Int) - (q : Int) - 1) % t.regs = regF (layK l t k order) s q from rfl, ck_IX (by omega) (by unfold ln; omega), ck_IX (by omega) (by unfold ln; omega), ck_IX hr.1 (by unfold ln; omega), ck_IR (by omega) (by omega)]
    rfl) (by unfold check_Enter_L2; exact br_F (by omega))
  unfold check_Enter_L0
  simp only
  rw [br_T (by unfold ln; omega), far_s hn hy.bk, bd_ret, show lp (check_Enter_L2 t b (layT (layK l t k order)) s (farV l.body s)) (entS (layK l t k order) b t.regs.toNat s, 0) = _ from Y, bd_ret, Out.on_go, ck_IR (by omega) (by omega)]
  rfl
theorem leave_p (h : LayP l t k order) (hb : BefP l b) {regs : List Int} (hr : (regs.length : Int) = t.regs) {turns : Int} (ht : 0 ≤ turns ∧ turns ≤ 200) : lp (check_Leave_L1 l t b regs turns (layT (layK l t k order))) ([], 0) = some (.go ((List.range l.outs.length).map (leaveV l t (layK l t k order) b regs turns), (l.outs.length : Int))) := by
  have hy := layK_ok h
  have hn := h.loop.2.2.1
  have hR := hy.regs
  have hrr : (layK l t k order).regs = t.regs := rfl
  have hlp := hy.lp
  have hbl : (layK l t k order).body.length = l.body.length := rfl
  have hol := outs_len h.loop
  refine lp_det (f := check_Leave_L1 l t b regs turns (layT (layK l t k order))) (fun i => ((List.range i).map (leaveV l t (layK l t k order) b regs turns), (i : Int))) l.outs.length (fun i hi => ?_) (by unfold check_Leave_L1; exact br_F (by unfold ln; omega))
  have ho := h.loop.out i hi
  rw [show l.outs.getD i 0 = ele l.outs (i : Int) from rfl] at ho
  obtain ⟨a, ha⟩ := Int.eq_ofNat_of_zero_le ho.1
  have ha' : a < l.body.length := by omega
  have hp := hy.pl a ha'
  have hbs := hb.2 a (by have := hb.1; omega)
  have hbl2 := hb.1
  have h0 := Int.emod_nonneg (ele (layK l t k order).places (a : Int) + turns - 1) (show t.regs ≠ 0 by omega)
  have h1 := Int.emod_lt_of_pos (ele (layK l t k order).places (a : Int) + turns - 1) (show 0 < t.regs by omega)
  have hlv : leaveV l t (layK l t k order) b regs turns i = if turns = 0 then ele (ele b (a : Int)) 0 else ele regs ((ele (layK l t k order).places (a : Int) + turns - 1) % t.regs) := by unfold leaveV; rw [ha]
  unfold check_Leave_L1
  simp only
  rw [br_T (by unfold ln; omega), ck_IX (by omega) (by unfold ln; omega), ha]
  by_cases c : turns = 0
  · rw [show (turns == 0) = true from by simpa using c, br_true, ck_IX (by omega) (by unfold ln; omega), ck_IX (by omega) (by unfold ln; omega), ck_yes (AL8 (by simp; omega)), ck_IR (by omega) (by omega)]
    rw [if_pos c] at hlv
    rw [← hlv, rm_succ]; rfl
  · rw [show (turns == 0) = false from by simpa using c, br_false]
    rw [show (layT (layK l t k order)).2.2.2.2.2.2.2 = (layK l t k order).places from rfl]
    rw [ck_IX (by omega) (by unfold ln; omega), ck_IR (by omega) (by omega), ck_IR (by omega) (by omega), eRest_s (by omega) (by omega), bd_ret, ck_IX h0 (by unfold ln; omega), ck_yes (AL8 (by simp; omega)), ck_IR (by omega) (by omega)]
    rw [if_neg c] at hlv
    rw [← hlv, rm_succ]; rfl
theorem enter_s (hf : l.Fine) (hk : KFine l k) (ho : order.length ≤ 9223372036854775807) (hb : b.length ≤ 9223372036854775807) : check_Enter_m l t k order b = some (if tb (TakesP l t k order ∧ BefP l b) = true then (entS (layK l t k order) b t.regs.toNat l.body.length, 0) else ([], 2)) := by
  obtain ⟨r, e, hr⟩ := pTakes_s (t := t) hf hk ho
  unfold check_Enter_m
  rw [e, bd_ret]
  by_cases h : TakesP l t k order
  · rw [hr h, tb_t h]
    have hR := (layK_ok h.lay).regs
    have hrr : (layK l t k order).regs = t.regs := rfl
    unfold optC
    simp only
    rw [show (!(!true)) = true from rfl, bdG_t, fits_b hb, bd_ret]
    by_cases h2 : BefP l b
    · rw [tb_t h2, tb_t (p := TakesP l t k order ∧ BefP l b) ⟨h, h2⟩, if_pos rfl, show ((!true) || (!true)) = false from rfl, br_false, ck_yes (by omega), ck_yes (AL8 (by omega)), enter_p h.lay h2, bd_ret, Out.on_go]
    · rw [tb_f h2, tb_f fun hh : TakesP l t k order ∧ BefP l b => h2 hh.2]; rfl
  · rw [tb_f h, tb_f fun hh : TakesP l t k order ∧ BefP l b => h hh.1]
    unfold optC
    cases r with
    | none => simp only; rw [ck_yes trivial]; rfl
    | some y => rfl
theorem leave_s (hf : l.Fine) (hk : KFine l k) (ho : order.length ≤ 9223372036854775807) (hb : b.length ≤ 9223372036854775807) {regs : List Int} {turns : Int} : check_Leave_m l t k order b regs turns = some (if tb (TakesP l t k order ∧ BefP l b ∧ (regs.length : Int) = t.regs) = true then (if (decide (turns < 0) || decide (turns > 200)) = true then ([], 3) else ((List.range l.outs.length).map (leaveV l t (layK l t k order) b regs turns), 0)) else ([], 2)) := by
  obtain ⟨r, e, hr⟩ := pTakes_s (t := t) hf hk ho
  unfold check_Leave_m
  rw [e, bd_ret]
  by_cases h : TakesP l t k order
  · rw [hr h, tb_t h]
    unfold optC
    simp only
    rw [show (!(!true)) = true from rfl, bdG_t, fits_b hb, bd_ret]
    by_cases h2 : BefP l b
    · by_cases h3 : (regs.length : Int) = t.regs
      · rw [tb_t h2, tb_t (p := TakesP l t k order ∧ BefP l b ∧ (regs.length : Int) = t.regs) ⟨h, h2, h3⟩, if_pos rfl, show (((!true) || (!true)) || (ln regs != t.regs)) = false from by unfold ln; simp [h3], br_false]
        by_cases h4 : 0 ≤ turns ∧ turns ≤ 200
        · rw [show (decide (turns < 0) || decide (turns > 200)) = false from by simp; omega, br_false, leave_p h.lay h2 h3 h4, bd_ret, Out.on_go]
          rfl
        · have hc : (decide (turns < 0) || decide (turns > 200)) = true := by rw [Bool.or_eq_true, decide_eq_true_eq, decide_eq_true_eq]; omega
          rw [hc]; rfl
      · rw [tb_t h2, tb_f fun hh : TakesP l t k order ∧ BefP l b ∧ (regs.length : Int) = t.regs => h3 hh.2.2, show (((!true) || (!true)) || (ln regs != t.regs)) = true from by unfold ln; simpa using h3]
        rfl
    · rw [tb_f h2, tb_f fun hh : TakesP l t k order ∧ BefP l b ∧ (regs.length : Int) = t.regs => h2 hh.2.1]; rfl
  · rw [tb_f h, tb_f fun hh : TakesP l t k order ∧ BefP l b ∧ (regs.length : Int) = t.regs => h hh.1]
    unfold optC
    cases r with
    | none => simp only; rw [ck_yes trivial]; rfl
    | some y => rfl
theorem CheckTells_main (hf : l.Fine) (hk : KFine l k) (ho : order.length ≤ 9223372036854775807) (hb : b.length ≤ 9223372036854775807) {regs : List Int} (turns : Int) : roundelaylaw_CheckTells_m l t k order b regs turns = some true := by
  unfold roundelaylaw_CheckTells_m
  rw [pTakes2_s hf hk ho, bd_ret, Takes_s hf hk ho, bd_ret, beq_self_eq_true, Bool.not_true, br_false, enter_s hf hk ho hb, bd_ret, leave_s hf hk ho hb, bd_ret, before_s hb, bdG_some']
  by_cases h : TakesP l t k order
  · by_cases h2 : BefP l b
    · rw [tb_t h, tb_t h2, tb_t (p := TakesP l t k order ∧ BefP l b) ⟨h, h2⟩]
      rw [show ((!true) || (!(if (!(!true)) = true then true else false))) = false from rfl, br_false, if_pos rfl]
      rw [show (!(((entS (layK l t k order) b t.regs.toNat l.body.length, (0 : Int)) : List Int × Int).2 != 0)) = true from rfl, br_true, rEnter_s hf hk ho h.lay h2, bd_ret, bdG_t]
      have hR := (layK_ok h.lay).regs
      have hrr : (layK l t k order).regs = t.regs := rfl
      rw [show ((entS (layK l t k order) b t.regs.toNat l.body.length, (0 : Int)) : List Int × Int).1 = entS (layK l t k order) b t.regs.toNat l.body.length from rfl, numbers_self (by rw [entS_len]; omega), bd_ret]
      rw [show ((((entS (layK l t k order) b t.regs.toNat l.body.length, (0 : Int)) : List Int × Int).2 != 0) || (!true)) = false from rfl, br_false]
      by_cases h3 : (regs.length : Int) = t.regs
      · rw [show (ln regs != t.regs) = false from by unfold ln; simp [h3], br_false, tb_t (p := TakesP l t k order ∧ BefP l b ∧ (regs.length : Int) = t.regs) ⟨h, h2, h3⟩, if_pos rfl]
        by_cases h4 : 0 ≤ turns ∧ turns ≤ 200
        · rw [show (decide (turns < 0) || decide (turns > 200)) = false from by simp; omega, br_false, if_neg (by decide)]
          simp only [beq_self_eq_true, br_true, bdG_t, Bool.true_and]
          have hol := outs_len h.lay.loop
          rw [rLeave_s hf hk ho h.lay h2 h3 h4, bd_ret, numbers_self (by simp; omega), bd_ret]
        · have hc : (decide (turns < 0) || decide (turns > 200)) = true := by rw [Bool.or_eq_true, decide_eq_true_eq, decide_eq_true_eq]; omega
          rw [hc, br_true, if_pos rfl]; rfl
      · rw [show (ln regs != t.regs) = true from by unfold ln; simpa using h3, br_true, tb_f fun hh : TakesP l t k order ∧ BefP l b ∧ (regs.length : Int) = t.regs => h3 hh.2.2]
        rfl
    · rw [tb_t h, tb_f h2, tb_f fun hh : TakesP l t k order ∧ BefP l b => h2 hh.2, tb_f fun hh : TakesP l t k order ∧ BefP l b ∧ (regs.length : Int) = t.regs => h2 hh.2.1]
      rfl
  · rw [tb_f h, tb_f fun hh : TakesP l t k order ∧ BefP l b => h hh.1, tb_f fun hh : TakesP l t k order ∧ BefP l b ∧ (regs.length : Int) = t.regs => h hh.1]
    rfl
end
theorem CheckTells_true (l : Lp) (t : Tgt) (k : Krn) (order : List Int) (b : List (List Int)) (regs : List Int) (turns : Int) {w w' : World} {v1 v2 v3 v4 : Value} (hL : LpRep w v1 v2 v3 l) (hK : KrnRep w' v4 k) (hr3 : ∀ u ∈ order, InR u) (hl3 : order.length ≤ maxLen) (hB : RowsOk b) (hr5 : ∀ u ∈ regs, InR u) (hl5 : regs.length ≤ maxLen) (hr6 : InR turns) :
    roundelaylaw_CheckTells_m l t k order b regs turns = some true :=
  CheckTells_main hL.fine (kfine_of hL.fine hK) hl3 hB.len turns
end Go.Rd
end

section
namespace Go.Proofs.Ytaimbkndebaaiac
open Go.Rd
set_option linter.unusedVariables false
namespace TNum
theorem en31 : Go.Rd.Enters Try.prog 31 := ⟨Try.f31, Try.func31, by kernel_rfl, by kernel_rfl⟩
theorem en48 : Go.Rd.Enters Try.prog 48 := ⟨Try.f48, Try.func48, by kernel_rfl, by kernel_rfl⟩
end TNum
open TNum
set_option maxRecDepth 8000 in
theorem num_Class_w {op : Int} {r : Int} (w : World) (hm : num_Class_m op = some r)  : Calls Try.prog 89 #[.int .i64 op] w (fun e w' => e = .returned (.int .i64 r) ∧ Grow w w') := by
  unfold num_Class_m at hm
  have hk := Base.rfl (w := w)
  refine calls_of_WC (n := 9) (args := [.int .i64 op]) Try.func89 rfl rfl (Nat.le_of_ble_eq_true rfl) ?_ (Own.startK hk (Own.start w))
  refine WC.seq ?_
  refine WC.region ?_
  refine WL.q rfl rfl rfl (QV.assign rfl rfl) ?_
  refine WL.nil ?_
  refine WQ.then ?_
  refine WC.seq ?_
  refine WC.seq ?_
  refine WC.region ?_
  refine WL.q rfl rfl rfl (QV.move rfl rfl) ?_
  refine WL.nil ?_
  refine WQ.then ?_
  refine WC.block ?_
  refine WC.seq ?_
  refine WC.seq ?_
  refine WC.region ?_
  refine WL.q rfl rfl rfl (QV.eql rfl rfl rfl rfl) ?_
  refine WL.q rfl rfl rfl (QV.assign rfl rfl) ?_
  refine WL.nil ?_
  refine WQ.then ?_
  refine WC.cond rfl (fun h1 => ?_) (fun h1 => ?_)
  · skip
    have hm2 := br_t h1 hm; clear hm
    refine WC.skip ?_
    refine WQ.then ?_
    refine WC.cond rfl (fun h3 => ?_) (fun h3 => ?_)
    · skip
      have hm4 := br_t h3 hm2; clear hm2
      refine WC.seq ?_
      refine WC.region ?_
      refine WL.q rfl rfl rfl (QV.assign rfl rfl) ?_
      refine WL.nil ?_
      refine WQ.then ?_
      refine WC.ret ?_
      refine WQ.block_ret ?_
      refine WQ.then_ret ?_
      obtain rfl := (eq_of_some hm4).symm
      refine WQ.ret1 rfl rfl (fun w hw => ?_)
      exact ⟨rfl, Own.kgrow (fun _ x => x) hw⟩
    · skip
      have hm5 := br_f h3 hm2; clear hm2
      refine WC.seq ?_
      refine WC.region ?_
      refine WL.q rfl rfl rfl (QV.eql rfl rfl rfl rfl) ?_
      refine WL.q rfl rfl rfl (QV.assign rfl rfl) ?_
      refine WL.nil ?_
      refine WQ.then ?_
      refine WC.cond rfl (fun h6 => ?_) (fun h6 => ?_)
      · skip
        have hm7 := br_t h6 hm5; clear hm5
        refine WC.seq ?_
        refine WC.region ?_
        refine WL.q rfl rfl rfl (QV.assign rfl rfl) ?_
        refine WL.nil ?_
        refine WQ.then ?_
        refine WC.ret ?_
        refine WQ.block_ret ?_
        refine WQ.then_ret ?_
        obtain rfl := (eq_of_some hm7).symm
        refine WQ.ret1 rfl rfl (fun w hw => ?_)
        exact ⟨rfl, Own.kgrow (fun _ x => x) hw⟩
      · skip
        have hm8 := br_f h6 hm5; clear hm5
        refine WC.skip ?_
        refine WQ.block ?_
        refine WQ.then ?_
        refine WC.seq ?_
        refine WC.region ?_
        refine WL.q rfl rfl rfl (QV.assign rfl rfl) ?_
        refine WL.nil ?_
        refine WQ.then ?_
        refine WC.ret ?_
        obtain rfl := (eq_of_some hm8).symm
        refine WQ.ret1 rfl rfl (fun w hw => ?_)
        exact ⟨rfl, Own.kgrow (fun _ x => x) hw⟩
  · skip
    have hm9 := br_f h1 hm; clear hm
    refine WC.region ?_
    refine WL.q rfl rfl rfl (QV.eql rfl rfl rfl rfl) ?_
    refine WL.q rfl rfl rfl (QV.assign rfl rfl) ?_
    refine WL.nil ?_
    refine WQ.then ?_
    refine WC.cond rfl (fun h10 => ?_) (fun h10 => ?_)
    · skip
      have hm11 := br_t h10 hm9; clear hm9
      refine WC.seq ?_
      refine WC.region ?_
      refine WL.q rfl rfl rfl (QV.assign rfl rfl) ?_
      refine WL.nil ?_
      refine WQ.then ?_
      refine WC.ret ?_
      refine WQ.block_ret ?_
      refine WQ.then_ret ?_
      obtain rfl := (eq_of_some hm11).symm
      refine WQ.ret1 rfl rfl (fun w hw => ?_)
      exact ⟨rfl, Own.kgrow (fun _ x => x) hw⟩
    · skip
      have hm12 := br_f h10 hm9; clear hm9
      refine WC.seq ?_
      refine WC.region ?_
      refine WL.q rfl rfl rfl (QV.eql rfl rfl rfl rfl) ?_
      refine WL.q rfl rfl rfl (QV.assign rfl rfl) ?_
      refine WL.nil ?_
      refine WQ.then ?_
      refine WC.cond rfl (fun h13 => ?_) (fun h13 => ?_)
      · skip
        have hm14 := br_t h13 hm12; clear hm12
        refine WC.seq ?_
        refine WC.region ?_
        refine WL.q rfl rfl rfl (QV.assign rfl rfl) ?_
        refine WL.nil ?_
        refine WQ.then ?_
        refine WC.ret ?_
        refine WQ.block_ret ?_
        refine WQ.then_ret ?_
        obtain rfl := (eq_of_some hm14).symm
        refine WQ.ret1 rfl rfl (fun w hw => ?_)
        exact ⟨rfl, Own.kgrow (fun _ x => x) hw⟩
      · skip
        have hm15 := br_f h13 hm12; clear hm12
        refine WC.skip ?_
        refine WQ.block ?_
        refine WQ.then ?_
        refine WC.seq ?_
        refine WC.region ?_
        refine WL.q rfl rfl rfl (QV.assign rfl rfl) ?_
        refine WL.nil ?_
        refine WQ.then ?_
        refine WC.ret ?_
        obtain rfl := (eq_of_some hm15).symm
        refine WQ.ret1 rfl rfl (fun w hw => ?_)
        exact ⟨rfl, Own.kgrow (fun _ x => x) hw⟩

set_option maxRecDepth 8000 in
theorem roundelayref1_Class_w {op : Int} {r : Int} (w : World) (hm : roundelayref1_Class_m op = some r)  : Calls Try.prog 45 #[.int .i64 op] w (fun e w' => e = .returned (.int .i64 r) ∧ Grow w w') := by
  unfold roundelayref1_Class_m at hm
  have hk := Base.rfl (w := w)
  refine calls_of_WC (n := 11) (args := [.int .i64 op]) Try.func45 rfl rfl (Nat.le_of_ble_eq_true rfl) ?_ (Own.startK hk (Own.start w))
  refine WC.seq ?_
  refine WC.region ?_
  refine WL.q rfl rfl rfl (QV.assign rfl rfl) ?_
  refine WL.nil ?_
  refine WQ.then ?_
  refine WC.seq ?_
  refine WC.seq ?_
  refine WC.region ?_
  refine WL.q rfl rfl rfl (QV.move rfl rfl) ?_
  refine WL.q rfl rfl rfl (QV.eql rfl rfl rfl rfl) ?_
  refine WL.q rfl rfl rfl (QV.move rfl rfl) ?_
  refine WL.g rfl rfl (GuardIs.neg rfl rfl) (fun hG => QV.move rfl rfl) ?_
  refine WL.g rfl rfl (GuardIs.neg rfl rfl) (fun hG => QV.eql rfl hG rfl rfl) ?_
  refine WL.q rfl rfl rfl (QV.pickOr rfl rfl rfl (fun h => notF h)) ?_
  refine WL.nil ?_
  refine WQ.then ?_
  refine WC.cond rfl (fun h1 => ?_) (fun h1 => ?_)
  · skip
    have hm2 := br_t h1 hm; clear hm
    refine WC.seq ?_
    refine WC.region ?_
    refine WL.q rfl rfl rfl (QV.assign rfl rfl) ?_
    refine WL.nil ?_
    refine WQ.then ?_
    refine WC.ret ?_
    refine WQ.then_ret ?_
    obtain rfl := (eq_of_some hm2).symm
    refine WQ.ret1 rfl rfl (fun w hw => ?_)
    exact ⟨rfl, Own.kgrow (fun _ x => x) hw⟩
  · skip
    have hm3 := br_f h1 hm; clear hm
    refine WC.skip ?_
    refine WQ.then ?_
    refine WC.seq ?_
    refine WC.seq ?_
    refine WC.region ?_
    refine WL.q rfl rfl rfl (QV.move rfl rfl) ?_
    refine WL.q rfl rfl rfl (QV.eql rfl rfl rfl rfl) ?_
    refine WL.nil ?_
    refine WQ.then ?_
    refine WC.cond rfl (fun h4 => ?_) (fun h4 => ?_)
    · skip
      have hm5 := br_t h4 hm3; clear hm3
      refine WC.seq ?_
      refine WC.region ?_
      refine WL.q rfl rfl rfl (QV.assign rfl rfl) ?_
      refine WL.nil ?_
      refine WQ.then ?_
      refine WC.ret ?_
      refine WQ.then_ret ?_
      obtain rfl := (eq_of_some hm5).symm
      refine WQ.ret1 rfl rfl (fun w hw => ?_)
      exact ⟨rfl, Own.kgrow (fun _ x => x) hw⟩
    · skip
      have hm6 := br_f h4 hm3; clear hm3
      refine WC.skip ?_
      refine WQ.then ?_
      refine WC.seq ?_
      refine WC.region ?_
      refine WL.q rfl rfl rfl (QV.assign rfl rfl) ?_
      refine WL.nil ?_
      refine WQ.then ?_
      refine WC.ret ?_
      obtain rfl := (eq_of_some hm6).symm
      refine WQ.ret1 rfl rfl (fun w hw => ?_)
      exact ⟨rfl, Own.kgrow (fun _ x => x) hw⟩

set_option maxRecDepth 8000 in
theorem roundelayref1_Size_w {log : Int} {r : Int} (w : World) (hm : roundelayref1_Size_m log = some r)  : Calls Try.prog 48 #[.int .i64 log] w (fun e w' => e = .returned (.int .i64 r) ∧ Grow w w') := by
  unfold roundelayref1_Size_m at hm
  have hk := Base.rfl (w := w)
  refine calls_of_WC (n := 14) (args := [.int .i64 log]) Try.func48 rfl rfl (Nat.le_of_ble_eq_true rfl) ?_ (Own.startK hk (Own.start w))
  refine WC.seq ?_
  refine WC.region ?_
  refine WL.q rfl rfl rfl (QV.assign rfl rfl) ?_
  refine WL.nil ?_
  refine WQ.then ?_
  refine WC.seq ?_
  refine WC.region ?_
  refine WL.q rfl rfl rfl (QV.assign rfl rfl) ?_
  refine WL.nil ?_
  refine WQ.then ?_
  refine WC.seq ?_
  refine WC.seq ?_
  refine WC.region ?_
  refine WL.q rfl rfl rfl (QV.assign rfl rfl) ?_
  refine WL.nil ?_
  refine WQ.then ?_
  obtain ⟨o1, ho2, hm3⟩ := bd_some hm; clear hm; obtain ⟨n4, ho5⟩ := lp_some ho2
  refine WC.bloop2 (H2 := [kn noM w.heap.size w w]) (τ := [(0, (true, _))]) (fun (n3_1 : Int) (i4_1 : Int) => [(3, (true, .int .i64 n3_1)), (4, (true, .int .i64 i4_1))]) (fun (n3_1 : Int) (i4_1 : Int) => []) (fun (n3_1 : Int) (i4_1 : Int) (m : Nat) => iter (roundelayref1_Size_L0 log) m (n3_1, i4_1) = some o1) (fun (n3_1 : Int) (i4_1 : Int) => o1 = .go (n3_1, i4_1)) 1 0 n4 ho5 ⟨rfl, rfl, rfl, trivial⟩ (fun w hw => hw.pick [0] (by decide)) ?_ ?_
  · skip
    rintro n3_1 i4_1 rfl
    refine WQ.then ?_
    refine WC.seq ?_
    refine WC.region ?_
    refine WL.q rfl rfl rfl (QV.move rfl rfl) ?_
    refine WL.q rfl rfl rfl (QV.assign rfl rfl) ?_
    refine WL.nil ?_
    refine WQ.then ?_
    refine WC.ret ?_
    obtain rfl := (eq_of_some hm3).symm
    refine WQ.ret1 rfl rfl (fun w hw => ?_)
    exact ⟨rfl, Own.kgrow (fun _ x => x) hw⟩
  · skip
    rintro n3_1 i4_1 m6 hI7
    obtain ⟨m8, s9, rfl, hm10, hn11⟩ := iter_step hI7; clear hI7; unfold roundelayref1_Size_L0 at hm10; simp only at hm10
    refine WC.seq ?_
    refine WC.seq ?_
    refine WC.region ?_
    refine WL.q rfl rfl rfl (QV.move rfl rfl) ?_
    refine WL.q rfl rfl rfl (QV.move rfl rfl) ?_
    refine WL.q rfl rfl rfl (QV.lss rfl rfl rfl rfl) ?_
    refine WL.nil ?_
    refine WQ.then ?_
    refine WC.cond rfl (fun h12 => ?_) (fun h12 => ?_)
    · skip
      have hm13 := br_t h12 hm10; clear hm10
      refine WC.skip ?_
      refine WQ.then ?_
      refine WC.seq ?_
      refine WC.block ?_
      refine WC.region ?_
      refine WL.q rfl rfl rfl (QV.move rfl rfl) ?_
      refine WL.q rfl rfl rfl (QV.move rfl rfl) ?_
      obtain ⟨c14, hm15⟩ := ck_some hm13; clear hm13
      refine WL.q rfl rfl rfl (QV.add rfl rfl rfl rfl c14) ?_
      refine WL.q rfl rfl rfl (QV.assign rfl rfl) ?_
      refine WL.nil ?_
      refine WQ.block ?_
      refine WQ.then ?_
      refine WC.region ?_
      refine WL.q rfl rfl rfl (QV.move rfl rfl) ?_
      obtain ⟨c16, hm17⟩ := ck_some hm15; clear hm15
      refine WL.q rfl rfl rfl (QV.add rfl rfl rfl rfl c16) ?_
      refine WL.q rfl rfl rfl (QV.assign rfl rfl) ?_
      refine WL.nil ?_
      exact WQ.again2 (n3_1 + n3_1) (i4_1 + 1) m8 (up_next hm17 hn11) (Nat.lt_succ_self _) ⟨rfl, rfl, rfl, trivial⟩ (fun w hw => hw.pick [0] (by decide))
    · skip
      have hm18 := br_f h12 hm10; clear hm10
      refine WC.exit ?_
      refine WQ.then_exit ?_
      refine WQ.then_exit ?_
      refine WQ.block_exit ?_
      exact WQ.out2 n3_1 i4_1 (up_brk hm18 hn11) ⟨rfl, rfl, rfl, trivial⟩ (fun w hw => hw.pick [0] (by decide))

set_option maxRecDepth 8000 in
theorem roundelayref1_Rest_w {a : Int} {b : Int} {r : Int} (w : World) (hm : roundelayref1_Rest_m a b = some r)  : Calls Try.prog 31 #[.int .i64 a, .int .i64 b] w (fun e w' => e = .returned (.int .i64 r) ∧ Grow w w') := by
  unfold roundelayref1_Rest_m at hm
  have hk := Base.rfl (w := w)
  refine calls_of_WC (n := 15) (args := [.int .i64 a, .int .i64 b]) Try.func31 rfl rfl (Nat.le_of_ble_eq_true rfl) ?_ (Own.startK hk (Own.start w))
  refine WC.seq ?_
  refine WC.region ?_
  refine WL.q rfl rfl rfl (QV.assign rfl rfl) ?_
  refine WL.nil ?_
  refine WQ.then ?_
  refine WC.seq ?_
  refine WC.region ?_
  refine WL.q rfl rfl rfl (QV.move rfl rfl) ?_
  refine WL.q rfl rfl rfl (QV.move rfl rfl) ?_
  obtain ⟨c1, hm2⟩ := ck_some hm; clear hm
  refine WL.q rfl rfl rfl (QV.rem rfl rfl rfl rfl c1) ?_
  refine WL.q rfl rfl rfl (QV.assign rfl rfl) ?_
  refine WL.nil ?_
  refine WQ.then ?_
  refine WC.seq ?_
  refine WC.seq ?_
  refine WC.region ?_
  refine WL.q rfl rfl rfl (QV.move rfl rfl) ?_
  refine WL.q rfl rfl rfl (QV.lss rfl rfl rfl rfl) ?_
  refine WL.nil ?_
  refine WQ.then ?_
  refine WC.cond rfl (fun h3 => ?_) (fun h3 => ?_)
  · skip
    have hm4 := br_t h3 hm2; clear hm2
    refine WC.region ?_
    refine WL.q rfl rfl rfl (QV.move rfl rfl) ?_
    refine WL.q rfl rfl rfl (QV.move rfl rfl) ?_
    obtain ⟨c5, hm6⟩ := ck_some hm4; clear hm4
    refine WL.q rfl rfl rfl (QV.add rfl rfl rfl rfl c5) ?_
    refine WL.q rfl rfl rfl (QV.assign rfl rfl) ?_
    refine WL.nil ?_
    refine WQ.then ?_
    refine WC.seq ?_
    refine WC.region ?_
    refine WL.q rfl rfl rfl (QV.move rfl rfl) ?_
    refine WL.q rfl rfl rfl (QV.assign rfl rfl) ?_
    refine WL.nil ?_
    refine WQ.then ?_
    refine WC.ret ?_
    obtain rfl := (eq_of_some hm6).symm
    refine WQ.ret1 rfl rfl (fun w hw => ?_)
    exact ⟨rfl, Own.kgrow (fun _ x => x) hw⟩
  · skip
    have hm7 := br_f h3 hm2; clear hm2
    refine WC.skip ?_
    refine WQ.then ?_
    refine WC.seq ?_
    refine WC.region ?_
    refine WL.q rfl rfl rfl (QV.move rfl rfl) ?_
    refine WL.q rfl rfl rfl (QV.assign rfl rfl) ?_
    refine WL.nil ?_
    refine WQ.then ?_
    refine WC.ret ?_
    obtain rfl := (eq_of_some hm7).symm
    refine WQ.ret1 rfl rfl (fun w hw => ?_)
    exact ⟨rfl, Own.kgrow (fun _ x => x) hw⟩

end Go.Proofs.Ytaimbkndebaaiac
end
