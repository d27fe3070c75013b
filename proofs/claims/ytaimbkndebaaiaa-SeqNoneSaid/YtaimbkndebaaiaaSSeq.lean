/- Loops that run: what the models come to. -/
import Derived.Test.YtaimbkndebaaiaaSLoop
import Derived.Test.YtaimbkndebaaiaaMSeq
namespace Go.Rd
set_option linter.unusedVariables false
set_option linter.unusedSimpArgs false

/-! ### states that fit -/
def FitsP (l : Lp) (s : Sta) : Prop := LoopOk l ∧ s.bef.length = l.body.length ∧ s.mem.length = l.logs.length ∧ (∀ i, i < s.bef.length → (s.bef.getD i []).length = 3) ∧ (∀ i, i < s.mem.length → ((s.mem.getD i []).length : Int) = 2 ^ (l.logs.getD i 0).toNat)
theorem ele_rows (l : List (List Int)) (i : Nat) : ele l (i : Int) = l.getD i [] := rfl
theorem LoopOk.log {l : Lp} (h : LoopOk l) (i : Nat) (hi : i < l.logs.length) : 0 ≤ l.logs.getD i 0 ∧ l.logs.getD i 0 ≤ 5 := h.2.2.2.1 i (by omega)
theorem LoopOk.out {l : Lp} (h : LoopOk l) (i : Nat) (hi : i < l.outs.length) : 0 ≤ l.outs.getD i 0 ∧ l.outs.getD i 0 < l.body.length := ⟨(h.2.2.2.2.1 i (by omega)).1, (h.2.2.2.2.1 i (by omega)).2.1⟩
theorem LoopOk.stm {l : Lp} (h : LoopOk l) (i : Nat) (hi : i < l.body.length) : StmtOk l.logs.length l.body.length i (l.body.getD i Stm.zero) := h.2.2.2.2.2 i (by omega)
theorem neB {a b : Int} : (a != b) = !tb (a = b) := by
  have : (!(a != b)) = tb (a = b) := tb_eq (by simp)
  rw [← this, Bool.not_not]
theorem rng_len {xss : List (List Int)} (h : RowsOk xss) (i : Nat) : (xss.getD i []).length ≤ 9223372036854775807 := by
  have := getD_all (p := fun x : List Int => x.length ≤ maxLen) h.lens (d := []) (by simp) i
  rwa [maxLen_eq] at this
theorem Fits_s (l : Lp) (s : Sta) (hf : l.Fine) (hb : RowsOk s.bef) (hm : RowsOk s.mem) : loop_Fits_m l s = some (tb (FitsP l s)) := by
  have hbl := hb.len; have hml := hm.len
  have hlb := hf.lbody; have hll := hf.llogs
  rw [maxLen_eq] at hbl hml hlb hll
  unfold loop_Fits_m
  rw [May_s l hf, bd_ret]
  by_cases h0 : LoopOk l ∧ s.bef.length = l.body.length ∧ s.mem.length = l.logs.length
  · rw [show (((!tb (LoopOk l)) || (ln s.bef != ln l.body)) || (ln s.mem != ln l.logs)) = false from by
      rw [tb_t h0.1]; unfold ln; simp only [Bool.not_true, Bool.false_or, Bool.or_eq_false_iff, bne_eq_false_iff_eq]; omega, br_false]
    rcases lp_all (f := loop_Fits_L0 s) (n := s.bef.length) (p := fun i => (s.bef.getD i []).length = 3) (fun i hi _ => by
        have e : loop_Fits_L0 s i = br (!tb ((s.bef.getD i []).length = 3)) (some (.ret false)) (some (.next ((i : Int) + 1))) := by
          unfold loop_Fits_L0
          rw [br_T (by unfold ln; omega), ck_IX (by omega) (by unfold ln; omega), ck_IR (by omega) (by omega), ele_rows, neB]
          rw [tb_congr (show ln (s.bef.getD i []) = 3 ↔ (s.bef.getD i []).length = 3 from by unfold ln; omega)]
        rw [e]
        exact ⟨fun h => by rw [tb_t h]; rfl, fun h => by rw [tb_f h]; rfl⟩) (by unfold loop_Fits_L0; exact br_F (by unfold ln; omega)) with ⟨h1, e1⟩ | ⟨h1, e1⟩
    · rw [e1, bd_ret, Out.on_go]
      rcases lp_all (f := loop_Fits_L2 l s) (n := s.mem.length) (p := fun i => ((s.mem.getD i []).length : Int) = 2 ^ (l.logs.getD i 0).toNat) (fun i hi _ => by
          have hlg := h0.1.log i (by omega)
          have e : loop_Fits_L2 l s i = br (!tb (((s.mem.getD i []).length : Int) = 2 ^ (l.logs.getD i 0).toNat)) (some (.ret false)) (some (.next ((i : Int) + 1))) := by
            unfold loop_Fits_L2
            rw [br_T (by unfold ln; omega), ck_IX (by omega) (by unfold ln; omega), ck_IX (by omega) (by unfold ln; omega), ele_int, ck_yes hlg.1, ck_IR (by omega) (by omega), ele_rows, neB]
            have hs : shlD 1 (l.logs.getD i 0) = 2 ^ (l.logs.getD i 0).toNat := shl_one _ hlg.1 hlg.2
            rw [hs]
            rfl
          rw [e]
          exact ⟨fun h => by rw [tb_t h]; rfl, fun h => by rw [tb_f h]; rfl⟩) (by unfold loop_Fits_L2; exact br_F (by unfold ln; omega)) with ⟨h2, e2⟩ | ⟨h2, e2⟩
      · rw [e2, bd_ret, Out.on_go, tb_t ⟨h0.1, h0.2.1, h0.2.2, h1, h2⟩]
      · rw [e2, bd_ret, Out.on_ret, tb_f fun h => h2 h.2.2.2.2]
    · rw [e1, bd_ret, Out.on_ret, tb_f fun h => h1 h.2.2.2.1]
  · have : (((!tb (LoopOk l)) || (ln s.bef != ln l.body)) || (ln s.mem != ln l.logs)) = true := by
      cases hc : (((!tb (LoopOk l)) || (ln s.bef != ln l.body)) || (ln s.mem != ln l.logs)) with
      | true => rfl
      | false =>
        unfold ln at hc
        simp only [Bool.or_eq_false_iff, bne_eq_false_iff_eq, Bool.not_eq_false'] at hc
        exact absurd ⟨tb_iff.1 hc.1.1, by omega, by omega⟩ h0
    rw [this, br_true, tb_f fun h => h0 ⟨h.1, h.2.1, h.2.2.1⟩]

/-! ### what a loop comes to -/
def refV (past : List (List Int)) (now : List Int) (x : Rf) : Int := if x.bk = 0 then ele now x.st else ele (ele past (x.bk - 1)) x.st
def stepV (logs : List Int) (past : List (List Int)) (t : Int) (p : List Int × List (List Int)) (s : Stm) : List Int × List (List Int) :=
  if s.op = 1 then (p.1 ++ [s.n], p.2)
  else if s.op = 2 then (p.1 ++ [t], p.2)
  else if s.op = 3 then (p.1 ++ [ele (ele p.2 s.ar) (idx s.sp s.pl t (ele logs s.ar))], p.2)
  else if s.op = 4 then (p.1 ++ [refV past p.1 s.a], updG p.2 s.ar (idx s.sp s.pl t (ele logs s.ar)) (refV past p.1 s.a))
  else (p.1 ++ [opV (s.op - 10) (refV past p.1 s.a) (refV past p.1 s.b)], p.2)
def turnV (l : Lp) (past mem : List (List Int)) (t : Int) : List Int × List (List Int) := l.body.foldl (stepV l.logs past t) ([], mem)
def colV (bef : List (List Int)) (j : Nat) : List Int := bef.map fun b => b.getD j 0
/-- What all turns so far came to, the newest first, and ahead of the first one; the words. -/
def runV (l : Lp) (s : Sta) : Nat → List (List Int) × List (List Int)
  | 0 => ([colV s.bef 0, colV s.bef 1, colV s.bef 2], s.mem)
  | t + 1 => ((turnV l (runV l s t).1 (runV l s t).2 t).1 :: (runV l s t).1, (turnV l (runV l s t).1 (runV l s t).2 t).2)
/-- What a loop tells at its end. -/
def outsV (l : Lp) (s : Sta) (t : Nat) : List Int := l.outs.map fun k => ele (ele (runV l s t).1 0) k

/-- Words as they should be. -/
structure MemOk (l : Lp) (m : List (List Int)) : Prop where
  len : m.length = l.logs.length
  row : ∀ i : Nat, i < m.length → ((m.getD i []).length : Int) = 2 ^ (l.logs.getD i 0).toNat
  rng : ∀ r ∈ m, ∀ x ∈ r, InR x
structure RowOk (l : Lp) (r : List Int) : Prop where
  len : r.length = l.body.length
  rng : ∀ x ∈ r, InR x
theorem ele_rng {r : List Int} (h : ∀ x ∈ r, InR x) (i : Int) : InR (ele r i) := getD_all h (by unfold InR; decide) i.toNat
theorem eles_rng {m : List (List Int)} (h : ∀ r ∈ m, ∀ x ∈ r, InR x) (i j : Int) : InR (ele (ele m i) j) := ele_rng (getD_all (p := fun r : List Int => ∀ x ∈ r, InR x) h (fun x hx => by cases hx) i.toNat) j
theorem mem_upd {α : Type} {l : List α} {i : Int} {z x : α} (h : x ∈ upd l i z) : x ∈ l ∨ x = z := List.mem_or_eq_of_mem_set h
theorem ele_mem {m : List (List Int)} {i : Int} {x : Int} (h : x ∈ ele m i) : ∃ r ∈ m, x ∈ r := by
  unfold ele at h
  by_cases hi : i.toNat < m.length
  · rw [List.getD_eq_getElem?_getD, List.getElem?_eq_getElem hi] at h
    exact ⟨_, List.getElem_mem hi, h⟩
  · rw [List.getD_eq_getElem?_getD, List.getElem?_eq_none (by omega)] at h
    cases h
theorem MemOk.updG {l : Lp} {m : List (List Int)} (h : MemOk l m) (i j z : Int) (hz : InR z) : MemOk l (updG m i j z) := by
  refine ⟨by unfold Rd.updG; rw [upd_length]; exact h.len, fun k hk => ?_, fun r hr x hx => ?_⟩
  · unfold Rd.updG at hk ⊢
    rw [upd_length] at hk
    rw [getD_upd]
    split
    · rename_i hh
      rw [upd_length, ele_getD, hh.1]; exact h.row k hk
    · exact h.row k hk
  · unfold Rd.updG at hr
    rcases mem_upd hr with hr | rfl
    · exact h.rng r hr x hx
    · rcases mem_upd hx with hx | rfl
      · obtain ⟨r, hr, hx⟩ := ele_mem hx
        exact h.rng r hr x hx
      · exact hz
theorem refV_rng {past : List (List Int)} {now : List Int} (hp : ∀ r ∈ past, ∀ x ∈ r, InR x) (hn : ∀ x ∈ now, InR x) (x : Rf) : InR (refV past now x) := by
  unfold refV
  split
  · exact ele_rng hn _
  · exact eles_rng hp _ _
theorem opV_rng (op a b : Int) : InR (opV op a b) := opV_bd op a b
theorem snoc_rng {r : List Int} {v : Int} (h : ∀ x ∈ r, InR x) (hv : InR v) : ∀ x ∈ r ++ [v], InR x := fun x hx => by
  rcases List.mem_append.1 hx with h' | h'
  · exact h x h'
  · simp at h'; subst h'; exact hv
theorem stepV_ok {l : Lp} (hf : l.Fine) {past : List (List Int)} {t : Int} (ht : InR t) {p : List Int × List (List Int)} (hp : ∀ r ∈ past, ∀ x ∈ r, InR x) (h1 : ∀ x ∈ p.1, InR x) (h2 : MemOk l p.2) {s : Stm} (hs : s.InR) :
    (stepV l.logs past t p s).1.length = p.1.length + 1 ∧ (∀ x ∈ (stepV l.logs past t p s).1, InR x) ∧ MemOk l (stepV l.logs past t p s).2 := by
  unfold stepV
  split
  · exact ⟨by simp, snoc_rng h1 hs.2.2.2.2.2.2.2.2, h2⟩
  split
  · exact ⟨by simp, snoc_rng h1 ht, h2⟩
  split
  · exact ⟨by simp, snoc_rng h1 (eles_rng h2.rng _ _), h2⟩
  split
  · exact ⟨by simp, snoc_rng h1 (refV_rng hp h1 _), h2.updG _ _ _ (refV_rng hp h1 _)⟩
  · exact ⟨by simp, snoc_rng h1 (opV_rng _ _ _), h2⟩
/-- The statements that are done: i of them. -/
def partV (l : Lp) (past mem : List (List Int)) (t : Int) (i : Nat) : List Int × List (List Int) := (l.body.take i).foldl (stepV l.logs past t) ([], mem)
theorem partV_next {l : Lp} {past mem : List (List Int)} {t : Int} {i : Nat} (h : i < l.body.length) : partV l past mem t (i + 1) = stepV l.logs past t (partV l past mem t i) (ele l.body i) := by
  unfold partV
  rw [take_next h, List.foldl_append]
  rfl
theorem partV_ok {l : Lp} (hf : l.Fine) {past mem : List (List Int)} {t : Int} (ht : InR t) (hp : ∀ r ∈ past, ∀ x ∈ r, InR x) (hm : MemOk l mem) : ∀ i, i ≤ l.body.length → (partV l past mem t i).1.length = i ∧ (∀ x ∈ (partV l past mem t i).1, InR x) ∧ MemOk l (partV l past mem t i).2
  | 0, _ => ⟨rfl, fun x hx => (by cases hx), hm⟩
  | i + 1, h => by
    obtain ⟨h1, h2, h3⟩ := partV_ok hf ht hp hm i (by omega)
    rw [partV_next (by omega)]
    have := stepV_ok hf ht hp h2 h3 (ele_all (p := Stm.InR) hf.rbody (i := i) (by omega))
    exact ⟨by rw [this.1, h1], this.2⟩
theorem turnV_part (l : Lp) (past mem : List (List Int)) (t : Int) : turnV l past mem t = partV l past mem t l.body.length := by unfold turnV partV; rw [List.take_length]

/-! ### the program's turn -/
theorem ref_m_s {l : Lp} {past : List (List Int)} {now : List Int} {x : Rf} {k : Nat} (hx : RefOk l.body.length k x) (hn : now.length = k) (hk : k ≤ l.body.length) (hb : l.body.length ≤ 9223372036854775807) (h3 : 3 ≤ past.length) (hp : ∀ r ∈ past, r.length = l.body.length) : seq_runner_ref_m past x now = some (refV past now x) := by
  obtain ⟨a1, a2, a3, a4, a5⟩ := hx
  unfold seq_runner_ref_m refV
  rw [br_eq]
  simp only [beq_iff_eq]
  by_cases h : x.bk = 0
  · rw [if_pos h, if_pos h, ck_IX a3 (by unfold ln; have := a4 h; omega)]
  · have hr : (ele past (x.bk - 1)).length = l.body.length := by
      have := ele_all (p := fun r : List Int => r.length = l.body.length) hp (i := (x.bk - 1).toNat) (by omega)
      rwa [show (((x.bk - 1).toNat : Nat) : Int) = x.bk - 1 from by omega] at this
    rw [if_neg h, if_neg h, ck_IR (by omega) (by omega), ck_IX (by omega) (by unfold ln; omega), ck_IX a3 (by unfold ln; have := a5 h; omega)]
theorem idx_lt {step plus t log : Int} (h0 : 0 ≤ log) (h5 : log ≤ 5) : 0 ≤ idx step plus t log ∧ idx step plus t log < 2 ^ log.toNat := by
  have hp := two_pow_5 log.toNat (by omega)
  unfold idx
  split
  · exact ⟨Int.emod_nonneg _ (by omega), Int.emod_lt_of_pos _ (by omega)⟩
  · omega
theorem word_ix {l : Lp} (hl : LoopOk l) {m : List (List Int)} (hm : MemOk l m) {s : Stm} (hw : WordOk l.logs.length s) (t : Int) :
    IX s.ar (ln m) ∧ IX s.ar (ln l.logs) ∧ IX (idx s.sp s.pl t (ele l.logs s.ar)) (ln (ele m s.ar)) := by
  have hml := hm.len
  obtain ⟨w1, w2, _⟩ := hw
  have e : ((s.ar.toNat : Nat) : Int) = s.ar := by omega
  have hlg := hl.log s.ar.toNat (by omega)
  have hr := hm.row s.ar.toNat (by omega)
  have hi := idx_lt (step := s.sp) (plus := s.pl) (t := t) hlg.1 hlg.2
  refine ⟨⟨w1, by unfold ln; omega⟩, ⟨w1, by unfold ln; omega⟩, hi.1, ?_⟩
  have : ln (ele m s.ar) = 2 ^ (l.logs.getD s.ar.toNat 0).toNat := hr
  rw [this]
  exact hi.2
theorem AL8 {n : Nat} (h : n ≤ 100000) : AL n 8 := ⟨by rw [maxLen_eq]; omega, by omega⟩
theorem AL24 {n : Nat} (h : n ≤ 100000) : AL n 24 := ⟨by rw [maxLen_eq]; omega, by omega⟩
theorem turn_step {l : Lp} (hl : LoopOk l) (hf : l.Fine) {past mem : List (List Int)} {t : Int} (ht : InR t) (hp : ∀ r ∈ past, RowOk l r) (h3 : 3 ≤ past.length) (hm : MemOk l mem) (i : Nat) (hi : i < l.body.length) :
    seq_runner_turn_L0 l.logs l.body past t ((partV l past mem t i).1, (partV l past mem t i).2, i) = some (.next ((partV l past mem t (i + 1)).1, (partV l past mem t (i + 1)).2, ((i + 1 : Nat) : Int))) := by
  obtain ⟨p1, p2, p3⟩ := partV_ok hf ht (fun r hr => (hp r hr).rng) hm i (by omega)
  rw [partV_next hi]
  generalize hP : partV l past mem t i = p at p1 p2 p3
  have hn16 := hl.2.2.1
  have hso := hl.stm i hi
  rw [show l.body.getD i Stm.zero = ele l.body (i : Int) from rfl] at hso
  generalize hs : ele l.body (i : Int) = s at hso
  obtain ⟨q1, q2, q3⟩ := hso
  have hal : ∀ v : Int, AL (p.1 ++ [v]).length 8 := fun v => AL8 (by simp; omega)
  have ra : (s.op = 4 ∨ s.op > 10) → seq_runner_ref_m past s.a p.1 = some (refV past p.1 s.a) := fun h => ref_m_s (q1 h) p1 (by omega) (by omega) h3 (fun r hr => (hp r hr).len)
  have rb : s.op > 10 → seq_runner_ref_m past s.b p.1 = some (refV past p.1 s.b) := fun h => ref_m_s (q2 h) p1 (by omega) (by omega) h3 (fun r hr => (hp r hr).len)
  have hix : IX (i : Int) (ln l.body) := ⟨by omega, by unfold ln; omega⟩
  have hsc : ((i + 1 : Nat) : Int) = (i : Int) + 1 := rfl
  unfold seq_runner_turn_L0 stepV
  simp only
  rw [br_T (by unfold ln; omega), ck_yes hix, hs, hsc]
  by_cases o1 : s.op = 1
  · rw [show (s.op == 1) = true from by simpa using o1, br_true, ck_yes (hal _), ck_IR (by omega) (by omega), if_pos o1]
  rw [show (s.op == 1) = false from by simpa using o1, br_false, if_neg o1]
  by_cases o2 : s.op = 2
  · rw [show (s.op == 2) = true from by simpa using o2, br_true, ck_yes (hal _), ck_IR (by omega) (by omega), if_pos o2]
  rw [show (s.op == 2) = false from by simpa using o2, br_false, if_neg o2]
  by_cases o3 : s.op = 3
  · have hw : WordOk l.logs.length s := by rcases q3 with h | h | h | h | h <;> first | exact h.2.2.1 | omega
    obtain ⟨w1, w2, w3⟩ := word_ix hl p3 hw t
    rw [show (s.op == 3) = true from by simpa using o3, br_true, ck_yes w1, ck_yes w2, num_Index_s, bd_ret, ck_yes w3, ck_yes (hal _), ck_IR (by omega) (by omega), if_pos o3]
  rw [show (s.op == 3) = false from by simpa using o3, br_false, if_neg o3]
  by_cases o4 : s.op = 4
  · have hw : WordOk l.logs.length s := by rcases q3 with h | h | h | h | h <;> first | exact h.2.2.1 | omega
    obtain ⟨w1, w2, w3⟩ := word_ix hl p3 hw t
    rw [show (s.op == 4) = true from by simpa using o4, br_true, ra (.inl o4), bd_ret, ck_yes w1, ck_yes w2, num_Index_s, bd_ret, ck_yes w3, ck_yes (hal _), ck_IR (by omega) (by omega), if_pos o4]
  have h10 : 11 ≤ s.op ∧ s.op ≤ 18 := by omega
  rw [show (s.op == 4) = false from by simpa using o4, br_false, if_neg o4, ck_IR (by omega) (by omega), ra (.inr (by omega)), bd_ret, rb (by omega), bd_ret, num_Op_s, bd_ret, ck_yes (hal _), ck_IR (by omega) (by omega)]
theorem turn_loop {l : Lp} (hl : LoopOk l) (hf : l.Fine) {past mem : List (List Int)} {t : Int} (ht : InR t) (hp : ∀ r ∈ past, RowOk l r) (h3 : 3 ≤ past.length) (hm : MemOk l mem) : ∀ (m i : Nat), i + m = l.body.length →
    lp (seq_runner_turn_L0 l.logs l.body past t) ((partV l past mem t i).1, (partV l past mem t i).2, (i : Int)) = some (.go ((turnV l past mem t).1, (turnV l past mem t).2, (l.body.length : Int)))
  | 0, i, h => by
    have hi : i = l.body.length := by omega
    subst hi
    rw [turnV_part]
    refine lp_brk ?_
    unfold seq_runner_turn_L0
    exact br_F (by unfold ln; omega)
  | m + 1, i, h => lp_step (turn_step hl hf ht hp h3 hm i (by omega)) (turn_loop hl hf ht hp h3 hm m (i + 1) (by omega))
theorem turn_m_s {l : Lp} (hl : LoopOk l) (hf : l.Fine) {past mem : List (List Int)} {t : Int} (ht : InR t) (hp : ∀ r ∈ past, RowOk l r) (h3 : past.length = 3) (hm : MemOk l mem) :
    seq_runner_turn_m l.logs l.body l.outs past mem t = some ((turnV l past mem t).1 :: past.take 2, (turnV l past mem t).2) := by
  unfold seq_runner_turn_m
  have h := turn_loop hl hf ht hp (by omega) hm l.body.length 0 (by omega)
  rw [show partV l past mem t 0 = ([], mem) from rfl, show (((0 : Nat)) : Int) = 0 from rfl] at h
  rw [h, bd_ret, Out.on_go]
  simp only
  rw [ck_SX (by omega) (by omega) (by unfold ln; omega), ck_yes (AL24 (by simp [Rd.sub]; omega))]
  rfl

/-! ### the program's run -/
theorem Copy_s {m : List (List Int)} (h1 : m.length ≤ 100) (h2 : ∀ r ∈ m, r.length ≤ 100000) : seq_Copy_m m = some m := by
  have e : lp (seq_Copy_L0 m) ([], 0) = some (.go ((List.range m.length).map (fun i : Nat => ele m (i : Int)), (m.length : Int))) := by
    refine lp_build (fun i hi => ?_) ?_
    · have hr := ele_all (p := fun r : List Int => r.length ≤ 100000) h2 hi
      unfold seq_Copy_L0 Clone_m
      simp only
      rw [br_T (by unfold ln; omega), ck_IX (by omega) (by unfold ln; omega), ck_yes (AL8 hr), bd_ret, ck_yes (AL24 (by simp; omega)), ck_IR (by omega) (by omega)]
    · unfold seq_Copy_L0
      exact br_F (by unfold ln; omega)
  unfold seq_Copy_m
  rw [e, bd_ret, Out.on_go, range_map]
theorem rCopy_s {m : List (List Int)} (h1 : m.length ≤ 100) (h2 : ∀ r ∈ m, r.length ≤ 100000) : roundelayref3_Copy_m m = some m := by
  have e : lp (roundelayref3_Copy_L0 m) ([], 0) = some (.go ((List.range m.length).map (fun i : Nat => ele m (i : Int)), (m.length : Int))) := by
    refine lp_build (fun i hi => ?_) ?_
    · have hr := ele_all (p := fun r : List Int => r.length ≤ 100000) h2 hi
      unfold roundelayref3_Copy_L0
      simp only [List.nil_append]
      rw [br_T (by unfold ln; omega), ck_IX (by omega) (by unfold ln; omega), ck_yes (AL8 hr), ck_yes (AL24 (by simp; omega)), ck_IR (by omega) (by omega)]
    · unfold roundelayref3_Copy_L0
      exact br_F (by unfold ln; omega)
  unfold roundelayref3_Copy_m
  rw [e, bd_ret, Out.on_go, range_map]
structure StaOk (l : Lp) (s : Sta) : Prop where
  loop : LoopOk l
  len : s.bef.length = l.body.length
  bef : ∀ i : Nat, i < s.bef.length → (s.bef.getD i []).length = 3
  rbef : ∀ r ∈ s.bef, ∀ x ∈ r, InR x
  mem : MemOk l s.mem
theorem FitsP.ok {l : Lp} {s : Sta} (h : FitsP l s) (hb : RowsOk s.bef) (hm : RowsOk s.mem) : StaOk l s := ⟨h.1, h.2.1, h.2.2.2.1, hb.rng, ⟨h.2.2.1, h.2.2.2.2, hm.rng⟩⟩
theorem MemOk.small {l : Lp} (hl : LoopOk l) {m : List (List Int)} (h : MemOk l m) : m.length ≤ 100 ∧ ∀ r ∈ m, r.length ≤ 100000 := by
  have := h.len; have := hl.1
  refine ⟨by omega, fun r hr => ?_⟩
  obtain ⟨i, hi, rfl⟩ := List.getElem_of_mem hr
  have h1 := h.row i hi
  have h2 := hl.log i (by omega)
  have h3 := two_pow_5 (l.logs.getD i 0).toNat (by omega)
  rw [List.getD_eq_getElem?_getD, List.getElem?_eq_getElem hi] at h1
  simp only [Option.getD_some] at h1
  omega
theorem col_ok {l : Lp} {s : Sta} (h : StaOk l s) (j : Nat) : RowOk l (colV s.bef j) := by
  refine ⟨by unfold colV; rw [List.length_map, h.len], fun x hx => ?_⟩
  obtain ⟨r, hr, rfl⟩ := List.mem_map.1 hx
  exact getD_all (h.rbef r hr) (by unfold InR; decide) j
theorem run_ok {l : Lp} (hf : l.Fine) {s : Sta} (h : StaOk l s) : ∀ t : Nat, t ≤ 100000 → (∀ r ∈ (runV l s t).1, RowOk l r) ∧ MemOk l (runV l s t).2 ∧ (runV l s t).1.length = t + 3
  | 0, _ => ⟨fun r hr => by
      simp only [runV, List.mem_cons, List.not_mem_nil, or_false] at hr
      rcases hr with rfl | rfl | rfl <;> exact col_ok h _, h.mem, rfl⟩
  | t + 1, ht => by
    obtain ⟨h1, h2, h3⟩ := run_ok hf h t (by omega)
    have hp := partV_ok hf (t := (t : Int)) (by unfold InR; omega) (fun r hr => (h1 r hr).rng) h2 l.body.length (Nat.le_refl _)
    rw [← turnV_part] at hp
    refine ⟨fun r hr => ?_, hp.2.2, by simp [runV, h3]⟩
    rcases List.mem_cons.1 hr with rfl | hr
    · exact ⟨hp.1, hp.2.1⟩
    · exact h1 r hr
theorem ref_take {l : Lp} {past : List (List Int)} {now : List Int} {x : Rf} {k : Int} (hx : RefOk l.body.length k x) : refV (past.take 3) now x = refV past now x := by
  obtain ⟨a1, a2, _⟩ := hx
  unfold refV
  split
  · rfl
  · congr 1
    unfold ele
    rw [List.getD_eq_getElem?_getD, List.getElem?_take, if_pos (by omega), List.getD_eq_getElem?_getD]
theorem part_take {l : Lp} (hl : LoopOk l) (past mem : List (List Int)) (t : Int) : ∀ i, i ≤ l.body.length → partV l (past.take 3) mem t i = partV l past mem t i
  | 0, _ => rfl
  | i + 1, h => by
    rw [partV_next (by omega), partV_next (by omega), part_take hl past mem t i (by omega)]
    obtain ⟨q1, q2, q3⟩ := hl.stm i (by omega)
    rw [show l.body.getD i Stm.zero = ele l.body (i : Int) from rfl] at q1 q2 q3
    unfold stepV
    split
    · rfl
    split
    · rfl
    split
    · rfl
    split
    · rw [ref_take (q1 (.inl ‹_›))]
    · have : (ele l.body (i : Int)).op > 10 := by rcases q3 with h | h | h | h | h <;> omega
      rw [ref_take (q1 (.inr this)), ref_take (q2 this)]
theorem turn_take {l : Lp} (hl : LoopOk l) (past mem : List (List Int)) (t : Int) : turnV l (past.take 3) mem t = turnV l past mem t := by rw [turnV_part, turnV_part, part_take hl _ _ _ _ (Nat.le_refl _)]
theorem outs_len {l : Lp} (h : LoopOk l) : l.outs.length ≤ 16 := by
  have h5 := h.2.2.2.2.1
  have key : ∀ i : Nat, i < l.outs.length → (i : Int) ≤ l.outs.getD i 0 := by
    intro i
    induction i with
    | zero => intro hi; exact (h5 0 (by omega)).1
    | succ i ih =>
      intro hi
      have h1 := ih (by omega)
      have h2 := (h5 (i + 1) (by omega)).2.2 i rfl
      omega
  rcases Nat.lt_or_ge 16 l.outs.length with hlt | hge
  · have h1 := key 16 hlt
    have h2 := (h5 16 (by omega)).2.1
    have := h.2.2.1
    omega
  · exact hge
theorem Run_s {l : Lp} {s : Sta} (hf : l.Fine) (h : StaOk l s) (hfit : loop_Fits_m l s = some true) (n : Nat) (hn : n ≤ 200) : seq_Run_m l s n = some (⟨outsV l s n, (runV l s n).2⟩, 0) := by
  have hsm := h.mem.small h.loop
  have hb16 := h.loop.2.2.1
  have e1 : lp (seq_Run_L1 s) ([], 0) = some (.go ((runV l s 0).1.take 3, 3)) := by
    refine lp_build (n := 3) (h := fun j => colV s.bef j) (fun j hj => ?_) ?_
    · have inner : lp (seq_Run_L3 s j) ([], 0) = some (.go (colV s.bef j, (s.bef.length : Int))) := by
        have e := lp_build (f := seq_Run_L3 s j) (n := s.bef.length) (h := fun i : Nat => (ele s.bef (i : Int)).getD j 0) (fun i hi => ?_) ?_
        · rw [range_map' s.bef (fun b => b.getD j 0)] at e
          exact e
        · have h3 := h.bef i hi
          have hl := h.len
          rw [show s.bef.getD i [] = ele s.bef (i : Int) from rfl] at h3
          unfold seq_Run_L3
          simp only
          rw [br_T (by unfold ln; omega), ck_IX (by omega) (by unfold ln; omega), ck_IX (by omega) (by unfold ln; omega), ck_yes (AL8 (by simp; omega)), ck_IR (by omega) (by omega)]
          rfl
        · unfold seq_Run_L3
          exact br_F (by unfold ln; omega)
      unfold seq_Run_L1
      simp only
      rw [br_T (by omega), inner, bd_ret, Out.on_go]
      simp only
      rw [ck_yes (AL24 (by simp; omega)), ck_IR (by omega) (by omega)]
    · unfold seq_Run_L1
      exact br_F (by omega)
  have key : ∀ m i : Nat, i + m = n → lp (seq_Run_L5 l n) ((runV l s i).2, (runV l s i).1.take 3, (i : Int)) = some (.go ((runV l s n).2, (runV l s n).1.take 3, (n : Int))) := by
    intro m
    induction m with
    | zero =>
      intro i hi
      have : i = n := by omega
      subst this
      refine lp_brk ?_
      unfold seq_Run_L5
      exact br_F (by omega)
    | succ m ih =>
      intro i hi
      refine lp_step ?_ (ih (i + 1) (by omega))
      obtain ⟨h1, h2, h3⟩ := run_ok hf h i (by omega)
      unfold seq_Run_L5
      simp only
      rw [br_T (by omega), turn_m_s h.loop hf (by unfold InR; omega) (fun r hr => h1 r (List.mem_of_mem_take hr)) (by rw [List.length_take]; omega) h2, bd_ret, ck_IR (by omega) (by omega), turn_take h.loop]
      simp only [List.take_take, runV]
      rfl
  have e2 := key n 0 (by omega)
  rw [show ((0 : Nat) : Int) = 0 from rfl, show (runV l s 0).2 = s.mem from rfl] at e2
  obtain ⟨h1, h2, h3⟩ := run_ok hf h n (by omega)
  have e0 : ele ((runV l s n).1.take 3) 0 = ele (runV l s n).1 0 := by
    unfold ele
    rw [List.getD_eq_getElem?_getD, List.getElem?_take, if_pos (by decide), List.getD_eq_getElem?_getD]
  have hlen0 : (ele (runV l s n).1 0).length = l.body.length := by
    have := ele_all (p := fun r : List Int => r.length = l.body.length) (fun r hr => (h1 r hr).len) (i := 0) (by omega)
    exact this
  have e3 : lp (seq_Run_L7 l ((runV l s n).1.take 3)) ([], 0) = some (.go (outsV l s n, (l.outs.length : Int))) := by
    have e := lp_build (f := seq_Run_L7 l ((runV l s n).1.take 3)) (n := l.outs.length) (h := fun i : Nat => ele (ele (runV l s n).1 0) (ele l.outs (i : Int))) (fun i hi => ?_) ?_
    · rw [range_map' l.outs (fun k => ele (ele (runV l s n).1 0) k)] at e
      exact e
    · have ho := h.loop.out i hi
      rw [show l.outs.getD i 0 = ele l.outs (i : Int) from rfl] at ho
      have h16 := outs_len h.loop
      unfold seq_Run_L7
      simp only
      rw [br_T (by unfold ln; omega), ck_IX (by omega) (by unfold ln; omega), ck_IX (by omega) (by unfold ln; rw [List.length_take]; omega), e0, ck_IX ho.1 (by unfold ln; rw [hlen0]; exact ho.2), ck_yes (AL8 (by simp; omega)), ck_IR (by omega) (by omega)]
    · unfold seq_Run_L7
      exact br_F (by unfold ln; omega)
  unfold seq_Run_m
  rw [hfit, bd_ret, Bool.not_true, br_false, show (decide ((n : Int) < 0) || decide ((n : Int) > 200)) = false from by simp; omega, br_false, Copy_s hsm.1 hsm.2, bd_ret, e1, bd_ret, Out.on_go]
  simp only
  rw [e2, bd_ret, Out.on_go]
  simp only
  rw [e3, bd_ret, Out.on_go]
end Go.Rd
