/- Texts that the law stands on: part 4. -/
import Derived.Test.YtaimbkndebaaiabZLcheckSound3
import Derived.KernelRfl
import Derived.Test.YtaimbkndebaaiabProg
section
namespace Go.Rd
set_option linter.unusedVariables false
set_option linter.unusedSimpArgs false
def layT (y : LayD) : LayT := (y.logs, y.body, y.outs, y.pace, y.regs, y.time, y.ready, y.places)
theorem timeK_s {t : Tgt} {k : Krn} {o : Opr} {logs : List Int} (hm : KMayP t k logs) (h : OneP t k o logs) : kernel_Time_m k o = some (timeK k o) := by
  have hb := opr_bd hm h
  unfold timeK at *
  have e := Int.mul_comm o.stage k.pace
  have hs := h.1
  unfold SlotP at hs
  unfold kernel_Time_m
  rw [ck_IR (by omega) (by omega), ck_IR (by omega) (by omega)]
  congr 1
  omega
theorem pLayout_s {l : Lp} (hf : l.Fine) {t : Tgt} {k : Krn} {order : List Int} (hk : KFine l k) (ho : order.length ≤ 9223372036854775807) : check_layout_m l t k order = some (if tb (LayP l t k order) = true then (some (layT (layK l t k order)), true) else (none, false)) := by
  unfold check_layout_m
  rw [May_s l hf, bd_ret, pMay_s hk, bdG_some']
  by_cases h : LoopOk l ∧ KMayP t k l.logs ∧ k.ops.length = l.body.length ∧ order.length = l.body.length
  · obtain ⟨h1, h2, h3, h4⟩ := h
    have hn := h1.2.2.1
    rw [tb_t h1, tb_t h2, show ((((!true) || (!(if (!(!true)) = true then true else false))) || ((ln k.ops) != (ln l.body))) || ((ln order) != (ln l.body))) = false from by unfold ln; simp [h3, h4], br_false]
    have key : ∀ d s : Nat, s + d = l.body.length → (∀ j, j < s → OrdP l k order j) → ∀ m : List (Int × Bool), (∀ v, mget m v false = true ↔ ∃ j, j < s ∧ ele order (j : Int) = v) →
        ((∀ j, j < l.body.length → OrdP l k order j) ∧ ∃ m', lp (check_layout_L0 l t k order) ((List.range s).map (fun i => (offK t k order i).place), (List.range s).map (fun i => (offK t k order i).ready), (List.range s).map (fun i => (offK t k order i).time), m, (s : Int)) =
          some (.go ((List.range l.body.length).map (fun i => (offK t k order i).place), (List.range l.body.length).map (fun i => (offK t k order i).ready), (List.range l.body.length).map (fun i => (offK t k order i).time), m', (l.body.length : Int)))) ∨
        (¬ (∀ j, j < l.body.length → OrdP l k order j) ∧ lp (check_layout_L0 l t k order) ((List.range s).map (fun i => (offK t k order i).place), (List.range s).map (fun i => (offK t k order i).ready), (List.range s).map (fun i => (offK t k order i).time), m, (s : Int)) = some (.ret (none, false))) := by
      intro d
      induction d with
      | zero =>
        intro s hs hp m hm
        have : s = l.body.length := by omega
        subst this
        exact .inl ⟨hp, m, lp_brk (by unfold check_layout_L0; exact br_F (by unfold ln; omega))⟩
      | succ d ih =>
        intro s hs hp m hm
        have hs' : s < l.body.length := by omega
        have hix : IX (s : Int) (ln order) := ⟨by omega, by unfold ln; omega⟩
        by_cases c1 : 0 ≤ ele order (s : Int) ∧ ele order (s : Int) < l.body.length
        · have hone := LayP.opr h2 h3 c1
          have hob := opr_bd h2 hone
          have hw := waitV_bd t (oprAt k order s).op
          have hixo : IX (ele order (s : Int)) (ln k.ops) := ⟨c1.1, by unfold ln; omega⟩
          by_cases c2 : ∀ i, i < s → ele order (i : Int) ≠ ele order (s : Int)
          · have hmf : mget m (ele order (s : Int)) false = false := by
              cases hh : mget m (ele order (s : Int)) false with
              | false => rfl
              | true =>
                obtain ⟨j, hj, he⟩ := (hm _).1 hh
                exact absurd he (c2 j hj)
            have hb : (!([(stmO (oprAt k order s)).op, (stmO (oprAt k order s)).a.st, (stmO (oprAt k order s)).a.bk, (stmO (oprAt k order s)).b.st, (stmO (oprAt k order s)).b.bk, (stmO (oprAt k order s)).ar, (stmO (oprAt k order s)).sp, (stmO (oprAt k order s)).pl, (stmO (oprAt k order s)).n] == [(ele l.body (s : Int)).op, 0, 0, 0, 0, (ele l.body (s : Int)).ar, (ele l.body (s : Int)).sp, (ele l.body (s : Int)).pl, (ele l.body (s : Int)).n])) = !tb (SameO (oprAt k order s) (ele l.body (s : Int))) := by
              congr 1
              exact tb_eq (by unfold SameO stmO; simp)
            have hstep : check_layout_L0 l t k order ((List.range s).map (fun i => (offK t k order i).place), (List.range s).map (fun i => (offK t k order i).ready), (List.range s).map (fun i => (offK t k order i).time), m, (s : Int)) = br (!tb (SameO (oprAt k order s) (ele l.body (s : Int)))) (some (.ret (none, false))) (some (.next ((List.range (s + 1)).map (fun i => (offK t k order i).place), (List.range (s + 1)).map (fun i => (offK t k order i).ready), (List.range (s + 1)).map (fun i => (offK t k order i).time), mput m (ele order (s : Int)) true, ((s + 1 : Nat) : Int)))) := by
              unfold check_layout_L0
              simp only
              rw [br_T (by unfold ln; omega), ck_yes hix, show ((decide (ele order (s : Int) < 0) || decide (ele order (s : Int) ≥ ln k.ops)) || mget m (ele order (s : Int)) false) = false from by rw [hmf]; unfold ln; simp; omega, br_false, ck_yes hixo, ck_IX (by omega) (by unfold ln; omega)]
              rw [show ele k.ops (ele order (s : Int)) = oprAt k order s from rfl, show kernel_Stmt_m (oprAt k order s) = some (stmO (oprAt k order s)) from rfl, bd_ret, hb, timeK_s h2 hone]
              simp only [bd_ret]
              rw [ck_yes (AL8 (by simp; omega)), target_Wait_s, bd_ret, ck_IR (by omega) (by omega), ck_yes (AL8 (by simp; omega)), ck_IR (by omega) (by omega), ck_yes (AL8 (by simp; omega)), ck_IR (by omega) (by omega)]
              rw [show timeK k (oprAt k order s) = (fun i => (offK t k order i).time) s from rfl, show (fun i => (offK t k order i).time) s + waitV t (oprAt k order s).op = (fun i => (offK t k order i).ready) s from rfl, show (oprAt k order s).dest + (oprAt k order s).stage = (fun i => (offK t k order i).place) s from rfl, rm_succ, rm_succ, rm_succ]
              rfl
            by_cases c3 : SameO (oprAt k order s) (ele l.body (s : Int))
            · rw [tb_t c3, Bool.not_true, br_false] at hstep
              have hp' : ∀ j, j < s + 1 → OrdP l k order j := fun j hj => by
                by_cases e : j = s
                · subst e; exact ⟨c1, c2, c3⟩
                · exact hp j (by omega)
              rcases ih (s + 1) (by omega) hp' (mput m (ele order (s : Int)) true) (fun v => by
                rw [mget_mput]
                by_cases e : ele order (s : Int) = v
                · rw [if_pos e]; exact ⟨fun _ => ⟨s, by omega, e⟩, fun _ => rfl⟩
                · rw [if_neg e, hm]
                  constructor
                  · rintro ⟨j, hj, he⟩; exact ⟨j, by omega, he⟩
                  · rintro ⟨j, hj, he⟩
                    by_cases e2 : j = s
                    · subst e2; exact absurd he e
                    · exact ⟨j, by omega, he⟩) with ⟨q1, m', q2⟩ | ⟨q1, q2⟩
              · exact .inl ⟨q1, m', lp_step hstep q2⟩
              · exact .inr ⟨q1, lp_step hstep q2⟩
            · rw [tb_f c3] at hstep
              exact .inr ⟨fun h => c3 (h s hs').2.2, lp_ret hstep⟩
          · have hmt : mget m (ele order (s : Int)) false = true := by
              refine (hm _).2 ?_
              refine Classical.byContradiction fun hh => c2 fun i hi he => hh ⟨i, hi, he⟩
            refine .inr ⟨fun h => c2 (h s hs').2.1, lp_ret ?_⟩
            unfold check_layout_L0
            simp only
            rw [br_T (by unfold ln; omega), ck_yes hix, hmt, Bool.or_true, br_true]
        · refine .inr ⟨fun h => c1 (h s hs').1, lp_ret ?_⟩
          unfold check_layout_L0
          simp only
          rw [br_T (by unfold ln; omega), ck_yes hix, show ((decide (ele order (s : Int) < 0) || decide (ele order (s : Int) ≥ ln k.ops)) || mget m (ele order (s : Int)) false) = true from by
            unfold ln
            rw [Bool.or_eq_true, Bool.or_eq_true, decide_eq_true_eq, decide_eq_true_eq]; omega, br_true]
    rcases key l.body.length 0 (by omega) (fun j hj => absurd hj (Nat.not_lt_zero _)) [] (fun v => ⟨fun h => (by cases h), fun ⟨j, hj, _⟩ => absurd hj (Nat.not_lt_zero _)⟩) with ⟨q1, m', e⟩ | ⟨q1, e⟩
    · rw [show lp (check_layout_L0 l t k order) ([], [], [], ([] : List (Int × Bool)), 0) = _ from e, bd_ret, Out.on_go, tb_t (p := LayP l t k order) ⟨h1, h2.tgt, h2, h3, h4, q1⟩]
      rfl
    · rw [show lp (check_layout_L0 l t k order) ([], [], [], ([] : List (Int × Bool)), 0) = _ from e, bd_ret, Out.on_ret, tb_f fun h : LayP l t k order => q1 h.ord]
      rfl
  · rw [tb_f fun hl : LayP l t k order => h ⟨hl.loop, hl.may, hl.n, hl.no⟩]
    by_cases h1 : LoopOk l
    · by_cases h2 : KMayP t k l.logs
      · rw [tb_t h1, tb_t h2, show ((((!true) || (!(if (!(!true)) = true then true else false))) || ((ln k.ops) != (ln l.body))) || ((ln order) != (ln l.body))) = true from by
          unfold ln
          by_cases h3 : k.ops.length = l.body.length
          · have h4 : ¬ order.length = l.body.length := fun h4 => h ⟨h1, h2, h3, h4⟩
            simp; omega
          · simp; omega, br_true]
        rfl
      · rw [tb_t h1, tb_f h2]; rfl
    · rw [tb_f h1]; rfl
section
variable {l : Lp} {t : Tgt} {k : Krn} {order : List Int}
def NamesAll (l : Lp) (t : Tgt) (k : Krn) (order : List Int) : Prop := ∀ s, s < l.body.length → ∀ i, i < (usesL (ele l.body (s : Int))).length → NameP l t k order s i
theorem named_s (h : LayP l t k order) : check_named_m l t k order (layK l t k order).pace (layK l t k order).regs (layK l t k order).places = some (tb (NamesAll l t k order)) := by
  have hy := layK_ok h
  have hn := h.loop.2.2.1
  have hR := hy.regs
  have hlp := hy.lp
  have hbl : (layK l t k order).body.length = l.body.length := rfl
  have hno := h.no; have hnn := h.n
  unfold check_named_m
  have X := lp_det2 (f := check_named_L0 l t k order (layK l t k order).places) (ρ := Bool) (fun s => (s : Int)) l.body.length (fun s => ∀ i, i < (usesL (ele l.body (s : Int))).length → NameP l t k order s i) (fun _ => false) (fun s hs _ => by
    have hor := h.ord s hs
    have ho := opr_bd h.may (LayP.opr h.may h.n hor.1)
    have hlen := usesL_len (ele l.body (s : Int))
    unfold check_named_L0
    rw [br_T (by unfold ln; omega), ck_IX (by omega) (by unfold ln; omega), ck_IX (by omega) (by unfold ln; omega), ck_IX hor.1.1 (by unfold ln; rw [hnn]; exact hor.1.2), Uses_s, bd_ret]
    rcases lp_det2 (f := check_named_L2 t k order (layK l t k order).places s (usesL (ele l.body (s : Int)))) (ρ := Bool) (fun i => (i : Int)) (usesL (ele l.body (s : Int))).length (fun i => NameP l t k order s i) (fun _ => false) (fun i hi _ => by
        have hu := layK_us h s hs _ (ele_mem' hi)
        obtain ⟨a, ha⟩ := Int.eq_ofNat_of_zero_le hu.1
        have ha' : a < l.body.length := by have := hu.2.1; omega
        have pa := hy.pl a ha'
        unfold check_named_L2
        rw [br_T (by unfold ln; omega), ck_IX (by omega) (by unfold ln; omega), ck_IX (by omega) (by omega), ha, ck_IX (by omega) (by unfold ln; omega), ck_IR (by omega) (by omega)]
        rw [show ele k.ops (ele order (s : Int)) = oprAt k order s from rfl, ck_IR (by omega) (by omega), eRest_s (by show 1 ≤ (layK l t k order).regs; omega) (by show (layK l t k order).regs ≤ 128; omega), bd_ret]
        have hname : ele ([(oprAt k order s).a, (oprAt k order s).b] : List Int) (i : Int) = nameO (oprAt k order s) i := by
          obtain c | c : i = 0 ∨ i = 1 := by omega
          all_goals subst c; rfl
        have hnp : (ele ([(oprAt k order s).a, (oprAt k order s).b] : List Int) (i : Int) != (ele (layK l t k order).places (a : Int) - (ele (usesL (ele l.body (s : Int))) (i : Int)).bk - (oprAt k order s).stage) % t.regs) = !tb (NameP l t k order s i) := by
          unfold NameP
          rw [hname, ha, neB]
        rw [hnp]
        exact ⟨fun h => by rw [tb_t h, Bool.not_true, br_false, ck_IR (by omega) (by omega)]; rfl, fun h => by rw [tb_f h, Bool.not_false, br_true]⟩) (by unfold check_named_L2; exact br_F (by unfold ln; omega)) with ⟨q1, e⟩ | ⟨i, q1, q2, _, e⟩
    · rw [show lp (check_named_L2 t k order (layK l t k order).places s (usesL (ele l.body (s : Int)))) 0 = _ from e, bd_ret, Out.on_go, ck_IR (by omega) (by omega)]
      exact ⟨fun _ => rfl, fun h => absurd q1 h⟩
    · rw [show lp (check_named_L2 t k order (layK l t k order).places s (usesL (ele l.body (s : Int)))) 0 = _ from e, bd_ret, Out.on_ret]
      exact ⟨fun h => absurd (h i q1) q2, fun _ => rfl⟩) (by unfold check_named_L0; exact br_F (by unfold ln; omega))
  rcases X with ⟨q1, e⟩ | ⟨s, q1, q2, _, e⟩
  · rw [show lp (check_named_L0 l t k order (layK l t k order).places) 0 = _ from e, bd_ret, Out.on_go, tb_t (p := NamesAll l t k order) q1]
  · rw [show lp (check_named_L0 l t k order (layK l t k order).places) 0 = _ from e, bd_ret, Out.on_ret, tb_f fun h : NamesAll l t k order => q2 (h s q1)]
end
end Go.Rd
end

section
namespace Go.Rd
set_option linter.unusedVariables false
section
variable {l : Lp} {t : Tgt} {k : Krn} {order : List Int}
theorem pTakes_s (hf : l.Fine) (hk : KFine l k) (ho : order.length ≤ 9223372036854775807) : ∃ r, check_takes_m l t k order = some (r, tb (TakesP l t k order)) ∧ (TakesP l t k order → r = some (layT (layK l t k order))) := by
  unfold check_takes_m
  rw [pLayout_s hf hk ho, bd_ret]
  by_cases h : LayP l t k order
  · rw [tb_t h, if_pos rfl]
    show ∃ r, (optC (some (layT (layK l t k order))) _ _) = _ ∧ _
    unfold optC
    simp only
    have hn := named_s h
    rw [show (!(!((some (layT (layK l t k order)), true) : Option LayT × Bool).2)) = true from rfl, bdG_t, show check_named_m l t k order (layT (layK l t k order)).2.2.2.1 (layT (layK l t k order)).2.2.2.2.1 (layT (layK l t k order)).2.2.2.2.2.2.2 = _ from hn, bd_ret]
    by_cases hN : NamesAll l t k order
    · rw [tb_t hN, show ((!((some (layT (layK l t k order)), true) : Option LayT × Bool).2) || (!true)) = false from rfl, br_false]
      obtain ⟨E, e1, e2, e3, e4, e5⟩ := edges_both h.loop hf h.tgt
      have hy := layK_ok h
      have hp := h.may.pace
      have hnn := h.loop.2.2.1
      have hlt := hy.lt
      have hbl : (layK l t k order).body.length = l.body.length := rfl
      rw [e1, bd_ret]
      rcases lp_det2 (f := check_takes_L0 k (layT (layK l t k order)) (E, 0)) (ρ := Option LayT × Bool) (fun i => (i : Int)) E.length (fun i => TEdgeP (layK l t k order) (ele E (i : Int))) (fun _ => (none, false)) (fun i hi _ => by
          have hin := ((e4 _).1 (ele_mem' hi)).in h.loop
          obtain ⟨a, ha⟩ := Int.eq_ofNat_of_zero_le hin.to.1
          obtain ⟨b, hb⟩ := Int.eq_ofNat_of_zero_le hin.fr.1
          have ha' : a < l.body.length := by have := hin.to.2; omega
          have hb' : b < l.body.length := by have := hin.fr.2; omega
          have ta := hy.tm a ha'; have tb_ := hy.tm b hb'
          have hbk := hin.bk; have hwt := hin.wt
          have m1 := mul_le (a := (ele E (i : Int)).bk) (A := 32) (b := k.pace) (B := 200) (by omega) (by omega) (by omega) (by omega)
          have e : check_takes_L0 k (layT (layK l t k order)) (E, 0) i = br (!tb (TEdgeP (layK l t k order) (ele E (i : Int)))) (some (.ret (none, false))) (some (.next ((i : Int) + 1))) := by
            unfold check_takes_L0
            simp only
            rw [show (layT (layK l t k order)).2.2.2.2.2.1 = (layK l t k order).time from rfl]
            rw [br_T (by unfold ln; omega), ck_IX (by omega) (by unfold ln; omega), ha, hb, ck_IX (by omega) (by unfold ln; omega), ck_IR (by omega) (by omega), ck_IR (by omega) (by omega), ck_IX (by omega) (by unfold ln; omega), ck_IR (by omega) (by omega), ck_IR (by omega) (by omega)]
            congr 1
            have : (!decide (ele (layK l t k order).time (a : Int) + (ele E (i : Int)).bk * k.pace < ele (layK l t k order).time (b : Int) + (ele E (i : Int)).wt)) = tb (TEdgeP (layK l t k order) (ele E (i : Int))) := tb_eq (by
              unfold TEdgeP
              rw [ha, hb, show (layK l t k order).pace = k.pace from rfl]
              simp)
            rw [← this, Bool.not_not]
          rw [e]
          exact ⟨fun h => by rw [tb_t h]; rfl, fun h => by rw [tb_f h]; rfl⟩) (by unfold check_takes_L0; exact br_F (by show ¬ ((E.length : Int) < ln E); unfold ln; omega)) with ⟨q1, w1⟩ | ⟨i, q1, q2, _, w1⟩
      · rw [show lp (check_takes_L0 k (layT (layK l t k order)) (E, 0)) 0 = _ from w1, bd_ret, Out.on_go]
        have X := lp_det2 (f := check_takes_L2 l (layT (layK l t k order))) (ρ := Option LayT × Bool) (fun a => (natL a, (a : Int))) l.body.length (fun a => ∀ m : Nat, m < l.body.length → ApartP (layK l t k order) a m) (fun _ => (none, false)) (fun a ha _ => by
          unfold check_takes_L2
          simp only
          rw [br_T (by unfold ln; omega), show natL a ++ [(a : Int)] = natL (a + 1) from rm_succ (g := fun i : Nat => (i : Int)), ck_yes (AL8 (by rw [natL_len]; omega))]
          rcases lp_det2 (f := check_takes_L4 l (layT (layK l t k order)) a) (ρ := Option LayT × Bool) (fun i => (i : Int)) l.body.length (fun m => ApartP (layK l t k order) a m) (fun _ => (none, false)) (fun m hm _ => by
              have hap := apart_s hy ha hm
              unfold check_takes_L4
              rw [br_T (by unfold ln; omega), show keep_Layout_Apart_m (layT (layK l t k order)).2.1 (layT (layK l t k order)).2.2.1 (layT (layK l t k order)).2.2.2.1 (layT (layK l t k order)).2.2.2.2.1 (layT (layK l t k order)).2.2.2.2.2.1 (layT (layK l t k order)).2.2.2.2.2.2.1 (layT (layK l t k order)).2.2.2.2.2.2.2 a m = _ from hap, bd_ret]
              exact ⟨fun h => by rw [tb_t h, Bool.not_true, br_false, ck_IR (by omega) (by omega)]; rfl, fun h => by rw [tb_f h, Bool.not_false, br_true]⟩) (by unfold check_takes_L4; exact br_F (by unfold ln; omega)) with ⟨w1, e⟩ | ⟨m, w1, w2, _, e⟩
          · rw [show lp (check_takes_L4 l (layT (layK l t k order)) a) 0 = _ from e, bd_ret, Out.on_go, ck_IR (by omega) (by omega)]
            exact ⟨fun _ => rfl, fun h => absurd w1 h⟩
          · rw [show lp (check_takes_L4 l (layT (layK l t k order)) a) 0 = _ from e, bd_ret, Out.on_ret]
            exact ⟨fun h => absurd (h m w1) w2, fun _ => rfl⟩) (by unfold check_takes_L2; exact br_F (by unfold ln; omega))
        rcases X with ⟨q3, w2⟩ | ⟨a, q3, q4, _, w2⟩
        · rw [show lp (check_takes_L2 l (layT (layK l t k order))) ([], 0) = _ from w2, bd_ret, Out.on_go]
          simp only
          have hfs := firsts_s hy (L := natL l.body.length) (fun x hx => by have := natL_mem hx; omega) (by rw [natL_len]; omega)
          rw [show keep_Layout_Firsts_m (layT (layK l t k order)).1 (layT (layK l t k order)).2.1 (layT (layK l t k order)).2.2.1 (layT (layK l t k order)).2.2.2.1 (layT (layK l t k order)).2.2.2.2.1 (layT (layK l t k order)).2.2.2.2.2.2.2 (natL l.body.length) = _ from hfs, bd_ret]
          refine ⟨_, congrArg some (Prod.ext rfl ?_), fun _ => rfl⟩
          exact tb_congr ⟨fun hh => ⟨h, (all_edges e4).1 q1, hN, fun a m ha hm => q3 a ha m hm, hh⟩, fun hh => hh.firsts⟩
        · rw [show lp (check_takes_L2 l (layT (layK l t k order))) ([], 0) = _ from w2, bd_ret, Out.on_ret]
          have hnt : ¬ TakesP l t k order := fun hh => q4 fun m hm => hh.apart a m q3 hm
          exact ⟨none, by rw [tb_f hnt], fun hh => absurd hh hnt⟩
      · rw [show lp (check_takes_L0 k (layT (layK l t k order)) (E, 0)) 0 = _ from w1, bd_ret, Out.on_ret]
        have hnt : ¬ TakesP l t k order := fun hh => q2 (hh.edge _ ((e4 _).1 (ele_mem' q1)))
        exact ⟨none, by rw [tb_f hnt], fun hh => absurd hh hnt⟩
    · have hnt : ¬ TakesP l t k order := fun hh => hN hh.name
      rw [tb_f hN, show ((!((some (layT (layK l t k order)), true) : Option LayT × Bool).2) || (!false)) = true from rfl, br_true]
      exact ⟨none, by rw [tb_f hnt], fun hh => absurd hh hnt⟩
  · have hnt : ¬ TakesP l t k order := fun hh => h hh.lay
    rw [tb_f h, if_neg (by decide)]
    refine ⟨none, ?_, fun hh => absurd hh hnt⟩
    rw [tb_f hnt]
    unfold optC
    simp only
    rw [ck_yes trivial, ck_yes (by decide)]
theorem pTakes2_s (hf : l.Fine) (hk : KFine l k) (ho : order.length ≤ 9223372036854775807) : check_Takes_m l t k order = some (tb (TakesP l t k order)) := by
  obtain ⟨r, e, hr⟩ := pTakes_s (t := t) hf hk ho
  unfold check_Takes_m
  rw [e, bd_ret]
  by_cases h : TakesP l t k order
  · rw [hr h]; rfl
  · rw [tb_f h]
    unfold optC
    cases r with
    | none => simp only; rw [ck_yes trivial]
    | some y => rfl
end
end Go.Rd
end

section
namespace Go.Rd
set_option linter.unusedVariables false
noncomputable def roundelaylaw_CheckSound_m (l : Lp) (t : Tgt) (k_ : Krn) (order : List Int) (s : Sta) (turns : Int) : Option (Bool) :=
 bd (check_Takes_m l t k_ order) fun x5 =>
 br (!x5) (
 bd (check_Takes_m (Lp.mk [] [(Stm.mk 2 (Rf.mk 0 0) (Rf.mk 0 0) 0 0 0 0)] [0]) (Tgt.mk 1 1 1 1 1 1 2) (Krn.mk 1 1 [(Opr.mk 0 0 2 0 0 0 0 0 0 0)]) [0]) fun x16 =>
 some x16) (
 bd (roundelayref10_Layout_m l t k_ order) fun x20 =>
 br (!x20.2) (
 some false) (
 bdG (!((decide (turns < 0)) || (decide (turns > 200)))) (roundelayref2_Fits_m l s) fun x27 =>
 bdG (!(((decide (turns < 0)) || (decide (turns > 200))) || (!x27))) (roundelaylaw_work_m k_ turns) fun x30 =>
 br ((((decide (turns < 0)) || (decide (turns > 200))) || (!x27)) || x30) (
 some true) (
 bd (roundelaylaw_does_m l t k_ order s turns) fun x36 =>
 some x36)))
end Go.Rd
end

section
namespace Go.Rd
set_option linter.unusedVariables false
theorem lpO_fine' {l : Lp} (hf : l.Fine) {o : Opr} (ho : InR o.op ∧ InR o.ar ∧ InR o.sp ∧ InR o.pl ∧ InR o.n) : (lpO l.logs o).Fine := by
  have h0 : InR 0 := by unfold InR; omega
  have h2 : InR 2 := by unfold InR; omega
  refine ⟨hf.rlogs, fun u hu => ?_, fun u hu => (by cases hu), hf.llogs, by show 2 ≤ maxLen; rw [maxLen_eq]; omega, by show 0 ≤ maxLen; omega⟩
  have hu' : u = turnS ∨ u = stmO o := by
    rcases List.mem_cons.1 hu with h | h
    · exact .inl h
    · exact .inr (List.mem_singleton.1 h)
  rcases hu' with rfl | rfl
  · exact ⟨h2, h0, h0, h0, h0, h0, h0, h0, h0⟩
  · exact ⟨ho.1, h0, h0, h0, h0, ho.2.1, ho.2.2.1, ho.2.2.2.1, ho.2.2.2.2⟩
theorem kfine_of {l : Lp} (hf : l.Fine) {k : Krn} {w : World} {v : Value} (hK : KrnRep w v k) : KFine l k := fun i hi => by
  have ho := hK.rops _ (ele_mem' hi)
  unfold Opr.InRo at ho
  exact lpO_fine' hf ⟨ho _ (by simp), ho _ (by simp), ho _ (by simp), ho _ (by simp), ho _ (by simp)⟩
end Go.Rd
end

section
namespace Go.Rd
set_option linter.unusedVariables false
section
variable {l : Lp} {t : Tgt} {k : Krn} {order : List Int} {s : Sta}
theorem known_takes : TakesP ⟨[], [⟨2, ⟨0, 0⟩, ⟨0, 0⟩, 0, 0, 0, 0⟩], [0]⟩ ⟨1, 1, 1, 1, 1, 1, 2⟩ ⟨1, 1, [⟨0, 0, 2, 0, 0, 0, 0, 0, 0, 0⟩]⟩ [0] := by
  have hz : Rf.isZero ⟨0, 0⟩ := ⟨rfl, rfl⟩
  have hl : LoopOk ⟨[], [⟨2, ⟨0, 0⟩, ⟨0, 0⟩, 0, 0, 0, 0⟩], [0]⟩ := by
    refine ⟨by decide, by decide, by decide, fun j hj => ?_, fun j hj => ?_, fun j hj => ?_⟩
    · have hj : (j : Int) < 0 := hj
      omega
    · have hj : (j : Int) < 1 := hj
      obtain rfl : j = 0 := by omega
      exact ⟨by decide, by decide, fun m hm => by omega⟩
    · have hj : (j : Int) < 1 := hj
      obtain rfl : j = 0 := by omega
      show StmtOk _ _ _ ⟨2, ⟨0, 0⟩, ⟨0, 0⟩, 0, 0, 0, 0⟩
      refine ⟨fun hh => ?_, fun hh => ?_, .inr (.inl ⟨rfl, rfl, ⟨rfl, rfl, rfl⟩, hz, hz⟩)⟩
      · rcases hh with hh | hh
        · exact absurd hh (by decide)
        · exact absurd hh (by decide)
      · exact absurd hh (by decide)
  have ht : tgtOk ⟨1, 1, 1, 1, 1, 1, 2⟩ = true := by decide
  have hl2 : LoopOk (lpO [] ⟨0, 0, 2, 0, 0, 0, 0, 0, 0, 0⟩) := by
    refine ⟨by decide, by decide, by decide, fun j hj => ?_, fun j hj => ?_, fun j hj => ?_⟩
    · have hj : (j : Int) < 0 := hj
      omega
    · have hj : (j : Int) < 0 := hj
      omega
    · have hj : (j : Int) < 2 := hj
      have hj' : j = 0 ∨ j = 1 := by omega
      have : StmtOk 0 2 j ⟨2, ⟨0, 0⟩, ⟨0, 0⟩, 0, 0, 0, 0⟩ := by
        refine ⟨fun hh => ?_, fun hh => ?_, .inr (.inl ⟨rfl, rfl, ⟨rfl, rfl, rfl⟩, hz, hz⟩)⟩
        · rcases hh with hh | hh
          · exact absurd hh (by decide)
          · exact absurd hh (by decide)
        · exact absurd hh (by decide)
      rcases hj' with rfl | rfl
      · exact this
      · exact this
  have hL : LayP ⟨[], [⟨2, ⟨0, 0⟩, ⟨0, 0⟩, 0, 0, 0, 0⟩], [0]⟩ ⟨1, 1, 1, 1, 1, 1, 2⟩ ⟨1, 1, [⟨0, 0, 2, 0, 0, 0, 0, 0, 0, 0⟩]⟩ [0] := by
    refine ⟨hl, ht, ⟨ht, by decide, by decide, by decide, fun i hi => ?_, fun i hi => ?_⟩, rfl, rfl, fun i hi => ?_⟩
    · have hi : i < 1 := hi
      obtain rfl : i = 0 := by omega
      refine ⟨(show SlotP ⟨1, 1, [⟨0, 0, 2, 0, 0, 0, 0, 0, 0, 0⟩]⟩ ⟨0, 0, 2, 0, 0, 0, 0, 0, 0, 0⟩ by unfold SlotP; decide), ⟨by decide, by decide, by decide, by decide, by decide, by decide, fun _ => rfl, fun _ => rfl⟩, hl2⟩
    · have hi : i < 1 := hi
      obtain rfl : i = 0 := by omega
      have := cntO_le ⟨1, 1, [⟨0, 0, 2, 0, 0, 0, 0, 0, 0, 0⟩]⟩ (keyO ⟨1, 1, [⟨0, 0, 2, 0, 0, 0, 0, 0, 0, 0⟩]⟩ 0) 1
      have h2 : (1 : Int) ≤ unitsV ⟨1, 1, 1, 1, 1, 1, 2⟩ (keyO ⟨1, 1, [⟨0, 0, 2, 0, 0, 0, 0, 0, 0, 0⟩]⟩ 0).2 := by
        unfold unitsV sel3
        split
        · decide
        · split <;> decide
      show ((cntO ⟨1, 1, [⟨0, 0, 2, 0, 0, 0, 0, 0, 0, 0⟩]⟩ 1 _ : Nat) : Int) ≤ _
      omega
    · have hi : i < 1 := hi
      obtain rfl : i = 0 := by omega
      exact ⟨by decide, fun j hj => by omega, rfl, rfl, rfl, rfl, rfl⟩
  refine ⟨hL, fun e he => ?_, fun i hi j hj => ?_, fun a m ha hm => ?_, ?_⟩
  · obtain ⟨to, h1, h2 | ⟨fr, h2, h3⟩⟩ := he
    · have h1 : to < 1 := h1
      obtain rfl : to = 0 := by omega
      obtain ⟨r, hr, _⟩ := h2
      exact absurd hr (by show r ∉ usesL ⟨2, ⟨0, 0⟩, ⟨0, 0⟩, 0, 0, 0, 0⟩; unfold usesL; simp)
    · have h2 : fr < 1 := h2
      obtain rfl : fr = 0 := by omega
      have hc := h3.c.1
      have hc : wordS ⟨2, ⟨0, 0⟩, ⟨0, 0⟩, 0, 0, 0, 0⟩ := hc
      unfold wordS at hc
      rcases hc with hc | hc <;> exact absurd hc (by decide)
  · have hi : i < 1 := hi
    obtain rfl : i = 0 := by omega
    have hj : j < (usesL ⟨2, ⟨0, 0⟩, ⟨0, 0⟩, 0, 0, 0, 0⟩).length := hj
    unfold usesL at hj
    simp at hj
  · have ha : a < 1 := ha
    have hm : m < 1 := hm
    obtain rfl : a = 0 := by omega
    obtain rfl : m = 0 := by omega
    intro j hj _ hb
    rcases hb with ⟨k, r, q1, q2, _, _⟩ | ⟨q1, q2, _⟩
    · have q1 : k < 1 := q1
      obtain rfl : k = 0 := by omega
      exact absurd q2 (by show r ∉ usesL ⟨2, ⟨0, 0⟩, ⟨0, 0⟩, 0, 0, 0, 0⟩; unfold usesL; simp)
    · have q2 : ele (layK ⟨[], [⟨2, ⟨0, 0⟩, ⟨0, 0⟩, 0, 0, 0, 0⟩], [0]⟩ ⟨1, 1, 1, 1, 1, 1, 2⟩ ⟨1, 1, [⟨0, 0, 2, 0, 0, 0, 0, 0, 0, 0⟩]⟩ [0]).ready 0 ≤ ele (layK ⟨[], [⟨2, ⟨0, 0⟩, ⟨0, 0⟩, 0, 0, 0, 0⟩], [0]⟩ ⟨1, 1, 1, 1, 1, 1, 2⟩ ⟨1, 1, [⟨0, 0, 2, 0, 0, 0, 0, 0, 0, 0⟩]⟩ [0]).ready 0 + j * 1 := q2
      omega
  · refine (firsts_iff _).2 fun i hi q hq => ?_
    have hi : i < 1 := hi
    obtain rfl : i = 0 := by omega
    have hfar : farV [(⟨2, ⟨0, 0⟩, ⟨0, 0⟩, 0, 0, 0, 0⟩ : Stm)] 0 = 0 := by decide
    have hq : q < (farV [(⟨2, ⟨0, 0⟩, ⟨0, 0⟩, 0, 0, 0, 0⟩ : Stm)] 0).toNat := hq
    rw [hfar] at hq
    have : (0 : Int).toNat = 0 := rfl
    omega
theorem CheckSound_main (hf : l.Fine) (hk : KFine l k) (ho : order.length ≤ 9223372036854775807) (hb : RowsOk s.bef) (hm : RowsOk s.mem) (turns : Int) : roundelaylaw_CheckSound_m l t k order s turns = some true := by
  unfold roundelaylaw_CheckSound_m
  rw [pTakes2_s hf hk ho, bd_ret]
  by_cases h : TakesP l t k order
  · have hp := h.lay.may.pace
    have hsg := h.lay.may.stages
    rw [tb_t h, Bool.not_true, br_false, Layout_s hf hk ho, bd_ret, tb_t h.lay, if_pos rfl]
    simp only [Bool.not_true, br_false]
    by_cases c1 : turns < 0 ∨ turns > 200
    · rw [show (decide (turns < 0) || decide (turns > 200)) = true from by rw [Bool.or_eq_true, decide_eq_true_eq, decide_eq_true_eq]; exact c1]
      simp only [Bool.not_true, bdG_f, Bool.true_or, br_true]
    · rw [show (decide (turns < 0) || decide (turns > 200)) = false from by rw [Bool.or_eq_false_iff, decide_eq_false_iff_not, decide_eq_false_iff_not]; omega]
      simp only [Bool.not_false, bdG_t, Bool.false_or]
      rw [rFits_s l s hf hb hm, bd_ret]
      by_cases c2 : FitsP l s
      · have hs := c2.ok hb hm
        rw [tb_t c2]
        simp only [Bool.not_true, Bool.not_false, bdG_t, Bool.false_or]
        have m0 := Int.mul_nonneg (show 0 ≤ turns + k.stages by omega) (show 0 ≤ k.pace by omega)
        have m1 := Int.mul_le_mul_of_nonneg_right (show turns + k.stages ≤ 1201 by omega) (show 0 ≤ k.pace by omega)
        have hwk : ∃ b, roundelaylaw_work_m k turns = some b := by
          unfold roundelaylaw_work_m
          rw [ck_imp (fun _ => ⟨by omega, by omega⟩), ck_imp (fun _ => ⟨by omega, by omega⟩)]
          exact ⟨_, rfl⟩
        obtain ⟨b, e⟩ := hwk
        rw [e, bd_ret]
        cases b with
        | true => rfl
        | false =>
          obtain ⟨N, hN⟩ := Int.eq_ofNat_of_zero_le (show 0 ≤ turns by omega)
          rw [br_false, hN, does_s hf hk ho h hs (by omega), bd_ret]
      · rw [tb_f c2]
        simp only [Bool.not_true, Bool.not_false, bdG_f, Bool.false_or, Bool.true_or, br_true]
  · rw [tb_f h, Bool.not_false, br_true]
    have hfK : Lp.Fine ⟨[], [⟨2, ⟨0, 0⟩, ⟨0, 0⟩, 0, 0, 0, 0⟩], [0]⟩ := by
      have h0 : InR 0 := by unfold InR; omega
      have h2 : InR 2 := by unfold InR; omega
      exact ⟨fun u hu => (by cases hu), fun u hu => by
        obtain rfl := List.mem_singleton.1 hu
        exact ⟨h2, h0, h0, h0, h0, h0, h0, h0, h0⟩, fun u hu => by
        obtain rfl := List.mem_singleton.1 hu
        exact h0, by show 0 ≤ maxLen; omega, by show 1 ≤ maxLen; rw [maxLen_eq]; omega, by show 1 ≤ maxLen; rw [maxLen_eq]; omega⟩
    have hkK : KFine ⟨[], [⟨2, ⟨0, 0⟩, ⟨0, 0⟩, 0, 0, 0, 0⟩], [0]⟩ ⟨1, 1, [⟨0, 0, 2, 0, 0, 0, 0, 0, 0, 0⟩]⟩ := fun i hi => by
      have hi : i < 1 := hi
      obtain rfl : i = 0 := by omega
      have h0 : InR 0 := by unfold InR; omega
      have h2 : InR 2 := by unfold InR; omega
      exact lpO_fine' hfK ⟨h2, h0, h0, h0, h0⟩
    rw [pTakes2_s hfK hkK (by decide), bd_ret, tb_t known_takes]
end
theorem CheckSound_true (l : Lp) (t : Tgt) (k : Krn) (order : List Int) (s : Sta) (turns : Int) {w w' : World} {v1 v2 v3 v4 : Value} (hL : LpRep w v1 v2 v3 l) (hK : KrnRep w' v4 k) (hr3 : ∀ u ∈ order, InR u) (hl3 : order.length ≤ maxLen) (hb : RowsOk s.bef) (hm : RowsOk s.mem) (ra : -9223372036854775808 ≤ turns ∧ turns ≤ 9223372036854775807) :
    roundelaylaw_CheckSound_m l t k order s turns = some true :=
  CheckSound_main hL.fine (kfine_of hL.fine hK) hl3 hb hm turns
end Go.Rd
end

section
namespace Go.Rd
set_option linter.unusedVariables false
section
variable {P : Program} {n : Nat} {σ : Env} {M : Nat → Prop} {w0 : World} {H : List Res} {C : World → Prop} {rest l : List Oper} {ops : Array Oper} {Q : Exit → Act → World → Prop} {d id : Nat} {v : Value} {x : Operand} {T U : TypeId} {pos : String} {after : Array Edge} {c : Op} {y : Code}
theorem wq (h : Nat.blt d n = true) (hq : QV P ⟨some d, c, T, pos, after, none⟩ σ (Own M w0 H) v) (kk : WK n (wpList P ops Q rest) ((d, (true, v)) :: σ) (Own M w0 H)) : WK n (wpList P ops Q (⟨some d, c, T, pos, after, none⟩ :: rest)) σ (Own M w0 H) := WL.q rfl rfl h hq kk
theorem wm (h : (Nat.blt d n, σ.ev x) = (true, some (true, v))) (kk : WK n (wpList P ops Q rest) ((d, (true, v)) :: σ) (Own M w0 H)) : WK n (wpList P ops Q (⟨some d, .move x, T, pos, after, none⟩ :: rest)) σ (Own M w0 H) :=
  wq (congrArg Prod.fst h) (QV.move (congrArg Prod.snd h) rfl) kk
theorem wa (h : (Nat.blt d n, σ.ev x) = (true, some (true, v))) (kk : WK n (wpList P ops Q rest) ((d, (true, v)) :: σ) (Own M w0 H)) : WK n (wpList P ops Q (⟨some d, .assign x, T, pos, after, none⟩ :: rest)) σ (Own M w0 H) :=
  wq (congrArg Prod.fst h) (QV.assign (congrArg Prod.snd h) rfl) kk
theorem wf {f off : Nat} {q : Addr} (hT : FieldT P U f off) (h : (Nat.blt d n, σ.ev x) = (true, some (true, .pointer (some q)))) (kk : WK n (wpList P ops Q rest) ((d, (true, .pointer (some (q.add off)))) :: σ) (Own M w0 H)) : WK n (wpList P ops Q (⟨some d, .fieldAddr U x f, T, pos, after, none⟩ :: rest)) σ (Own M w0 H) :=
  wq (congrArg Prod.fst h) (QV.fieldAddr hT (congrArg Prod.snd h) rfl) kk
theorem wl {q : Addr} (hT : Plain P U) (h : (Nat.blt d n, σ.ev x) = (true, some (true, .pointer (some q)))) (hc : ∀ w, Own M w0 H w → w.cell? q = some v) (kk : WK n (wpList P ops Q rest) ((d, (true, v)) :: σ) (Own M w0 H)) : WK n (wpList P ops Q (⟨some d, .load U x, T, pos, after, none⟩ :: rest)) σ (Own M w0 H) :=
  wq (congrArg Prod.fst h) (QV.load hT (congrArg Prod.snd h) rfl hc) kk
theorem wz (i : Nat) {m fuel : Nat} {S : World → Prop} [hQ : POk Q] (hi : ops[i]? = some ⟨some d, c, T, pos, after, none⟩) (hn : Nat.blt d n = true) (hq : QV P ⟨some d, c, T, pos, after, none⟩ σ S v)
    (kk : WD P n ops Q S fuel (upto (i + 1) m) ((d, (true, v)) :: σ) (Own M w0 H)) (ht : takeOk ops i m = true := by kernel_rfl) : WD P n ops Q S (fuel + 1) (upto i m) σ (Own M w0 H) := WD.q i hi ht rfl rfl hn hq kk
theorem gn {j d' : Nat} {b : Bool} (h : (Nat.blt d n, (ops[j]?).bind (·.dst), σ.look d') = (true, some d', some (true, .bool b))) (hq : (!b) = true → QV P ⟨some d, c, T, pos, after, some (j, false)⟩ σ (Own M w0 H) v) (kk : WK n (wpList P ops Q rest) ((d, (!b, v)) :: σ) (Own M w0 H)) : WK n (wpList P ops Q (⟨some d, c, T, pos, after, some (j, false)⟩ :: rest)) σ (Own M w0 H) :=
  WL.g rfl (congrArg (·.1) h) (GuardIs.neg (congrArg (·.2.1) h) (congrArg (·.2.2) h)) hq kk
theorem gp {j d' : Nat} {b : Bool} (h : (Nat.blt d n, (ops[j]?).bind (·.dst), σ.look d') = (true, some d', some (true, .bool b))) (hq : b = true → QV P ⟨some d, c, T, pos, after, some (j, true)⟩ σ (Own M w0 H) v) (kk : WK n (wpList P ops Q rest) ((d, (b, v)) :: σ) (Own M w0 H)) : WK n (wpList P ops Q (⟨some d, c, T, pos, after, some (j, true)⟩ :: rest)) σ (Own M w0 H) :=
  WL.g rfl (congrArg (·.1) h) (GuardIs.pos (congrArg (·.2.1) h) (congrArg (·.2.2) h)) hq kk
theorem tr {K : Act → World → Prop} (h : WK n (Q .ret) σ C) : WK n (Exit.then K Q .ret) σ C := h
theorem te {K : Act → World → Prop} {id : Nat} (h : WK n (Q (.exit id)) σ C) : WK n (Exit.then K Q (.exit id)) σ C := h
theorem kr {id : Nat} (h : WK n (Q .ret) σ C) : WK n (Exit.inBlock id Q .ret) σ C := h
theorem sk (k : WK n (Q .normal) σ C) : WK n (Code.skip.wp P Q) σ C := WC.skip k
theorem sr (h : WK n (wpList P l.toArray (Exit.then (y.wp P Q) Q) l) σ C) : WK n (((Code.region id l.toArray false).seq y).wp P Q) σ C := WC.seq (WC.region h)
theorem nt (h : WK n (y.wp P Q) σ C) : WK n (wpList P ops (Exit.then (y.wp P Q) Q) []) σ C := WL.nil (WQ.then h)
theorem nr (h : WK n (wpList P l.toArray Q l) σ C) : WK n (wpList P ops (Exit.then ((Code.region id l.toArray false).wp P Q) Q) []) σ C := nt (WC.region h)
theorem ns {z : Code} (h : WK n (wpList P l.toArray (Exit.then (z.wp P Q) Q) l) σ C) : WK n (wpList P ops (Exit.then (((Code.region id l.toArray false).seq z).wp P Q) Q) []) σ C := nt (sr h)
end
universe u
theorem Z {α : Sort u} {a : α} : a = a := rfl
theorem cs {α : Type} {c : Prop} [Decidable c] {x : Option α} {r : α} (h : ck c x = some r) : c ∧ x = some r := ck_some h
end Go.Rd
end

section
namespace Go.Proofs.Ytaimbkndebaaiab
open Go.Rd
set_option linter.unusedVariables false
namespace TNum
theorem en101 : Go.Rd.Enters Try.prog 101 := ⟨Try.f101, Try.func101, by kernel_rfl, by kernel_rfl⟩
theorem en45 : Go.Rd.Enters Try.prog 45 := ⟨Try.f45, Try.func45, by kernel_rfl, by kernel_rfl⟩
theorem en75 : Go.Rd.Enters Try.prog 75 := ⟨Try.f75, Try.func75, by kernel_rfl, by kernel_rfl⟩
end TNum
open TNum
set_option maxRecDepth 8000 in
theorem num_Class_w {op : Int} {r : Int} (w : World) (hm : num_Class_m op = some r)  : Calls Try.prog 48 #[.int .i64 op] w (fun e w' => e = .returned (.int .i64 r) ∧ Grow w w') := by
 unfold num_Class_m at hm
 have hk := Base.rfl (w := w)
 refine calls_of_WC (n := 9) (args := [.int .i64 op]) Try.func48 Z Z (Nat.le_of_ble_eq_true Z) ?_ (Own.startK hk (Own.start w))
 refine sr ?_
 refine wa Z ?_
 refine nt (WC.seq (sr ?_))
 refine wm Z ?_
 refine nt (WC.block (WC.seq (sr ?_)))
 refine wq Z (QV.eql Z Z Z Z) ?_
 refine wa Z ?_
 refine nt ?_
 refine WC.cond Z (fun h1 => ?_) (fun h1 => ?_)
 ·skip
  have hm2 := br_t h1 hm; clear hm
  refine sk (WQ.then ?_)
  refine WC.cond Z (fun h3 => ?_) (fun h3 => ?_)
  ·skip
   have hm4 := br_t h3 hm2; clear hm2
   refine sr ?_
   refine wa Z ?_
   refine nt (WC.ret (kr (tr ?_)))
   obtain rfl := (eq_of_some hm4).symm
   refine WQ.ret1 Z Z (fun w hw => ?_)
   exact ⟨Z, Own.kgrow (fun _ x => x) hw⟩
  have hm5 := br_f h3 hm2; clear hm2
  refine sr ?_
  refine wq Z (QV.eql Z Z Z Z) ?_
  refine wa Z ?_
  refine nt ?_
  refine WC.cond Z (fun h6 => ?_) (fun h6 => ?_)
  ·skip
   have hm7 := br_t h6 hm5; clear hm5
   refine sr ?_
   refine wa Z ?_
   refine nt (WC.ret (kr (tr ?_)))
   obtain rfl := (eq_of_some hm7).symm
   refine WQ.ret1 Z Z (fun w hw => ?_)
   exact ⟨Z, Own.kgrow (fun _ x => x) hw⟩
  have hm8 := br_f h6 hm5; clear hm5
  refine sk (WQ.block (WQ.then (sr ?_)))
  refine wa Z ?_
  refine nt (WC.ret ?_)
  obtain rfl := (eq_of_some hm8).symm
  refine WQ.ret1 Z Z (fun w hw => ?_)
  exact ⟨Z, Own.kgrow (fun _ x => x) hw⟩
 have hm9 := br_f h1 hm; clear hm
 refine WC.region ?_
 refine wq Z (QV.eql Z Z Z Z) ?_
 refine wa Z ?_
 refine nt ?_
 refine WC.cond Z (fun h10 => ?_) (fun h10 => ?_)
 ·skip
  have hm11 := br_t h10 hm9; clear hm9
  refine sr ?_
  refine wa Z ?_
  refine nt (WC.ret (kr (tr ?_)))
  obtain rfl := (eq_of_some hm11).symm
  refine WQ.ret1 Z Z (fun w hw => ?_)
  exact ⟨Z, Own.kgrow (fun _ x => x) hw⟩
 have hm12 := br_f h10 hm9; clear hm9
 refine sr ?_
 refine wq Z (QV.eql Z Z Z Z) ?_
 refine wa Z ?_
 refine nt ?_
 refine WC.cond Z (fun h13 => ?_) (fun h13 => ?_)
 ·skip
  have hm14 := br_t h13 hm12; clear hm12
  refine sr ?_
  refine wa Z ?_
  refine nt (WC.ret (kr (tr ?_)))
  obtain rfl := (eq_of_some hm14).symm
  refine WQ.ret1 Z Z (fun w hw => ?_)
  exact ⟨Z, Own.kgrow (fun _ x => x) hw⟩
 have hm15 := br_f h13 hm12; clear hm12
 refine sk (WQ.block (WQ.then (sr ?_)))
 refine wa Z ?_
 refine nt (WC.ret ?_)
 obtain rfl := (eq_of_some hm15).symm
 refine WQ.ret1 Z Z (fun w hw => ?_)
 exact ⟨Z, Own.kgrow (fun _ x => x) hw⟩

set_option maxRecDepth 8000 in
theorem roundelayref1_Class_w {op : Int} {r : Int} (w : World) (hm : roundelayref1_Class_m op = some r)  : Calls Try.prog 52 #[.int .i64 op] w (fun e w' => e = .returned (.int .i64 r) ∧ Grow w w') := by
 unfold roundelayref1_Class_m at hm
 have hk := Base.rfl (w := w)
 refine calls_of_WC (n := 11) (args := [.int .i64 op]) Try.func52 Z Z (Nat.le_of_ble_eq_true Z) ?_ (Own.startK hk (Own.start w))
 refine sr ?_
 refine wa Z ?_
 refine nt (WC.seq (sr ?_))
 refine wm Z ?_
 refine wq Z (QV.eql Z Z Z Z) ?_
 refine wm Z ?_
 refine gn Z (fun hG => QV.move Z Z) ?_
 refine gn Z (fun hG => QV.eql Z hG Z Z) ?_
 refine wq Z (QV.pickOr Z Z Z (fun h => notF h)) ?_
 refine nt ?_
 refine WC.cond Z (fun h1 => ?_) (fun h1 => ?_)
 ·skip
  have hm2 := br_t h1 hm; clear hm
  refine sr ?_
  refine wa Z ?_
  refine nt (WC.ret (tr ?_))
  obtain rfl := (eq_of_some hm2).symm
  refine WQ.ret1 Z Z (fun w hw => ?_)
  exact ⟨Z, Own.kgrow (fun _ x => x) hw⟩
 have hm3 := br_f h1 hm; clear hm
 refine sk (WQ.then (WC.seq (sr ?_)))
 refine wm Z ?_
 refine wq Z (QV.eql Z Z Z Z) ?_
 refine nt ?_
 refine WC.cond Z (fun h4 => ?_) (fun h4 => ?_)
 ·skip
  have hm5 := br_t h4 hm3; clear hm3
  refine sr ?_
  refine wa Z ?_
  refine nt (WC.ret (tr ?_))
  obtain rfl := (eq_of_some hm5).symm
  refine WQ.ret1 Z Z (fun w hw => ?_)
  exact ⟨Z, Own.kgrow (fun _ x => x) hw⟩
 have hm6 := br_f h4 hm3; clear hm3
 refine sk (WQ.then (sr ?_))
 refine wa Z ?_
 refine nt (WC.ret ?_)
 obtain rfl := (eq_of_some hm6).symm
 refine WQ.ret1 Z Z (fun w hw => ?_)
 exact ⟨Z, Own.kgrow (fun _ x => x) hw⟩

set_option maxRecDepth 8000 in
theorem roundelayref1_Size_w {log : Int} {r : Int} (w : World) (hm : roundelayref1_Size_m log = some r)  : Calls Try.prog 45 #[.int .i64 log] w (fun e w' => e = .returned (.int .i64 r) ∧ Grow w w') := by
 unfold roundelayref1_Size_m at hm
 have hk := Base.rfl (w := w)
 refine calls_of_WC (n := 14) (args := [.int .i64 log]) Try.func45 Z Z (Nat.le_of_ble_eq_true Z) ?_ (Own.startK hk (Own.start w))
 refine sr ?_
 refine wa Z ?_
 refine ns ?_
 refine wa Z ?_
 refine nt (WC.seq (sr ?_))
 refine wa Z ?_
 refine nt ?_
 obtain ⟨o1, ho2, hm3⟩ := bd_some hm; clear hm; obtain ⟨n4, ho5⟩ := lp_some ho2
 refine WC.bloop2 (H2 := [kn noM w.heap.size w w]) (τ := [(0, (true, _))]) (fun (n3_1 : Int) (i4_1 : Int) => [(3, (true, .int .i64 n3_1)), (4, (true, .int .i64 i4_1))]) (fun n3_1 i4_1 => []) (fun n3_1 i4_1 m => iter (roundelayref1_Size_L0 log) m (n3_1, i4_1) = some o1) (fun n3_1 i4_1 => o1 = .go (n3_1, i4_1)) 1 0 n4 ho5 ⟨Z, Z, Z, trivial⟩ (fun w hw => hw.pick [0] (by decide)) ?_ ?_
 ·skip
  rintro n3_1 i4_1 rfl
  refine WQ.then (sr ?_)
  refine wm Z ?_
  refine wa Z ?_
  refine nt (WC.ret ?_)
  obtain rfl := (eq_of_some hm3).symm
  refine WQ.ret1 Z Z (fun w hw => ?_)
  exact ⟨Z, Own.kgrow (fun _ x => x) hw⟩
 rintro n3_1 i4_1 m6 hI7
 obtain ⟨m8, s9, rfl, hm10, hn11⟩ := iter_step hI7; clear hI7; unfold roundelayref1_Size_L0 at hm10; simp only at hm10
 refine WC.seq (sr ?_)
 refine wm Z ?_
 refine wm Z ?_
 refine wq Z (QV.lss Z Z Z Z) ?_
 refine nt ?_
 refine WC.cond Z (fun h12 => ?_) (fun h12 => ?_)
 ·skip
  have hm13 := br_t h12 hm10; clear hm10
  refine sk (WQ.then (WC.seq (WC.block (WC.region ?_))))
  refine wm Z ?_
  refine wm Z ?_
  obtain ⟨c14, hm15⟩ := cs hm13; clear hm13
  refine wq Z (QV.add Z Z Z Z c14) ?_
  refine wa Z ?_
  refine WL.nil (WQ.block (WQ.then (WC.region ?_)))
  refine wm Z ?_
  obtain ⟨c16, hm17⟩ := cs hm15; clear hm15
  refine wq Z (QV.add Z Z Z Z c16) ?_
  refine wa Z ?_
  refine WL.nil ?_
  exact WQ.again2 (n3_1 + n3_1) (i4_1 + 1) m8 (up_next hm17 hn11) (Nat.lt_succ_self _) ⟨Z, Z, Z, trivial⟩ (fun w hw => hw.pick [0] (by decide))
 have hm18 := br_f h12 hm10; clear hm10
 refine WC.exit (te (te (WQ.block_exit ?_)))
 exact WQ.out2 n3_1 i4_1 (up_brk hm18 hn11) ⟨Z, Z, Z, trivial⟩ (fun w hw => hw.pick [0] (by decide))

set_option maxRecDepth 8000 in
theorem roundelayref1_Rest_w {a : Int} {b : Int} {r : Int} (w : World) (hm : roundelayref1_Rest_m a b = some r)  : Calls Try.prog 75 #[.int .i64 a, .int .i64 b] w (fun e w' => e = .returned (.int .i64 r) ∧ Grow w w') := by
 unfold roundelayref1_Rest_m at hm
 have hk := Base.rfl (w := w)
 refine calls_of_WC (n := 15) (args := [.int .i64 a, .int .i64 b]) Try.func75 Z Z (Nat.le_of_ble_eq_true Z) ?_ (Own.startK hk (Own.start w))
 refine sr ?_
 refine wa Z ?_
 refine ns ?_
 refine wm Z ?_
 refine wm Z ?_
 obtain ⟨c1, hm2⟩ := cs hm; clear hm
 refine wq Z (QV.rem Z Z Z Z c1) ?_
 refine wa Z ?_
 refine nt (WC.seq (sr ?_))
 refine wm Z ?_
 refine wq Z (QV.lss Z Z Z Z) ?_
 refine nt ?_
 refine WC.cond Z (fun h3 => ?_) (fun h3 => ?_)
 ·skip
  have hm4 := br_t h3 hm2; clear hm2
  refine WC.region ?_
  refine wm Z ?_
  refine wm Z ?_
  obtain ⟨c5, hm6⟩ := cs hm4; clear hm4
  refine wq Z (QV.add Z Z Z Z c5) ?_
  refine wa Z ?_
  refine ns ?_
  refine wm Z ?_
  refine wa Z ?_
  refine nt (WC.ret ?_)
  obtain rfl := (eq_of_some hm6).symm
  refine WQ.ret1 Z Z (fun w hw => ?_)
  exact ⟨Z, Own.kgrow (fun _ x => x) hw⟩
 have hm7 := br_f h3 hm2; clear hm2
 refine sk (WQ.then (sr ?_))
 refine wm Z ?_
 refine wa Z ?_
 refine nt (WC.ret ?_)
 obtain rfl := (eq_of_some hm7).symm
 refine WQ.ret1 Z Z (fun w hw => ?_)
 exact ⟨Z, Own.kgrow (fun _ x => x) hw⟩

set_option maxRecDepth 8000 in
theorem roundelayref1_bits_w {op : Int} {a : Int} {b : Int} {r : Int} (w : World) (hm : roundelayref1_bits_m op a b = some r)  : Calls Try.prog 101 #[.int .i64 op, .int .i64 a, .int .i64 b] w (fun e w' => e = .returned (.int .i64 r) ∧ Grow w w') := by
 unfold roundelayref1_bits_m at hm
 have hk := Base.rfl (w := w)
 refine calls_of_WC (n := 76) (args := [.int .i64 op, .int .i64 a, .int .i64 b]) Try.func101 Z Z (Nat.le_of_ble_eq_true Z) ?_ (Own.startK hk (Own.start w))
 refine sr ?_
 refine wa Z ?_
 refine ns ?_
 refine wa Z ?_
 refine ns ?_
 refine wa Z ?_
 refine nt (WC.seq (sr ?_))
 refine wa Z ?_
 refine nt ?_
 obtain ⟨o1, ho2, hm3⟩ := bd_some hm; clear hm; obtain ⟨n4, ho5⟩ := lp_some ho2
 refine WC.bloop5 (H2 := [kn noM w.heap.size w w]) (τ := [(0, (true, _))]) (fun (a1_1 : Int) (b2_1 : Int) (n7_1 : Int) (power8_1 : Int) (i9_1 : Int) => [(1, (true, .int .i64 a1_1)), (2, (true, .int .i64 b2_1)), (7, (true, .int .i64 n7_1)), (8, (true, .int .i64 power8_1)), (9, (true, .int .i64 i9_1))]) (fun a1_1 b2_1 n7_1 power8_1 i9_1 => []) (fun a1_1 b2_1 n7_1 power8_1 i9_1 m => iter (roundelayref1_bits_L0 op) m (a1_1, b2_1, n7_1, power8_1, i9_1) = some o1) (fun a1_1 b2_1 n7_1 power8_1 i9_1 => o1 = .go (a1_1, b2_1, n7_1, power8_1, i9_1)) a b 0 1 0 n4 ho5 ⟨Z, Z, Z, Z, Z, Z, trivial⟩ (fun w hw => hw.pick [0] (by decide)) ?_ ?_
 ·skip
  rintro a1_1 b2_1 n7_1 power8_1 i9_1 rfl
  refine WQ.then (sr ?_)
  refine wm Z ?_
  refine wa Z ?_
  refine nt (WC.ret ?_)
  obtain rfl := (eq_of_some hm3).symm
  refine WQ.ret1 Z Z (fun w hw => ?_)
  exact ⟨Z, Own.kgrow (fun _ x => x) hw⟩
 rintro a1_1 b2_1 n7_1 power8_1 i9_1 m6 hI7
 obtain ⟨m8, s9, rfl, hm10, hn11⟩ := iter_step hI7; clear hI7; unfold roundelayref1_bits_L0 at hm10; simp only at hm10
 refine WC.seq (sr ?_)
 refine wm Z ?_
 refine wq Z (QV.lss Z Z Z Z) ?_
 refine nt ?_
 refine WC.cond Z (fun h12 => ?_) (fun h12 => ?_)
 ·skip
  have hm13 := br_t h12 hm10; clear hm10
  refine sk (WQ.then (WC.seq (WC.block (sr ?_))))
  refine wm Z ?_
  refine wq Z (QV.rem Z Z Z Z (by decide)) ?_
  refine wa Z ?_
  refine ns ?_
  refine wm Z ?_
  refine wq Z (QV.rem Z Z Z Z (by decide)) ?_
  refine wa Z ?_
  refine ns ?_
  refine wm Z ?_
  refine wq Z (QV.neq Z Z Z Z) ?_
  refine wa Z ?_
  refine ns ?_
  refine wm Z ?_
  refine wq Z (QV.neq Z Z Z Z) ?_
  refine wa Z ?_
  refine nt (WC.seq (sr ?_))
  refine wm Z ?_
  refine wq Z (QV.eql Z Z Z Z) ?_
  refine wm Z ?_
  refine gp Z (fun hG => QV.move Z Z) ?_
  refine wq Z (QV.pickAnd Z Z Z (fun h => h)) ?_
  refine wm Z ?_
  refine gp Z (fun hG => QV.move Z Z) ?_
  refine wq Z (QV.pickAnd Z Z Z (fun h => h)) ?_
  refine wm Z ?_
  refine gn Z (fun hG => QV.move Z Z) ?_
  refine gn Z (fun hG => QV.eql Z hG Z Z) ?_
  refine gn Z (fun hG => QV.move Z hG) ?_
  refine WL.g Z Z (GuardIs.posC Z Z) (fun hG => QV.move Z Z) ?_
  refine WL.g Z Z (GuardIs.posC Z Z) (fun hG => QV.move Z hG) ?_
  refine WL.g Z Z (GuardIs.negC Z Z) (fun hG => QV.move Z Z) ?_
  refine WL.g Z Z (GuardIs.posC Z Z) (fun hG => QV.pickOr Z hG Z (fun h => andN hG h)) ?_
  refine gn Z (fun hG => QV.pickAnd Z hG Z (fun h => andT hG h)) ?_
  refine wq Z (QV.pickOr Z Z Z (fun h => notF h)) ?_
  refine wm Z ?_
  refine gn Z (fun hG => QV.move Z Z) ?_
  refine gn Z (fun hG => QV.eql Z hG Z Z) ?_
  refine gn Z (fun hG => QV.move Z hG) ?_
  refine WL.g Z Z (GuardIs.posC Z Z) (fun hG => QV.move Z Z) ?_
  refine WL.g Z Z (GuardIs.posC Z Z) (fun hG => QV.move Z Z) ?_
  refine WL.g Z Z (GuardIs.posC Z Z) (fun hG => QV.neqB Try.underlying4 Z hG Z hG) ?_
  refine gn Z (fun hG => QV.pickAnd Z hG Z (fun h => andT hG h)) ?_
  refine wq Z (QV.pickOr Z Z Z (fun h => notF h)) ?_
  refine nt ?_
  refine WC.cond Z (fun h14 => ?_) (fun h14 => ?_)
  ·skip
   have hm15 := br_t h14 hm13; clear hm13
   refine WC.region ?_
   refine wm Z ?_
   refine wm Z ?_
   refine wq Z (QV.addW Z Z Z Z) ?_
   refine wa Z ?_
   refine ns ?_
   refine wm Z ?_
   refine wm Z ?_
   refine wq Z (QV.addW Z Z Z Z) ?_
   refine wa Z ?_
   refine nt (WC.seq (sr ?_))
   refine wm Z ?_
   refine wq Z (QV.lss Z Z Z Z) ?_
   refine nt ?_
   refine WC.cond Z (fun h16 => ?_) (fun h16 => ?_)
   ·skip
    have hm17 := br_t h16 hm15; clear hm15
    refine WC.region ?_
    refine wm Z ?_
    refine wq Z (QV.addW Z Z Z Z) ?_
    refine wa Z ?_
    refine nt (WC.seq (sr ?_))
    refine wm Z ?_
    refine wq Z (QV.lss Z Z Z Z) ?_
    refine nt ?_
    refine WC.cond Z (fun h18 => ?_) (fun h18 => ?_)
    ·skip
     have hm19 := br_t h18 hm17; clear hm17
     refine WC.region ?_
     refine wm Z ?_
     refine wq Z (QV.addW Z Z Z Z) ?_
     refine wa Z ?_
     refine ns ?_
     refine wm Z ?_
     refine wm Z ?_
     refine wq Z (QV.subW Z Z Z Z) ?_
     obtain ⟨c20, hm21⟩ := cs hm19; clear hm19
     refine wq Z (QV.quo Z Z Z Z (by decide) c20) ?_
     refine wa Z ?_
     refine nr ?_
     refine wm Z ?_
     refine wm Z ?_
     refine wq Z (QV.subW Z Z Z Z) ?_
     obtain ⟨c22, hm23⟩ := cs hm21; clear hm21
     refine wq Z (QV.quo Z Z Z Z (by decide) c22) ?_
     refine wa Z ?_
     refine WL.nil (WQ.block (WQ.then (WC.region ?_)))
     refine wm Z ?_
     refine wq Z (QV.addW Z Z Z Z) ?_
     refine wa Z ?_
     refine WL.nil ?_
     exact WQ.again5 (Int.tdiv (IntKind.i64.wrap (a1_1 - (IntKind.i64.wrap ((Int.tmod a1_1 2) + 2)))) 2) (Int.tdiv (IntKind.i64.wrap (b2_1 - (IntKind.i64.wrap ((Int.tmod b2_1 2) + 2)))) 2) (IntKind.i64.wrap (n7_1 + power8_1)) (IntKind.i64.wrap (power8_1 + power8_1)) (IntKind.i64.wrap (i9_1 + 1)) m8 (up_next hm23 hn11) (Nat.lt_succ_self _) ⟨Z, Z, Z, Z, Z, Z, trivial⟩ (fun w hw => hw.pick [0] (by decide))
    have hm24 := br_f h18 hm17; clear hm17
    refine sk (WQ.then (sr ?_))
    refine wm Z ?_
    refine wm Z ?_
    refine wq Z (QV.subW Z Z Z Z) ?_
    obtain ⟨c25, hm26⟩ := cs hm24; clear hm24
    refine wq Z (QV.quo Z Z Z Z (by decide) c25) ?_
    refine wa Z ?_
    refine nr ?_
    refine wm Z ?_
    refine wm Z ?_
    refine wq Z (QV.subW Z Z Z Z) ?_
    obtain ⟨c27, hm28⟩ := cs hm26; clear hm26
    refine wq Z (QV.quo Z Z Z Z (by decide) c27) ?_
    refine wa Z ?_
    refine WL.nil (WQ.block (WQ.then (WC.region ?_)))
    refine wm Z ?_
    refine wq Z (QV.addW Z Z Z Z) ?_
    refine wa Z ?_
    refine WL.nil ?_
    exact WQ.again5 (Int.tdiv (IntKind.i64.wrap (a1_1 - (IntKind.i64.wrap ((Int.tmod a1_1 2) + 2)))) 2) (Int.tdiv (IntKind.i64.wrap (b2_1 - (Int.tmod b2_1 2))) 2) (IntKind.i64.wrap (n7_1 + power8_1)) (IntKind.i64.wrap (power8_1 + power8_1)) (IntKind.i64.wrap (i9_1 + 1)) m8 (up_next hm28 hn11) (Nat.lt_succ_self _) ⟨Z, Z, Z, Z, Z, Z, trivial⟩ (fun w hw => hw.pick [0] (by decide))
   have hm29 := br_f h16 hm15; clear hm15
   refine sk (WQ.then (WC.seq (sr ?_)))
   refine wm Z ?_
   refine wq Z (QV.lss Z Z Z Z) ?_
   refine nt ?_
   refine WC.cond Z (fun h30 => ?_) (fun h30 => ?_)
   ·skip
    have hm31 := br_t h30 hm29; clear hm29
    refine WC.region ?_
    refine wm Z ?_
    refine wq Z (QV.addW Z Z Z Z) ?_
    refine wa Z ?_
    refine ns ?_
    refine wm Z ?_
    refine wm Z ?_
    refine wq Z (QV.subW Z Z Z Z) ?_
    obtain ⟨c32, hm33⟩ := cs hm31; clear hm31
    refine wq Z (QV.quo Z Z Z Z (by decide) c32) ?_
    refine wa Z ?_
    refine nr ?_
    refine wm Z ?_
    refine wm Z ?_
    refine wq Z (QV.subW Z Z Z Z) ?_
    obtain ⟨c34, hm35⟩ := cs hm33; clear hm33
    refine wq Z (QV.quo Z Z Z Z (by decide) c34) ?_
    refine wa Z ?_
    refine WL.nil (WQ.block (WQ.then (WC.region ?_)))
    refine wm Z ?_
    refine wq Z (QV.addW Z Z Z Z) ?_
    refine wa Z ?_
    refine WL.nil ?_
    exact WQ.again5 (Int.tdiv (IntKind.i64.wrap (a1_1 - (Int.tmod a1_1 2))) 2) (Int.tdiv (IntKind.i64.wrap (b2_1 - (IntKind.i64.wrap ((Int.tmod b2_1 2) + 2)))) 2) (IntKind.i64.wrap (n7_1 + power8_1)) (IntKind.i64.wrap (power8_1 + power8_1)) (IntKind.i64.wrap (i9_1 + 1)) m8 (up_next hm35 hn11) (Nat.lt_succ_self _) ⟨Z, Z, Z, Z, Z, Z, trivial⟩ (fun w hw => hw.pick [0] (by decide))
   have hm36 := br_f h30 hm29; clear hm29
   refine sk (WQ.then (sr ?_))
   refine wm Z ?_
   refine wm Z ?_
   refine wq Z (QV.subW Z Z Z Z) ?_
   obtain ⟨c37, hm38⟩ := cs hm36; clear hm36
   refine wq Z (QV.quo Z Z Z Z (by decide) c37) ?_
   refine wa Z ?_
   refine nr ?_
   refine wm Z ?_
   refine wm Z ?_
   refine wq Z (QV.subW Z Z Z Z) ?_
   obtain ⟨c39, hm40⟩ := cs hm38; clear hm38
   refine wq Z (QV.quo Z Z Z Z (by decide) c39) ?_
   refine wa Z ?_
   refine WL.nil (WQ.block (WQ.then (WC.region ?_)))
   refine wm Z ?_
   refine wq Z (QV.addW Z Z Z Z) ?_
   refine wa Z ?_
   refine WL.nil ?_
   exact WQ.again5 (Int.tdiv (IntKind.i64.wrap (a1_1 - (Int.tmod a1_1 2))) 2) (Int.tdiv (IntKind.i64.wrap (b2_1 - (Int.tmod b2_1 2))) 2) (IntKind.i64.wrap (n7_1 + power8_1)) (IntKind.i64.wrap (power8_1 + power8_1)) (IntKind.i64.wrap (i9_1 + 1)) m8 (up_next hm40 hn11) (Nat.lt_succ_self _) ⟨Z, Z, Z, Z, Z, Z, trivial⟩ (fun w hw => hw.pick [0] (by decide))
  have hm41 := br_f h14 hm13; clear hm13
  refine sk (WQ.then (sr ?_))
  refine wm Z ?_
  refine wm Z ?_
  refine wq Z (QV.addW Z Z Z Z) ?_
  refine wa Z ?_
  refine nt (WC.seq (sr ?_))
  refine wm Z ?_
  refine wq Z (QV.lss Z Z Z Z) ?_
  refine nt ?_
  refine WC.cond Z (fun h42 => ?_) (fun h42 => ?_)
  ·skip
   have hm43 := br_t h42 hm41; clear hm41
   refine WC.region ?_
   refine wm Z ?_
   refine wq Z (QV.addW Z Z Z Z) ?_
   refine wa Z ?_
   refine nt (WC.seq (sr ?_))
   refine wm Z ?_
   refine wq Z (QV.lss Z Z Z Z) ?_
   refine nt ?_
   refine WC.cond Z (fun h44 => ?_) (fun h44 => ?_)
   ·skip
    have hm45 := br_t h44 hm43; clear hm43
    refine WC.region ?_
    refine wm Z ?_
    refine wq Z (QV.addW Z Z Z Z) ?_
    refine wa Z ?_
    refine ns ?_
    refine wm Z ?_
    refine wm Z ?_
    refine wq Z (QV.subW Z Z Z Z) ?_
    obtain ⟨c46, hm47⟩ := cs hm45; clear hm45
    refine wq Z (QV.quo Z Z Z Z (by decide) c46) ?_
    refine wa Z ?_
    refine nr ?_
    refine wm Z ?_
    refine wm Z ?_
    refine wq Z (QV.subW Z Z Z Z) ?_
    obtain ⟨c48, hm49⟩ := cs hm47; clear hm47
    refine wq Z (QV.quo Z Z Z Z (by decide) c48) ?_
    refine wa Z ?_
    refine WL.nil (WQ.block (WQ.then (WC.region ?_)))
    refine wm Z ?_
    refine wq Z (QV.addW Z Z Z Z) ?_
    refine wa Z ?_
    refine WL.nil ?_
    exact WQ.again5 (Int.tdiv (IntKind.i64.wrap (a1_1 - (IntKind.i64.wrap ((Int.tmod a1_1 2) + 2)))) 2) (Int.tdiv (IntKind.i64.wrap (b2_1 - (IntKind.i64.wrap ((Int.tmod b2_1 2) + 2)))) 2) n7_1 (IntKind.i64.wrap (power8_1 + power8_1)) (IntKind.i64.wrap (i9_1 + 1)) m8 (up_next hm49 hn11) (Nat.lt_succ_self _) ⟨Z, Z, Z, Z, Z, Z, trivial⟩ (fun w hw => hw.pick [0] (by decide))
   have hm50 := br_f h44 hm43; clear hm43
   refine sk (WQ.then (sr ?_))
   refine wm Z ?_
   refine wm Z ?_
   refine wq Z (QV.subW Z Z Z Z) ?_
   obtain ⟨c51, hm52⟩ := cs hm50; clear hm50
   refine wq Z (QV.quo Z Z Z Z (by decide) c51) ?_
   refine wa Z ?_
   refine nr ?_
   refine wm Z ?_
   refine wm Z ?_
   refine wq Z (QV.subW Z Z Z Z) ?_
   obtain ⟨c53, hm54⟩ := cs hm52; clear hm52
   refine wq Z (QV.quo Z Z Z Z (by decide) c53) ?_
   refine wa Z ?_
   refine WL.nil (WQ.block (WQ.then (WC.region ?_)))
   refine wm Z ?_
   refine wq Z (QV.addW Z Z Z Z) ?_
   refine wa Z ?_
   refine WL.nil ?_
   exact WQ.again5 (Int.tdiv (IntKind.i64.wrap (a1_1 - (IntKind.i64.wrap ((Int.tmod a1_1 2) + 2)))) 2) (Int.tdiv (IntKind.i64.wrap (b2_1 - (Int.tmod b2_1 2))) 2) n7_1 (IntKind.i64.wrap (power8_1 + power8_1)) (IntKind.i64.wrap (i9_1 + 1)) m8 (up_next hm54 hn11) (Nat.lt_succ_self _) ⟨Z, Z, Z, Z, Z, Z, trivial⟩ (fun w hw => hw.pick [0] (by decide))
  have hm55 := br_f h42 hm41; clear hm41
  refine sk (WQ.then (WC.seq (sr ?_)))
  refine wm Z ?_
  refine wq Z (QV.lss Z Z Z Z) ?_
  refine nt ?_
  refine WC.cond Z (fun h56 => ?_) (fun h56 => ?_)
  ·skip
   have hm57 := br_t h56 hm55; clear hm55
   refine WC.region ?_
   refine wm Z ?_
   refine wq Z (QV.addW Z Z Z Z) ?_
   refine wa Z ?_
   refine ns ?_
   refine wm Z ?_
   refine wm Z ?_
   refine wq Z (QV.subW Z Z Z Z) ?_
   obtain ⟨c58, hm59⟩ := cs hm57; clear hm57
   refine wq Z (QV.quo Z Z Z Z (by decide) c58) ?_
   refine wa Z ?_
   refine nr ?_
   refine wm Z ?_
   refine wm Z ?_
   refine wq Z (QV.subW Z Z Z Z) ?_
   obtain ⟨c60, hm61⟩ := cs hm59; clear hm59
   refine wq Z (QV.quo Z Z Z Z (by decide) c60) ?_
   refine wa Z ?_
   refine WL.nil (WQ.block (WQ.then (WC.region ?_)))
   refine wm Z ?_
   refine wq Z (QV.addW Z Z Z Z) ?_
   refine wa Z ?_
   refine WL.nil ?_
   exact WQ.again5 (Int.tdiv (IntKind.i64.wrap (a1_1 - (Int.tmod a1_1 2))) 2) (Int.tdiv (IntKind.i64.wrap (b2_1 - (IntKind.i64.wrap ((Int.tmod b2_1 2) + 2)))) 2) n7_1 (IntKind.i64.wrap (power8_1 + power8_1)) (IntKind.i64.wrap (i9_1 + 1)) m8 (up_next hm61 hn11) (Nat.lt_succ_self _) ⟨Z, Z, Z, Z, Z, Z, trivial⟩ (fun w hw => hw.pick [0] (by decide))
  have hm62 := br_f h56 hm55; clear hm55
  refine sk (WQ.then (sr ?_))
  refine wm Z ?_
  refine wm Z ?_
  refine wq Z (QV.subW Z Z Z Z) ?_
  obtain ⟨c63, hm64⟩ := cs hm62; clear hm62
  refine wq Z (QV.quo Z Z Z Z (by decide) c63) ?_
  refine wa Z ?_
  refine nr ?_
  refine wm Z ?_
  refine wm Z ?_
  refine wq Z (QV.subW Z Z Z Z) ?_
  obtain ⟨c65, hm66⟩ := cs hm64; clear hm64
  refine wq Z (QV.quo Z Z Z Z (by decide) c65) ?_
  refine wa Z ?_
  refine WL.nil (WQ.block (WQ.then (WC.region ?_)))
  refine wm Z ?_
  refine wq Z (QV.addW Z Z Z Z) ?_
  refine wa Z ?_
  refine WL.nil ?_
  exact WQ.again5 (Int.tdiv (IntKind.i64.wrap (a1_1 - (Int.tmod a1_1 2))) 2) (Int.tdiv (IntKind.i64.wrap (b2_1 - (Int.tmod b2_1 2))) 2) n7_1 (IntKind.i64.wrap (power8_1 + power8_1)) (IntKind.i64.wrap (i9_1 + 1)) m8 (up_next hm66 hn11) (Nat.lt_succ_self _) ⟨Z, Z, Z, Z, Z, Z, trivial⟩ (fun w hw => hw.pick [0] (by decide))
 have hm67 := br_f h12 hm10; clear hm10
 refine WC.exit (te (te (WQ.block_exit ?_)))
 exact WQ.out5 a1_1 b2_1 n7_1 power8_1 i9_1 (up_brk hm67 hn11) ⟨Z, Z, Z, Z, Z, Z, trivial⟩ (fun w hw => hw.pick [0] (by decide))

set_option maxRecDepth 8000 in
theorem roundelayref1_Op_w {op : Int} {a : Int} {b : Int} {r : Int} (w : World) (hm : roundelayref1_Op_m op a b = some r)  : Calls Try.prog 60 #[.int .i64 op, .int .i64 a, .int .i64 b] w (fun e w' => e = .returned (.int .i64 r) ∧ Grow w w') := by
 unfold roundelayref1_Op_m at hm
 have hk := Base.rfl (w := w)
 refine calls_of_WC (n := 41) (args := [.int .i64 op, .int .i64 a, .int .i64 b]) Try.func60 Z Z (Nat.le_of_ble_eq_true Z) ?_ (Own.startK hk (Own.start w))
 refine sr ?_
 refine wa Z ?_
 refine nt (WC.seq (sr ?_))
 refine wm Z ?_
 refine nt (WC.block (sr ?_))
 refine wq Z (QV.eql Z Z Z Z) ?_
 refine wa Z ?_
 refine nt ?_
 refine WC.cond Z (fun h1 => ?_) (fun h1 => ?_)
 ·skip
  have hm2 := br_t h1 hm; clear hm
  refine sr ?_
  refine wm Z ?_
  refine wm Z ?_
  refine wq Z (QV.addW Z Z Z Z) ?_
  refine wa Z ?_
  refine nt (WC.ret (kr (tr ?_)))
  obtain rfl := (eq_of_some hm2).symm
  refine WQ.ret1 Z Z (fun w hw => ?_)
  exact ⟨Z, Own.kgrow (fun _ x => x) hw⟩
 have hm3 := br_f h1 hm; clear hm
 refine sr ?_
 refine wq Z (QV.eql Z Z Z Z) ?_
 refine wa Z ?_
 refine nt ?_
 refine WC.cond Z (fun h4 => ?_) (fun h4 => ?_)
 ·skip
  have hm5 := br_t h4 hm3; clear hm3
  refine sr ?_
  refine wm Z ?_
  refine wm Z ?_
  refine wq Z (QV.subW Z Z Z Z) ?_
  refine wa Z ?_
  refine nt (WC.ret (kr (tr ?_)))
  obtain rfl := (eq_of_some hm5).symm
  refine WQ.ret1 Z Z (fun w hw => ?_)
  exact ⟨Z, Own.kgrow (fun _ x => x) hw⟩
 have hm6 := br_f h4 hm3; clear hm3
 refine sr ?_
 refine wq Z (QV.eql Z Z Z Z) ?_
 refine wa Z ?_
 refine nt ?_
 refine WC.cond Z (fun h7 => ?_) (fun h7 => ?_)
 ·skip
  have hm8 := br_t h7 hm6; clear hm6
  refine sr ?_
  refine wm Z ?_
  refine wm Z ?_
  refine wq Z (QV.mulW Z Z Z Z) ?_
  refine wa Z ?_
  refine nt (WC.ret (kr (tr ?_)))
  obtain rfl := (eq_of_some hm8).symm
  refine WQ.ret1 Z Z (fun w hw => ?_)
  exact ⟨Z, Own.kgrow (fun _ x => x) hw⟩
 have hm9 := br_f h7 hm6; clear hm6
 refine WC.seq (sr ?_)
 refine wq Z (QV.eql Z Z Z Z) ?_
 refine wa Z ?_
 refine nt ?_
 refine WC.cond Z (fun h10 => ?_) (fun h10 => ?_)
 ·skip
  have hm11 := br_t h10 hm9; clear hm9
  refine sk (WQ.then ?_)
  refine WC.cond Z (fun h12 => ?_) (fun h12 => ?_)
  ·skip
   have hm13 := br_t h12 hm11; clear hm11
   refine sr ?_
   refine wm Z ?_
   refine wm Z ?_
   refine wm Z ?_
   obtain ⟨x14, hx15, hm16⟩ := bd_some hm13; clear hm13
   refine wq Z (QV.call en101 (EvAll.cons Z Z (EvAll.cons Z Z (EvAll.cons Z Z EvAll.nil))) (fun w hw => have h := roundelayref1_bits_w w hx15 ; h)) ?_
   refine wa Z ?_
   refine nt (WC.ret (kr (tr ?_)))
   obtain rfl := (eq_of_some hm16).symm
   refine WQ.ret1 Z Z (fun w hw => ?_)
   exact ⟨Z, Own.kgrow (fun _ x => x) hw⟩
  have hm17 := br_f h12 hm11; clear hm11
  refine sr ?_
  refine wq Z (QV.eql Z Z Z Z) ?_
  refine wa Z ?_
  refine nt ?_
  refine WC.cond Z (fun h18 => ?_) (fun h18 => ?_)
  ·skip
   have hm19 := br_t h18 hm17; clear hm17
   refine sr ?_
   refine wm Z ?_
   refine wm Z ?_
   refine wq Z (QV.lss Z Z Z Z) ?_
   refine nt ?_
   refine WC.cond Z (fun h20 => ?_) (fun h20 => ?_)
   ·skip
    have hm21 := br_t h20 hm19; clear hm19
    refine sr ?_
    refine wa Z ?_
    refine nt (WC.ret (kr (tr ?_)))
    obtain rfl := (eq_of_some hm21).symm
    refine WQ.ret1 Z Z (fun w hw => ?_)
    exact ⟨Z, Own.kgrow (fun _ x => x) hw⟩
   have hm22 := br_f h20 hm19; clear hm19
   refine sk (WQ.block (WQ.then (sr ?_)))
   refine wa Z ?_
   refine nt (WC.ret ?_)
   obtain rfl := (eq_of_some hm22).symm
   refine WQ.ret1 Z Z (fun w hw => ?_)
   exact ⟨Z, Own.kgrow (fun _ x => x) hw⟩
  have hm23 := br_f h18 hm17; clear hm17
  refine sr ?_
  refine wq Z (QV.eql Z Z Z Z) ?_
  refine wa Z ?_
  refine nt ?_
  refine WC.cond Z (fun h24 => ?_) (fun h24 => ?_)
  ·skip
   have hm25 := br_t h24 hm23; clear hm23
   refine sr ?_
   refine wm Z ?_
   refine wm Z ?_
   refine wq Z (QV.eql Z Z Z Z) ?_
   refine nt ?_
   refine WC.cond Z (fun h26 => ?_) (fun h26 => ?_)
   ·skip
    have hm27 := br_t h26 hm25; clear hm25
    refine sr ?_
    refine wa Z ?_
    refine nt (WC.ret (kr (tr ?_)))
    obtain rfl := (eq_of_some hm27).symm
    refine WQ.ret1 Z Z (fun w hw => ?_)
    exact ⟨Z, Own.kgrow (fun _ x => x) hw⟩
   have hm28 := br_f h26 hm25; clear hm25
   refine sk (WQ.block (WQ.then (sr ?_)))
   refine wa Z ?_
   refine nt (WC.ret ?_)
   obtain rfl := (eq_of_some hm28).symm
   refine WQ.ret1 Z Z (fun w hw => ?_)
   exact ⟨Z, Own.kgrow (fun _ x => x) hw⟩
  have hm29 := br_f h24 hm23; clear hm23
  refine sk (WQ.block (WQ.then (sr ?_)))
  refine wa Z ?_
  refine nt (WC.ret ?_)
  obtain rfl := (eq_of_some hm29).symm
  refine WQ.ret1 Z Z (fun w hw => ?_)
  exact ⟨Z, Own.kgrow (fun _ x => x) hw⟩
 have hm30 := br_f h10 hm9; clear hm9
 refine sr ?_
 refine wq Z (QV.eql Z Z Z Z) ?_
 refine wa Z ?_
 refine nt ?_
 refine WC.cond Z (fun h31 => ?_) (fun h31 => ?_)
 ·skip
  have hm32 := br_t h31 hm30; clear hm30
  refine sk (WQ.then ?_)
  refine WC.cond Z (fun h33 => ?_) (fun h33 => ?_)
  ·skip
   have hm34 := br_t h33 hm32; clear hm32
   refine sr ?_
   refine wm Z ?_
   refine wm Z ?_
   refine wm Z ?_
   obtain ⟨x35, hx36, hm37⟩ := bd_some hm34; clear hm34
   refine wq Z (QV.call en101 (EvAll.cons Z Z (EvAll.cons Z Z (EvAll.cons Z Z EvAll.nil))) (fun w hw => have h := roundelayref1_bits_w w hx36 ; h)) ?_
   refine wa Z ?_
   refine nt (WC.ret (kr (tr ?_)))
   obtain rfl := (eq_of_some hm37).symm
   refine WQ.ret1 Z Z (fun w hw => ?_)
   exact ⟨Z, Own.kgrow (fun _ x => x) hw⟩
  have hm38 := br_f h33 hm32; clear hm32
  refine sr ?_
  refine wq Z (QV.eql Z Z Z Z) ?_
  refine wa Z ?_
  refine nt ?_
  refine WC.cond Z (fun h39 => ?_) (fun h39 => ?_)
  ·skip
   have hm40 := br_t h39 hm38; clear hm38
   refine sr ?_
   refine wm Z ?_
   refine wm Z ?_
   refine wq Z (QV.lss Z Z Z Z) ?_
   refine nt ?_
   refine WC.cond Z (fun h41 => ?_) (fun h41 => ?_)
   ·skip
    have hm42 := br_t h41 hm40; clear hm40
    refine sr ?_
    refine wa Z ?_
    refine nt (WC.ret (kr (tr ?_)))
    obtain rfl := (eq_of_some hm42).symm
    refine WQ.ret1 Z Z (fun w hw => ?_)
    exact ⟨Z, Own.kgrow (fun _ x => x) hw⟩
   have hm43 := br_f h41 hm40; clear hm40
   refine sk (WQ.block (WQ.then (sr ?_)))
   refine wa Z ?_
   refine nt (WC.ret ?_)
   obtain rfl := (eq_of_some hm43).symm
   refine WQ.ret1 Z Z (fun w hw => ?_)
   exact ⟨Z, Own.kgrow (fun _ x => x) hw⟩
  have hm44 := br_f h39 hm38; clear hm38
  refine sr ?_
  refine wq Z (QV.eql Z Z Z Z) ?_
  refine wa Z ?_
  refine nt ?_
  refine WC.cond Z (fun h45 => ?_) (fun h45 => ?_)
  ·skip
   have hm46 := br_t h45 hm44; clear hm44
   refine sr ?_
   refine wm Z ?_
   refine wm Z ?_
   refine wq Z (QV.eql Z Z Z Z) ?_
   refine nt ?_
   refine WC.cond Z (fun h47 => ?_) (fun h47 => ?_)
   ·skip
    have hm48 := br_t h47 hm46; clear hm46
    refine sr ?_
    refine wa Z ?_
    refine nt (WC.ret (kr (tr ?_)))
    obtain rfl := (eq_of_some hm48).symm
    refine WQ.ret1 Z Z (fun w hw => ?_)
    exact ⟨Z, Own.kgrow (fun _ x => x) hw⟩
   have hm49 := br_f h47 hm46; clear hm46
   refine sk (WQ.block (WQ.then (sr ?_)))
   refine wa Z ?_
   refine nt (WC.ret ?_)
   obtain rfl := (eq_of_some hm49).symm
   refine WQ.ret1 Z Z (fun w hw => ?_)
   exact ⟨Z, Own.kgrow (fun _ x => x) hw⟩
  have hm50 := br_f h45 hm44; clear hm44
  refine sk (WQ.block (WQ.then (sr ?_)))
  refine wa Z ?_
  refine nt (WC.ret ?_)
  obtain rfl := (eq_of_some hm50).symm
  refine WQ.ret1 Z Z (fun w hw => ?_)
  exact ⟨Z, Own.kgrow (fun _ x => x) hw⟩
 have hm51 := br_f h31 hm30; clear hm30
 refine WC.region ?_
 refine wq Z (QV.eql Z Z Z Z) ?_
 refine wa Z ?_
 refine nt ?_
 refine WC.cond Z (fun h52 => ?_) (fun h52 => ?_)
 ·skip
  have hm53 := br_t h52 hm51; clear hm51
  refine sr ?_
  refine wm Z ?_
  refine wm Z ?_
  refine wm Z ?_
  obtain ⟨x54, hx55, hm56⟩ := bd_some hm53; clear hm53
  refine wq Z (QV.call en101 (EvAll.cons Z Z (EvAll.cons Z Z (EvAll.cons Z Z EvAll.nil))) (fun w hw => have h := roundelayref1_bits_w w hx55 ; h)) ?_
  refine wa Z ?_
  refine nt (WC.ret (kr (tr ?_)))
  obtain rfl := (eq_of_some hm56).symm
  refine WQ.ret1 Z Z (fun w hw => ?_)
  exact ⟨Z, Own.kgrow (fun _ x => x) hw⟩
 have hm57 := br_f h52 hm51; clear hm51
 refine sr ?_
 refine wq Z (QV.eql Z Z Z Z) ?_
 refine wa Z ?_
 refine nt ?_
 refine WC.cond Z (fun h58 => ?_) (fun h58 => ?_)
 ·skip
  have hm59 := br_t h58 hm57; clear hm57
  refine sr ?_
  refine wm Z ?_
  refine wm Z ?_
  refine wq Z (QV.lss Z Z Z Z) ?_
  refine nt ?_
  refine WC.cond Z (fun h60 => ?_) (fun h60 => ?_)
  ·skip
   have hm61 := br_t h60 hm59; clear hm59
   refine sr ?_
   refine wa Z ?_
   refine nt (WC.ret (kr (tr ?_)))
   obtain rfl := (eq_of_some hm61).symm
   refine WQ.ret1 Z Z (fun w hw => ?_)
   exact ⟨Z, Own.kgrow (fun _ x => x) hw⟩
  have hm62 := br_f h60 hm59; clear hm59
  refine sk (WQ.block (WQ.then (sr ?_)))
  refine wa Z ?_
  refine nt (WC.ret ?_)
  obtain rfl := (eq_of_some hm62).symm
  refine WQ.ret1 Z Z (fun w hw => ?_)
  exact ⟨Z, Own.kgrow (fun _ x => x) hw⟩
 have hm63 := br_f h58 hm57; clear hm57
 refine sr ?_
 refine wq Z (QV.eql Z Z Z Z) ?_
 refine wa Z ?_
 refine nt ?_
 refine WC.cond Z (fun h64 => ?_) (fun h64 => ?_)
 ·skip
  have hm65 := br_t h64 hm63; clear hm63
  refine sr ?_
  refine wm Z ?_
  refine wm Z ?_
  refine wq Z (QV.eql Z Z Z Z) ?_
  refine nt ?_
  refine WC.cond Z (fun h66 => ?_) (fun h66 => ?_)
  ·skip
   have hm67 := br_t h66 hm65; clear hm65
   refine sr ?_
   refine wa Z ?_
   refine nt (WC.ret (kr (tr ?_)))
   obtain rfl := (eq_of_some hm67).symm
   refine WQ.ret1 Z Z (fun w hw => ?_)
   exact ⟨Z, Own.kgrow (fun _ x => x) hw⟩
  have hm68 := br_f h66 hm65; clear hm65
  refine sk (WQ.block (WQ.then (sr ?_)))
  refine wa Z ?_
  refine nt (WC.ret ?_)
  obtain rfl := (eq_of_some hm68).symm
  refine WQ.ret1 Z Z (fun w hw => ?_)
  exact ⟨Z, Own.kgrow (fun _ x => x) hw⟩
 have hm69 := br_f h64 hm63; clear hm63
 refine sk (WQ.block (WQ.then (sr ?_)))
 refine wa Z ?_
 refine nt (WC.ret ?_)
 obtain rfl := (eq_of_some hm69).symm
 refine WQ.ret1 Z Z (fun w hw => ?_)
 exact ⟨Z, Own.kgrow (fun _ x => x) hw⟩

set_option maxRecDepth 8000 in
theorem roundelayref1_Index_w {step : Int} {plus : Int} {turn : Int} {log : Int} {r : Int} (w : World) (hm : roundelayref1_Index_m step plus turn log = some r)  : Calls Try.prog 59 #[.int .i64 step, .int .i64 plus, .int .i64 turn, .int .i64 log] w (fun e w' => e = .returned (.int .i64 r) ∧ Grow w w') := by
 unfold roundelayref1_Index_m at hm
 have hk := Base.rfl (w := w)
 refine calls_of_WC (n := 47) (args := [.int .i64 step, .int .i64 plus, .int .i64 turn, .int .i64 log]) Try.func59 Z Z (Nat.le_of_ble_eq_true Z) ?_ (Own.startK hk (Own.start w))
 refine sr ?_
 refine wa Z ?_
 refine nt (WC.seq (sr ?_))
 refine wm Z ?_
 refine wq Z (QV.lss Z Z Z Z) ?_
 refine wm Z ?_
 refine gn Z (fun hG => QV.move Z Z) ?_
 refine gn Z (fun hG => QV.gtr Z hG Z Z) ?_
 refine wq Z (QV.pickOr Z Z Z (fun h => notF h)) ?_
 refine wm Z ?_
 refine gn Z (fun hG => QV.move Z Z) ?_
 refine gn Z (fun hG => QV.lss Z hG Z Z) ?_
 refine wq Z (QV.pickOr Z Z Z (fun h => notF h)) ?_
 refine wm Z ?_
 refine gn Z (fun hG => QV.move Z Z) ?_
 refine gn Z (fun hG => QV.gtr Z hG Z Z) ?_
 refine wq Z (QV.pickOr Z Z Z (fun h => notF h)) ?_
 refine wm Z ?_
 refine gn Z (fun hG => QV.move Z Z) ?_
 refine gn Z (fun hG => QV.lss Z hG Z Z) ?_
 refine wq Z (QV.pickOr Z Z Z (fun h => notF h)) ?_
 refine wm Z ?_
 refine gn Z (fun hG => QV.move Z Z) ?_
 refine gn Z (fun hG => QV.gtr Z hG Z Z) ?_
 refine wq Z (QV.pickOr Z Z Z (fun h => notF h)) ?_
 refine wm Z ?_
 refine gn Z (fun hG => QV.move Z Z) ?_
 refine gn Z (fun hG => QV.lss Z hG Z Z) ?_
 refine wq Z (QV.pickOr Z Z Z (fun h => notF h)) ?_
 refine wm Z ?_
 refine gn Z (fun hG => QV.move Z Z) ?_
 refine gn Z (fun hG => QV.gtr Z hG Z Z) ?_
 refine wq Z (QV.pickOr Z Z Z (fun h => notF h)) ?_
 refine nt ?_
 refine WC.cond Z (fun h1 => ?_) (fun h1 => ?_)
 ·skip
  have hm2 := br_t h1 hm; clear hm
  refine sr ?_
  refine wa Z ?_
  refine nt (WC.ret (tr ?_))
  obtain rfl := (eq_of_some hm2).symm
  refine WQ.ret1 Z Z (fun w hw => ?_)
  exact ⟨Z, Own.kgrow (fun _ x => x) hw⟩
 have hm3 := br_f h1 hm; clear hm
 refine sk (WQ.then (sr ?_))
 refine wm Z ?_
 refine wm Z ?_
 obtain ⟨c4, hm5⟩ := cs hm3; clear hm3
 refine wq Z (QV.mul Z Z Z Z c4) ?_
 refine wm Z ?_
 obtain ⟨c6, hm7⟩ := cs hm5; clear hm5
 refine wq Z (QV.add Z Z Z Z c6) ?_
 refine wm Z ?_
 obtain ⟨x8, hx9, hm10⟩ := bd_some hm7; clear hm7
 refine wq Z (QV.call en45 (EvAll.cons Z Z EvAll.nil) (fun w hw => have h := roundelayref1_Size_w w hx9 ; h)) ?_
 obtain ⟨x11, hx12, hm13⟩ := bd_some hm10; clear hm10
 refine wq Z (QV.call en75 (EvAll.cons Z Z (EvAll.cons Z Z EvAll.nil)) (fun w hw => have h := roundelayref1_Rest_w w hx12 ; h)) ?_
 refine wa Z ?_
 refine nt (WC.ret ?_)
 obtain rfl := (eq_of_some hm13).symm
 refine WQ.ret1 Z Z (fun w hw => ?_)
 exact ⟨Z, Own.kgrow (fun _ x => x) hw⟩
end Go.Proofs.Ytaimbkndebaaiab
end

section
namespace Go.Proofs.Ytaimbkndebaaiab
open Go.Rd
set_option linter.unusedVariables false
open TNum
namespace TLoop
theorem ag24 : AggT Try.prog 24 7 := ⟨_, Try.underlying24, rfl, by kernel_rfl⟩
theorem ag49 : AggT Try.prog 49 3 := ⟨_, Try.underlying49, rfl, by kernel_rfl⟩
theorem ag57 : AggT Try.prog 57 2 := ⟨_, Try.underlying57, rfl, by kernel_rfl⟩
theorem ag59 : AggT Try.prog 59 9 := ⟨_, Try.underlying59, rfl, by kernel_rfl⟩
theorem ar22 : ArrayT Try.prog 22 3 1 := ⟨_, Try.underlying22, by kernel_rfl⟩
theorem en102 : Go.Rd.Enters Try.prog 102 := ⟨Try.f102, Try.func102, by kernel_rfl, by kernel_rfl⟩
theorem en103 : Go.Rd.Enters Try.prog 103 := ⟨Try.f103, Try.func103, by kernel_rfl, by kernel_rfl⟩
theorem en109 : Go.Rd.Enters Try.prog 109 := ⟨Try.f109, Try.func109, by kernel_rfl, by kernel_rfl⟩
theorem en123 : Go.Rd.Enters Try.prog 123 := ⟨Try.f123, Try.func123, by kernel_rfl, by kernel_rfl⟩
theorem en46 : Go.Rd.Enters Try.prog 46 := ⟨Try.f46, Try.func46, by kernel_rfl, by kernel_rfl⟩
theorem en48 : Go.Rd.Enters Try.prog 48 := ⟨Try.f48, Try.func48, by kernel_rfl, by kernel_rfl⟩
theorem en49 : Go.Rd.Enters Try.prog 49 := ⟨Try.f49, Try.func49, by kernel_rfl, by kernel_rfl⟩
theorem en50 : Go.Rd.Enters Try.prog 50 := ⟨Try.f50, Try.func50, by kernel_rfl, by kernel_rfl⟩
theorem en52 : Go.Rd.Enters Try.prog 52 := ⟨Try.f52, Try.func52, by kernel_rfl, by kernel_rfl⟩
theorem en62 : Go.Rd.Enters Try.prog 62 := ⟨Try.f62, Try.func62, by kernel_rfl, by kernel_rfl⟩
theorem en68 : Go.Rd.Enters Try.prog 68 := ⟨Try.f68, Try.func68, by kernel_rfl, by kernel_rfl⟩
theorem en74 : Go.Rd.Enters Try.prog 74 := ⟨Try.f74, Try.func74, by kernel_rfl, by kernel_rfl⟩
theorem eq57 : EqT Try.prog 57 2 := ⟨by kernel_rfl, ⟨_, Try.underlying57⟩, by kernel_rfl, by kernel_rfl⟩
theorem fd24_0 : FieldT Try.prog 24 0 0 := ⟨_, _, 2, Try.underlying24, rfl, rfl, by kernel_rfl⟩
theorem fd24_1 : FieldT Try.prog 24 1 3 := ⟨_, _, 2, Try.underlying24, rfl, rfl, by kernel_rfl⟩
theorem fd24_2 : FieldT Try.prog 24 2 6 := ⟨_, _, 0, Try.underlying24, rfl, rfl, by kernel_rfl⟩
theorem fd49_0 : FieldT Try.prog 49 0 0 := ⟨_, _, 0, Try.underlying49, rfl, rfl, by kernel_rfl⟩
theorem fd49_1 : FieldT Try.prog 49 1 1 := ⟨_, _, 0, Try.underlying49, rfl, rfl, by kernel_rfl⟩
theorem fd49_2 : FieldT Try.prog 49 2 2 := ⟨_, _, 0, Try.underlying49, rfl, rfl, by kernel_rfl⟩
theorem fd57_0 : FieldT Try.prog 57 0 0 := ⟨_, _, 0, Try.underlying57, rfl, rfl, by kernel_rfl⟩
theorem fd57_1 : FieldT Try.prog 57 1 1 := ⟨_, _, 0, Try.underlying57, rfl, rfl, by kernel_rfl⟩
theorem fd59_0 : FieldT Try.prog 59 0 0 := ⟨_, _, 0, Try.underlying59, rfl, rfl, by kernel_rfl⟩
theorem fd59_1 : FieldT Try.prog 59 1 1 := ⟨_, _, 1, Try.underlying59, rfl, rfl, by kernel_rfl⟩
theorem fd59_2 : FieldT Try.prog 59 2 3 := ⟨_, _, 1, Try.underlying59, rfl, rfl, by kernel_rfl⟩
theorem fd59_3 : FieldT Try.prog 59 3 5 := ⟨_, _, 0, Try.underlying59, rfl, rfl, by kernel_rfl⟩
theorem fd59_4 : FieldT Try.prog 59 4 6 := ⟨_, _, 0, Try.underlying59, rfl, rfl, by kernel_rfl⟩
theorem fd59_5 : FieldT Try.prog 59 5 7 := ⟨_, _, 0, Try.underlying59, rfl, rfl, by kernel_rfl⟩
theorem fd59_6 : FieldT Try.prog 59 6 8 := ⟨_, _, 0, Try.underlying59, rfl, rfl, by kernel_rfl⟩
theorem fd80_0 : FieldT Try.prog 80 0 0 := ⟨_, _, 0, Try.underlying80, rfl, rfl, by kernel_rfl⟩
theorem fd80_1 : FieldT Try.prog 80 1 1 := ⟨_, _, 0, Try.underlying80, rfl, rfl, by kernel_rfl⟩
theorem pl2 : Plain Try.prog 2 := ⟨_, Try.underlying2, rfl⟩
theorem pl28 : Plain Try.prog 28 := ⟨_, Try.underlying28, rfl⟩
theorem pl29 : Plain Try.prog 29 := ⟨_, Try.underlying29, rfl⟩
theorem pl3 : Plain Try.prog 3 := ⟨_, Try.underlying3, rfl⟩
theorem pl30 : Plain Try.prog 30 := ⟨_, Try.underlying30, rfl⟩
theorem pl47 : Plain Try.prog 47 := ⟨_, Try.underlying47, rfl⟩
theorem sl106 : SliceT Try.prog 106 57 2 := ⟨Try.underlying106, by kernel_rfl⟩
theorem sl29 : SliceT Try.prog 29 28 1 := ⟨Try.underlying29, by kernel_rfl⟩
theorem sl30 : SliceT Try.prog 30 3 1 := ⟨Try.underlying30, by kernel_rfl⟩
theorem sl47 : SliceT Try.prog 47 59 9 := ⟨Try.underlying47, by kernel_rfl⟩
theorem sz57 : SizeT Try.prog 57 2 := by unfold SizeT; kernel_rfl
theorem sz59 : SizeT Try.prog 59 9 := by unfold SizeT; kernel_rfl
theorem sz_106 : SliceZ Try.prog 106 57 2 [.int .i64 0, .int .i64 0] := ⟨Try.underlying106, by kernel_rfl⟩
theorem ze57 : ZeroT Try.prog 57 [.int .i64 0, .int .i64 0] := by unfold ZeroT; kernel_rfl
theorem ze59 : ZeroT Try.prog 59 [.int .i64 0, .int .i64 0, .int .i64 0, .int .i64 0, .int .i64 0, .int .i64 0, .int .i64 0, .int .i64 0, .int .i64 0] := by unfold ZeroT; kernel_rfl
end TLoop
open TLoop
set_option maxRecDepth 8000 in
theorem target_May_w {t : Tgt} {r : Bool} (w : World) (hm : target_May_m t = some r)  : Calls Try.prog 46 #[.agg #[.int .i64 t.u0, .int .i64 t.u1, .int .i64 t.u2, .int .i64 t.w0, .int .i64 t.w1, .int .i64 t.w2, .int .i64 t.regs]] w (fun e w' => e = .returned (.bool r) ∧ Grow w w') := by
 unfold target_May_m at hm
 have hk := Base.rfl (w := w)
 refine calls_of_WC (n := 42) (args := [.agg #[.int .i64 t.u0, .int .i64 t.u1, .int .i64 t.u2, .int .i64 t.w0, .int .i64 t.w1, .int .i64 t.w2, .int .i64 t.regs]]) Try.func46 Z Z (Nat.le_of_ble_eq_true Z) ?_ (Own.startK hk (Own.start w))
 refine sr ?_
 refine WL.effect Z ?_
 refine (EV.boxAgg (by decide) Z Z (fun b1 => ?_))
 refine wa Z ?_
 refine nt (WC.seq (sr ?_))
 refine wm Z ?_
 refine nt ?_
 obtain ⟨o2, ho3, hm4⟩ := bd_some hm; clear hm; obtain ⟨n5, ho6⟩ := lp_some ho3
 refine WC.bloop1 (H2 := [blk b1 t.cells 24, kn noM w.heap.size w w]) (τ := [(1, (true, _))]) (fun (x4_1 : Int) => [(4, (true, .int .i64 x4_1))]) (fun x4_1 => []) (fun x4_1 m => iter (target_May_L0 t) m x4_1 = some o2) (fun x4_1 => o2 = .go x4_1) 0 n5 ho6 ⟨Z, Z, trivial⟩ (fun w hw => hw.pick [0, 1] (by decide)) ?_ ?_
 ·skip
  rintro x4_1 rfl
  refine WQ.then (sr ?_)
  refine wf fd24_2 Z ?_
  refine wl pl3 Z (Own.cell 0 Z Z) ?_
  refine wq Z (QV.geq Z Z Z Z) ?_
  refine wm Z ?_
  refine gp Z (fun hG => QV.fieldAddr fd24_2 Z Z) ?_
  refine gp Z (fun hG => QV.load pl3 Z hG (Own.cell 0 Z Z)) ?_
  refine gp Z (fun hG => QV.leq Z hG Z Z) ?_
  refine wq Z (QV.pickAnd Z Z Z (fun h => h)) ?_
  refine wa Z ?_
  refine nt (WC.ret ?_)
  obtain rfl := (eq_of_some hm4).symm
  refine WQ.ret1 Z Z (fun w hw => ?_)
  exact ⟨Z, Own.kgrow (fun _ x => x) hw⟩
 rintro x4_1 m7 hI8
 obtain ⟨m9, s10, rfl, hm11, hn12⟩ := iter_step hI8; clear hI8; unfold target_May_L0 at hm11
 refine sr ?_
 refine wq Z (QV.lss Z Z Z Z) ?_
 refine nt (WC.seq ?_)
 refine WC.cond Z (fun h13 => ?_) (fun h13 => ?_)
 ·skip
  have hm14 := br_t h13 hm11; clear hm11
  refine sk (WQ.then (WC.seq (WC.block (sr ?_))))
  refine wm Z ?_
  refine wa Z ?_
  refine ns ?_
  refine wm Z ?_
  refine wf fd24_0 Z ?_
  obtain ⟨c15, hm16⟩ := cs hm14; clear hm14
  refine wq Z (QV.indexArray ar22 Z Z Z Z c15.1 c15.2) ?_
  refine wl pl3 Z (Own.cellSym 0 Z (sel3_get (off := 0) (i := x4_1) c15.1 c15.2 Z Z Z) (addr_sym _ _ _)) ?_
  refine wq Z (QV.lss Z Z Z Z) ?_
  refine wm Z ?_
  refine gn Z (fun hG => QV.move Z Z) ?_
  refine gn Z (fun hG => QV.fieldAddr fd24_0 Z Z) ?_
  obtain ⟨c17, hm18⟩ := cs hm16; clear hm16
  refine gn Z (fun hG => QV.indexArray ar22 Z hG Z hG (c17 hG).1 (c17 hG).2) ?_
  refine gn Z (fun hG => QV.load pl3 Z hG (Own.cellSym 0 Z (sel3_get (off := 0) (i := x4_1) (c17 hG).1 (c17 hG).2 Z Z Z) (addr_sym _ _ _))) ?_
  refine gn Z (fun hG => QV.gtr Z hG Z Z) ?_
  refine wq Z (QV.pickOr Z Z Z (fun h => notF h)) ?_
  refine wm Z ?_
  refine gn Z (fun hG => QV.move Z Z) ?_
  refine gn Z (fun hG => QV.fieldAddr fd24_1 Z Z) ?_
  obtain ⟨c19, hm20⟩ := cs hm18; clear hm18
  refine gn Z (fun hG => QV.indexArray ar22 Z hG Z hG (c19 hG).1 (c19 hG).2) ?_
  refine gn Z (fun hG => QV.load pl3 Z hG (Own.cellSym 0 Z (sel3_get (off := 3) (i := x4_1) (c19 hG).1 (c19 hG).2 Z Z Z) (addr_sym _ _ _))) ?_
  refine gn Z (fun hG => QV.lss Z hG Z Z) ?_
  refine wq Z (QV.pickOr Z Z Z (fun h => notF h)) ?_
  refine wm Z ?_
  refine gn Z (fun hG => QV.move Z Z) ?_
  refine gn Z (fun hG => QV.fieldAddr fd24_1 Z Z) ?_
  obtain ⟨c21, hm22⟩ := cs hm20; clear hm20
  refine gn Z (fun hG => QV.indexArray ar22 Z hG Z hG (c21 hG).1 (c21 hG).2) ?_
  refine gn Z (fun hG => QV.load pl3 Z hG (Own.cellSym 0 Z (sel3_get (off := 3) (i := x4_1) (c21 hG).1 (c21 hG).2 Z Z Z) (addr_sym _ _ _))) ?_
  refine gn Z (fun hG => QV.gtr Z hG Z Z) ?_
  refine wq Z (QV.pickOr Z Z Z (fun h => notF h)) ?_
  refine nt ?_
  refine WC.cond Z (fun h23 => ?_) (fun h23 => ?_)
  ·skip
   have hm24 := br_t h23 hm22; clear hm22
   refine sr ?_
   refine wa Z ?_
   refine nt (WC.ret (kr (tr (tr (kr (tr (tr ?_)))))))
   obtain rfl := up_ret hm24 hn12
   obtain rfl := (eq_of_some hm4).symm
   refine WQ.ret1 Z Z (fun w hw => ?_)
   exact ⟨Z, Own.kgrow (fun _ x => x) hw⟩
  have hm25 := br_f h23 hm22; clear hm22
  refine sk (WQ.block (WQ.then (WC.region ?_)))
  obtain ⟨c26, hm27⟩ := cs hm25; clear hm25
  refine wq Z (QV.add Z Z Z Z c26) ?_
  refine wm Z ?_
  refine WL.nil ?_
  exact WQ.again1 (x4_1 + 1) m9 (up_next hm27 hn12) (Nat.lt_succ_self _) ⟨Z, Z, trivial⟩ (fun w hw => hw.pick [0, 1] (by decide))
 have hm28 := br_f h13 hm11; clear hm11
 refine WC.exit (te (te (WQ.block_exit ?_)))
 exact WQ.out1 x4_1 (up_brk hm28 hn12) ⟨Z, Z, trivial⟩ (fun w hw => hw.pick [0, 1] (by decide))

set_option maxRecDepth 8000 in
theorem target_Wait_w {t : Tgt} {op : Int} {r : Int} (w : World) (hm : target_Wait_m t op = some r)  : Calls Try.prog 63 #[.agg #[.int .i64 t.u0, .int .i64 t.u1, .int .i64 t.u2, .int .i64 t.w0, .int .i64 t.w1, .int .i64 t.w2, .int .i64 t.regs], .int .i64 op] w (fun e w' => e = .returned (.int .i64 r) ∧ Grow w w') := by
 unfold target_Wait_m at hm
 have hk := Base.rfl (w := w)
 refine calls_of_WC (n := 13) (args := [.agg #[.int .i64 t.u0, .int .i64 t.u1, .int .i64 t.u2, .int .i64 t.w0, .int .i64 t.w1, .int .i64 t.w2, .int .i64 t.regs], .int .i64 op]) Try.func63 Z Z (Nat.le_of_ble_eq_true Z) ?_ (Own.startK hk (Own.start w))
 refine sr ?_
 refine WL.effect Z ?_
 refine (EV.boxAgg (by decide) Z Z (fun b1 => ?_))
 refine wa Z ?_
 refine nt (WC.seq (sr ?_))
 refine wq Z (QV.loadAgg ag24 Z Z Z (Own.cellsBlk 0 Z)) ?_
 obtain ⟨x2, hx3, hm4⟩ := bd_some hm; clear hm
 refine wq Z (QV.call en46 (EvAll.cons Z Z EvAll.nil) (fun w hw => have h := target_May_w w hx3 ; h)) ?_
 refine wq Z (QV.not Z Z) ?_
 refine nt ?_
 refine WC.cond Z (fun h5 => ?_) (fun h5 => ?_)
 ·skip
  have hm6 := br_t h5 hm4; clear hm4
  refine sr ?_
  refine wa Z ?_
  refine nt (WC.ret (tr ?_))
  obtain rfl := (eq_of_some hm6).symm
  refine WQ.ret1 Z Z (fun w hw => ?_)
  exact ⟨Z, Own.kgrow (fun _ x => x) hw⟩
 have hm7 := br_f h5 hm4; clear hm4
 refine sk (WQ.then (sr ?_))
 refine wm Z ?_
 obtain ⟨x8, hx9, hm10⟩ := bd_some hm7; clear hm7
 refine wq Z (QV.call en48 (EvAll.cons Z Z EvAll.nil) (fun w hw => have h := num_Class_w w hx9 ; h)) ?_
 refine wf fd24_1 Z ?_
 obtain ⟨c11, hm12⟩ := cs hm10; clear hm10
 refine wq Z (QV.indexArray ar22 Z Z Z Z c11.1 c11.2) ?_
 refine wl pl3 Z (Own.cellSym 0 Z (sel3_get (off := 3) (i := x8) c11.1 c11.2 Z Z Z) (addr_sym _ _ _)) ?_
 refine wa Z ?_
 refine nt (WC.ret ?_)
 obtain rfl := (eq_of_some hm12).symm
 refine WQ.ret1 Z Z (fun w hw => ?_)
 exact ⟨Z, Own.kgrow (fun _ x => x) hw⟩

set_option maxRecDepth 8000 in
theorem roundelayref4_May_w {t : Tgt} {r : Bool} (w : World) (hm : roundelayref4_May_m t = some r)  : Calls Try.prog 49 #[.agg #[.int .i64 t.u0, .int .i64 t.u1, .int .i64 t.u2, .int .i64 t.w0, .int .i64 t.w1, .int .i64 t.w2, .int .i64 t.regs]] w (fun e w' => e = .returned (.bool r) ∧ Grow w w') := by
 unfold roundelayref4_May_m at hm
 have hk := Base.rfl (w := w)
 refine calls_of_WC (n := 42) (args := [.agg #[.int .i64 t.u0, .int .i64 t.u1, .int .i64 t.u2, .int .i64 t.w0, .int .i64 t.w1, .int .i64 t.w2, .int .i64 t.regs]]) Try.func49 Z Z (Nat.le_of_ble_eq_true Z) ?_ (Own.startK hk (Own.start w))
 refine sr ?_
 refine WL.effect Z ?_
 refine (EV.boxAgg (by decide) Z Z (fun b1 => ?_))
 refine wa Z ?_
 refine nt (WC.seq (sr ?_))
 refine wa Z ?_
 refine nt ?_
 obtain ⟨o2, ho3, hm4⟩ := bd_some hm; clear hm; obtain ⟨n5, ho6⟩ := lp_some ho3
 refine WC.bloop1 (H2 := [blk b1 t.cells 24, kn noM w.heap.size w w]) (τ := [(1, (true, _))]) (fun (k3_1 : Int) => [(3, (true, .int .i64 k3_1))]) (fun k3_1 => []) (fun k3_1 m => iter (roundelayref4_May_L0 t) m k3_1 = some o2) (fun k3_1 => o2 = .go k3_1) 0 n5 ho6 ⟨Z, Z, trivial⟩ (fun w hw => hw.pick [0, 1] (by decide)) ?_ ?_
 ·skip
  rintro k3_1 rfl
  refine WQ.then (sr ?_)
  refine wf fd24_2 Z ?_
  refine wl pl3 Z (Own.cell 0 Z Z) ?_
  refine wq Z (QV.gtr Z Z Z Z) ?_
  refine wm Z ?_
  refine gp Z (fun hG => QV.fieldAddr fd24_2 Z Z) ?_
  refine gp Z (fun hG => QV.load pl3 Z hG (Own.cell 0 Z Z)) ?_
  refine gp Z (fun hG => QV.leq Z hG Z Z) ?_
  refine wq Z (QV.pickAnd Z Z Z (fun h => h)) ?_
  refine wa Z ?_
  refine nt (WC.ret ?_)
  obtain rfl := (eq_of_some hm4).symm
  refine WQ.ret1 Z Z (fun w hw => ?_)
  exact ⟨Z, Own.kgrow (fun _ x => x) hw⟩
 rintro k3_1 m7 hI8
 obtain ⟨m9, s10, rfl, hm11, hn12⟩ := iter_step hI8; clear hI8; unfold roundelayref4_May_L0 at hm11
 refine WC.seq (sr ?_)
 refine wm Z ?_
 refine wq Z (QV.lss Z Z Z Z) ?_
 refine nt ?_
 refine WC.cond Z (fun h13 => ?_) (fun h13 => ?_)
 ·skip
  have hm14 := br_t h13 hm11; clear hm11
  refine sk (WQ.then (WC.seq (WC.block (sr ?_))))
  refine wm Z ?_
  refine wf fd24_0 Z ?_
  obtain ⟨c15, hm16⟩ := cs hm14; clear hm14
  refine wq Z (QV.indexArray ar22 Z Z Z Z c15.1 c15.2) ?_
  refine wl pl3 Z (Own.cellSym 0 Z (sel3_get (off := 0) (i := k3_1) c15.1 c15.2 Z Z Z) (addr_sym _ _ _)) ?_
  refine wq Z (QV.lss Z Z Z Z) ?_
  refine wm Z ?_
  refine gn Z (fun hG => QV.move Z Z) ?_
  refine gn Z (fun hG => QV.fieldAddr fd24_0 Z Z) ?_
  obtain ⟨c17, hm18⟩ := cs hm16; clear hm16
  refine gn Z (fun hG => QV.indexArray ar22 Z hG Z hG (c17 hG).1 (c17 hG).2) ?_
  refine gn Z (fun hG => QV.load pl3 Z hG (Own.cellSym 0 Z (sel3_get (off := 0) (i := k3_1) (c17 hG).1 (c17 hG).2 Z Z Z) (addr_sym _ _ _))) ?_
  refine gn Z (fun hG => QV.gtr Z hG Z Z) ?_
  refine wq Z (QV.pickOr Z Z Z (fun h => notF h)) ?_
  refine wm Z ?_
  refine gn Z (fun hG => QV.move Z Z) ?_
  refine gn Z (fun hG => QV.fieldAddr fd24_1 Z Z) ?_
  obtain ⟨c19, hm20⟩ := cs hm18; clear hm18
  refine gn Z (fun hG => QV.indexArray ar22 Z hG Z hG (c19 hG).1 (c19 hG).2) ?_
  refine gn Z (fun hG => QV.load pl3 Z hG (Own.cellSym 0 Z (sel3_get (off := 3) (i := k3_1) (c19 hG).1 (c19 hG).2 Z Z Z) (addr_sym _ _ _))) ?_
  refine gn Z (fun hG => QV.lss Z hG Z Z) ?_
  refine wq Z (QV.pickOr Z Z Z (fun h => notF h)) ?_
  refine wm Z ?_
  refine gn Z (fun hG => QV.move Z Z) ?_
  refine gn Z (fun hG => QV.fieldAddr fd24_1 Z Z) ?_
  obtain ⟨c21, hm22⟩ := cs hm20; clear hm20
  refine gn Z (fun hG => QV.indexArray ar22 Z hG Z hG (c21 hG).1 (c21 hG).2) ?_
  refine gn Z (fun hG => QV.load pl3 Z hG (Own.cellSym 0 Z (sel3_get (off := 3) (i := k3_1) (c21 hG).1 (c21 hG).2 Z Z Z) (addr_sym _ _ _))) ?_
  refine gn Z (fun hG => QV.gtr Z hG Z Z) ?_
  refine wq Z (QV.pickOr Z Z Z (fun h => notF h)) ?_
  refine nt ?_
  refine WC.cond Z (fun h23 => ?_) (fun h23 => ?_)
  ·skip
   have hm24 := br_t h23 hm22; clear hm22
   refine sr ?_
   refine wa Z ?_
   refine nt (WC.ret (kr (tr (tr (kr (tr (tr ?_)))))))
   obtain rfl := up_ret hm24 hn12
   obtain rfl := (eq_of_some hm4).symm
   refine WQ.ret1 Z Z (fun w hw => ?_)
   exact ⟨Z, Own.kgrow (fun _ x => x) hw⟩
  have hm25 := br_f h23 hm22; clear hm22
  refine sk (WQ.block (WQ.then (WC.region ?_)))
  refine wm Z ?_
  obtain ⟨c26, hm27⟩ := cs hm25; clear hm25
  refine wq Z (QV.add Z Z Z Z c26) ?_
  refine wa Z ?_
  refine WL.nil ?_
  exact WQ.again1 (k3_1 + 1) m9 (up_next hm27 hn12) (Nat.lt_succ_self _) ⟨Z, Z, trivial⟩ (fun w hw => hw.pick [0, 1] (by decide))
 have hm28 := br_f h13 hm11; clear hm11
 refine WC.exit (te (te (WQ.block_exit ?_)))
 exact WQ.out1 k3_1 (up_brk hm28 hn12) ⟨Z, Z, trivial⟩ (fun w hw => hw.pick [0, 1] (by decide))

set_option maxRecDepth 8000 in
theorem roundelayref4_Wait_w {t : Tgt} {op : Int} {r : Int} (w : World) (hm : roundelayref4_Wait_m t op = some r)  : Calls Try.prog 78 #[.agg #[.int .i64 t.u0, .int .i64 t.u1, .int .i64 t.u2, .int .i64 t.w0, .int .i64 t.w1, .int .i64 t.w2, .int .i64 t.regs], .int .i64 op] w (fun e w' => e = .returned (.int .i64 r) ∧ Grow w w') := by
 unfold roundelayref4_Wait_m at hm
 have hk := Base.rfl (w := w)
 refine calls_of_WC (n := 15) (args := [.agg #[.int .i64 t.u0, .int .i64 t.u1, .int .i64 t.u2, .int .i64 t.w0, .int .i64 t.w1, .int .i64 t.w2, .int .i64 t.regs], .int .i64 op]) Try.func78 Z Z (Nat.le_of_ble_eq_true Z) ?_ (Own.startK hk (Own.start w))
 refine sr ?_
 refine WL.effect Z ?_
 refine (EV.boxAgg (by decide) Z Z (fun b1 => ?_))
 refine wa Z ?_
 refine nt (WC.seq (sr ?_))
 refine wq Z (QV.loadAgg ag24 Z Z Z (Own.cellsBlk 0 Z)) ?_
 obtain ⟨x2, hx3, hm4⟩ := bd_some hm; clear hm
 refine wq Z (QV.call en49 (EvAll.cons Z Z EvAll.nil) (fun w hw => have h := roundelayref4_May_w w hx3 ; h)) ?_
 refine wq Z (QV.not Z Z) ?_
 refine nt ?_
 refine WC.cond Z (fun h5 => ?_) (fun h5 => ?_)
 ·skip
  have hm6 := br_t h5 hm4; clear hm4
  refine sr ?_
  refine wa Z ?_
  refine nt (WC.ret (tr ?_))
  obtain rfl := (eq_of_some hm6).symm
  refine WQ.ret1 Z Z (fun w hw => ?_)
  exact ⟨Z, Own.kgrow (fun _ x => x) hw⟩
 have hm7 := br_f h5 hm4; clear hm4
 refine sk (WQ.then (sr ?_))
 refine wm Z ?_
 obtain ⟨x8, hx9, hm10⟩ := bd_some hm7; clear hm7
 refine wq Z (QV.call en52 (EvAll.cons Z Z EvAll.nil) (fun w hw => have h := roundelayref1_Class_w w hx9 ; h)) ?_
 refine wa Z ?_
 refine ns ?_
 refine wm Z ?_
 refine wf fd24_1 Z ?_
 obtain ⟨c11, hm12⟩ := cs hm10; clear hm10
 refine wq Z (QV.indexArray ar22 Z Z Z Z c11.1 c11.2) ?_
 refine wl pl3 Z (Own.cellSym 0 Z (sel3_get (off := 3) (i := x8) c11.1 c11.2 Z Z Z) (addr_sym _ _ _)) ?_
 refine wa Z ?_
 refine nt (WC.ret ?_)
 obtain rfl := (eq_of_some hm12).symm
 refine WQ.ret1 Z Z (fun w hw => ?_)
 exact ⟨Z, Own.kgrow (fun _ x => x) hw⟩

set_option maxRecDepth 8000 in
theorem loop_in_w {n_ : Int} {from_ : Int} {below : Int} {r : Bool} (w : World) (hm : loop_in_m n_ from_ below = some r)  : Calls Try.prog 102 #[.int .i64 n_, .int .i64 from_, .int .i64 below] w (fun e w' => e = .returned (.bool r) ∧ Grow w w') := by
 unfold loop_in_m at hm
 have hk := Base.rfl (w := w)
 refine calls_of_WC (n := 15) (args := [.int .i64 n_, .int .i64 from_, .int .i64 below]) Try.func102 Z Z (Nat.le_of_ble_eq_true Z) ?_ (Own.startK hk (Own.start w))
 refine sr ?_
 refine wa Z ?_
 refine ns ?_
 refine wm Z ?_
 refine wm Z ?_
 refine wq Z (QV.geq Z Z Z Z) ?_
 refine wm Z ?_
 refine gp Z (fun hG => QV.move Z Z) ?_
 refine gp Z (fun hG => QV.move Z Z) ?_
 refine gp Z (fun hG => QV.lss Z hG Z hG) ?_
 refine wq Z (QV.pickAnd Z Z Z (fun h => h)) ?_
 refine wa Z ?_
 refine nt (WC.ret ?_)
 obtain rfl := (eq_of_some hm).symm
 refine WQ.ret1 Z Z (fun w hw => ?_)
 exact ⟨Z, Own.kgrow (fun _ x => x) hw⟩

set_option maxRecDepth 8000 in
theorem loop_Uses_w {s : Stm} {r : List Rf} {K0 : World} (hm : loop_Uses_m s = some r)  (M : Nat → Prop) (w : World) (hk : Base M K0 w) (hw0 : Own M w [] w) : Calls Try.prog 62 #[.agg #[.int .i64 s.op, .int .i64 s.a.st, .int .i64 s.a.bk, .int .i64 s.b.st, .int .i64 s.b.bk, .int .i64 s.ar, .int .i64 s.sp, .int .i64 s.pl, .int .i64 s.n]] w (fun e w' => ∃ X : Value × World, e = .returned (X.1) ∧ Own M w (kn M w.heap.size K0 X.2 :: []) w' ∧ Arr X.2 X.1 2 (r.map Rf.cells)) := by
 unfold loop_Uses_m at hm
 refine calls_of_WC (n := 19) (args := [.agg #[.int .i64 s.op, .int .i64 s.a.st, .int .i64 s.a.bk, .int .i64 s.b.st, .int .i64 s.b.bk, .int .i64 s.ar, .int .i64 s.sp, .int .i64 s.pl, .int .i64 s.n]]) Try.func62 Z Z (Nat.le_of_ble_eq_true Z) ?_ (Own.startK hk hw0)
 refine sr ?_
 refine WL.effect Z ?_
 refine (EV.boxAgg (by decide) Z Z (fun b1 => ?_))
 refine wa Z ?_
 refine nt (WC.seq (WC.block (sr ?_)))
 refine wf fd59_0 Z ?_
 refine wl pl3 Z (Own.cell 0 Z Z) ?_
 refine wq Z (QV.eql Z Z Z Z) ?_
 refine wa Z ?_
 refine nt ?_
 refine WC.cond Z (fun h2 => ?_) (fun h2 => ?_)
 ·skip
  have hm3 := br_t h2 hm; clear hm
  refine sr ?_
  refine wf fd59_1 Z ?_
  refine wq Z (QV.loadAgg ag57 Z Z Z (fun w hw => (Own.cellsBlk 0 Z w hw).sub 1 2 Z)) ?_
  refine WL.effect Z ?_
  refine (EV.buildSlice (by decide) sz_106 (by decide) (by decide) (ps := [(0, .tmp 8)]) (cells := [.int .i64 s.a.st, .int .i64 s.a.bk]) (EvAll.cons Z Z EvAll.nil) (by kernel_rfl) (fun b4 => ?_))
  refine wa Z ?_
  refine nt (WC.ret (kr (tr ?_)))
  obtain rfl := (eq_of_some hm3).symm
  refine WK.of (fun w hw => hw.blkVec Rf.cells ([s.a] : List Rf) Z Rf.cells_len (Nat.le_of_ble_eq_true Z)) ?_
  refine WK.of (C' := Own M w [kn M w.heap.size K0 K0, vec (blkSlice b4 1 1) 57 2 (List.map Rf.cells [s.a]), blk b1 s.cells 59]) (fun w hw => hw.pick [2, 0, 1] (by decide)) ?_
  refine WK.freeze hk (fun k5 hle5 hr5 => ?_)
  have hA5 := vec_arr hr5
  refine WQ.ret1 Z Z (fun w hw => ?_)
  exact ⟨((blkSlice b4 1 1), k5), Z, hw.pick [0] (by decide), hA5⟩
 have hm6 := br_f h2 hm; clear hm
 refine sr ?_
 refine wf fd59_0 Z ?_
 refine wl pl3 Z (Own.cell 0 Z Z) ?_
 refine wq Z (QV.gtr Z Z Z Z) ?_
 refine wa Z ?_
 refine nt ?_
 refine WC.cond Z (fun h7 => ?_) (fun h7 => ?_)
 ·skip
  have hm8 := br_t h7 hm6; clear hm6
  refine sr ?_
  refine wf fd59_1 Z ?_
  refine wq Z (QV.loadAgg ag57 Z Z Z (fun w hw => (Own.cellsBlk 0 Z w hw).sub 1 2 Z)) ?_
  refine wf fd59_2 Z ?_
  refine wq Z (QV.loadAgg ag57 Z Z Z (fun w hw => (Own.cellsBlk 0 Z w hw).sub 3 2 Z)) ?_
  refine WL.effect Z ?_
  refine (EV.buildSlice (by decide) sz_106 (by decide) (by decide) (ps := [(0, .tmp 15), (1, .tmp 17)]) (cells := [.int .i64 s.a.st, .int .i64 s.a.bk, .int .i64 s.b.st, .int .i64 s.b.bk]) (EvAll.cons Z Z (EvAll.cons Z Z EvAll.nil)) (by kernel_rfl) (fun b9 => ?_))
  refine wa Z ?_
  refine nt (WC.ret (kr (tr ?_)))
  obtain rfl := (eq_of_some hm8).symm
  refine WK.of (fun w hw => hw.blkVec Rf.cells ([s.a, s.b] : List Rf) Z Rf.cells_len (Nat.le_of_ble_eq_true Z)) ?_
  refine WK.of (C' := Own M w [kn M w.heap.size K0 K0, vec (blkSlice b9 2 2) 57 2 (List.map Rf.cells [s.a, s.b]), blk b1 s.cells 59]) (fun w hw => hw.pick [2, 0, 1] (by decide)) ?_
  refine WK.freeze hk (fun k10 hle10 hr10 => ?_)
  have hA10 := vec_arr hr10
  refine WQ.ret1 Z Z (fun w hw => ?_)
  exact ⟨((blkSlice b9 2 2), k10), Z, hw.pick [0] (by decide), hA10⟩
 have hm11 := br_f h7 hm6; clear hm6
 refine sk (WQ.block (WQ.then (sr ?_)))
 refine wa Z ?_
 refine nt (WC.ret ?_)
 obtain rfl := (eq_of_some hm11).symm
 refine WQ.ret1 Z Z (fun w hw => ?_)
 exact ⟨(.slice none 0 0, K0), Z, hw.pick [1] (by decide), Arr.nil⟩

set_option maxRecDepth 8000 in
theorem loop_ref_w {v_l_logs : Value} {v_l_body : Value} {v_l_outs : Value} {l : Lp} {k_ : Int} {r_ : Rf} {r : Bool} (w : World) (hm : loop_ref_m l k_ r_ = some r) (h_l_logs : Arr w v_l_logs 1 (l.logs.map icell)) (h_l_body : Arr w v_l_body 9 (l.body.map Stm.cells)) (h_l_outs : Arr w v_l_outs 1 (l.outs.map icell)) : Calls Try.prog 123 #[.agg #[v_l_logs, v_l_body, v_l_outs], .int .i64 k_, .agg #[.int .i64 r_.st, .int .i64 r_.bk]] w (fun e w' => e = .returned (.bool r) ∧ Grow w w') := by
 unfold loop_ref_m at hm
 have hk := Base.rfl (w := w)
 refine calls_of_WC (n := 24) (args := [.agg #[v_l_logs, v_l_body, v_l_outs], .int .i64 k_, .agg #[.int .i64 r_.st, .int .i64 r_.bk]]) Try.func123 Z Z (Nat.le_of_ble_eq_true Z) ?_ (Own.startK hk (Own.start w))
 refine sr ?_
 refine WL.effect Z ?_
 refine (EV.boxAgg (by decide) Z Z (fun b1 => ?_))
 refine WL.effect Z ?_
 refine (EV.boxAgg (by decide) Z Z (fun b2 => ?_))
 refine wa Z ?_
 refine ns ?_
 refine wf fd49_1 Z ?_
 refine wl pl47 Z (Own.cell 1 Z Z) ?_
 refine wq Z (QV.lenS Try.underlying47 Z Z h_l_body.lenMap) ?_
 refine wa Z ?_
 refine nt (WC.seq (sr ?_))
 refine wf fd57_1 Z ?_
 refine wl pl3 Z (Own.cell 0 Z Z) ?_
 refine wq Z (QV.eql Z Z Z Z) ?_
 refine nt ?_
 refine WC.cond Z (fun h3 => ?_) (fun h3 => ?_)
 ·skip
  have hm4 := br_t h3 hm; clear hm
  refine WC.region ?_
  refine wm Z ?_
  refine wa Z ?_
  refine ns ?_
  refine wf fd57_1 Z ?_
  refine wl pl3 Z (Own.cell 0 Z Z) ?_
  obtain ⟨x5, hx6, hm7⟩ := bd_some hm4; clear hm4
  refine wq Z (QV.call en102 (EvAll.cons Z Z (EvAll.cons Z Z (EvAll.cons Z Z EvAll.nil))) (fun w hw => have h := loop_in_w w hx6 ; h)) ?_
  refine wm Z ?_
  refine gp Z (fun hG => QV.fieldAddr fd57_0 Z Z) ?_
  refine gp Z (fun hG => QV.load pl3 Z hG (Own.cell 0 Z Z)) ?_
  refine gp Z (fun hG => QV.move Z Z) ?_
  obtain ⟨x8, hx9, hm10⟩ := bdG_some hm7; clear hm7
  refine gp Z (fun hG => QV.call en102 (EvAll.cons Z hG (EvAll.cons Z Z (EvAll.cons Z hG EvAll.nil))) (fun w hw => have h := loop_in_w w (hx9 hG) ; h)) ?_
  refine wq Z (QV.pickAnd Z Z Z (fun h => h)) ?_
  refine wa Z ?_
  refine nt (WC.ret ?_)
  obtain rfl := (eq_of_some hm10).symm
  refine WQ.ret1 Z Z (fun w hw => ?_)
  exact ⟨Z, Own.kgrow (fun _ x => x) hw⟩
 have hm11 := br_f h3 hm; clear hm
 refine sk (WQ.then (sr ?_))
 refine wf fd57_1 Z ?_
 refine wl pl3 Z (Own.cell 0 Z Z) ?_
 obtain ⟨x12, hx13, hm14⟩ := bd_some hm11; clear hm11
 refine wq Z (QV.call en102 (EvAll.cons Z Z (EvAll.cons Z Z (EvAll.cons Z Z EvAll.nil))) (fun w hw => have h := loop_in_w w hx13 ; h)) ?_
 refine wm Z ?_
 refine gp Z (fun hG => QV.fieldAddr fd57_0 Z Z) ?_
 refine gp Z (fun hG => QV.load pl3 Z hG (Own.cell 0 Z Z)) ?_
 refine gp Z (fun hG => QV.move Z Z) ?_
 obtain ⟨x15, hx16, hm17⟩ := bdG_some hm14; clear hm14
 refine gp Z (fun hG => QV.call en102 (EvAll.cons Z hG (EvAll.cons Z Z (EvAll.cons Z hG EvAll.nil))) (fun w hw => have h := loop_in_w w (hx16 hG) ; h)) ?_
 refine wq Z (QV.pickAnd Z Z Z (fun h => h)) ?_
 refine wa Z ?_
 refine nt (WC.ret ?_)
 obtain rfl := (eq_of_some hm17).symm
 refine WQ.ret1 Z Z (fun w hw => ?_)
 exact ⟨Z, Own.kgrow (fun _ x => x) hw⟩

set_option maxRecDepth 8000 in
theorem loop_stmt_w {v_l_logs : Value} {v_l_body : Value} {v_l_outs : Value} {l : Lp} {k_ : Int} {r : Bool} (w : World) (hm : loop_stmt_m l k_ = some r) (h_l_logs : Arr w v_l_logs 1 (l.logs.map icell)) (h_l_body : Arr w v_l_body 9 (l.body.map Stm.cells)) (h_l_outs : Arr w v_l_outs 1 (l.outs.map icell)) : Calls Try.prog 103 #[.agg #[v_l_logs, v_l_body, v_l_outs], .int .i64 k_] w (fun e w' => e = .returned (.bool r) ∧ Grow w w') := by
 unfold loop_stmt_m at hm
 have hk := Base.rfl (w := w)
 refine calls_of_WC (n := 132) (args := [.agg #[v_l_logs, v_l_body, v_l_outs], .int .i64 k_]) Try.func103 Z Z (Nat.le_of_ble_eq_true Z) ?_ (Own.startK hk (Own.start w))
 refine sr ?_
 refine WL.effect Z ?_
 refine (EV.boxAgg (by decide) Z Z (fun b1 => ?_))
 refine wa Z ?_
 refine ns ?_
 refine wf fd49_1 Z ?_
 refine wl pl47 Z (Own.cell 0 Z Z) ?_
 refine wm Z ?_
 obtain ⟨c2, hm3⟩ := cs hm; clear hm
 obtain ⟨p4, hp5⟩ := h_l_body.lenMap.ix (sz := 9) ln_len c2
 refine wq Z (QV.indexSlice sl47 Z Z Z Z hp5) ?_
 refine wq Z (QV.loadAgg ag59 Z Z Z (fun w hw => ((Own.karr 1 Z hk h_l_body) w hw).ele hp5 c2)) ?_
 refine WL.effect Z ?_
 refine (EV.alloc (by decide) ze59 (fun b6 => ?_))
 refine WL.effect Z ?_
 refine (EV.store 0 Z Z Z Z Z Z (vs := (Stm.cells (ele l.body k_))) (show Value.cells _ = List.toArray _ from Z) sz59 (Nat.le_of_ble_eq_true Z) (one_cons Z (one_cons Z (one_cons Z (one_cons Z (one_cons Z (one_cons Z (one_cons Z (one_cons Z (one_cons Z one_nil))))))))) ?_)
 refine ns ?_
 refine wq Z (QV.build (ps := []) (cells := [.int .i64 0, .int .i64 0]) EvAll.nil (by kernel_rfl)) ?_
 refine WL.effect Z ?_
 refine (EV.alloc (by decide) ze57 (fun b7 => ?_))
 refine WL.effect Z ?_
 refine (EV.store 0 Z Z Z Z Z Z (vs := [.int .i64 0, .int .i64 0]) (show Value.cells _ = List.toArray _ from Z) sz57 (Nat.le_of_ble_eq_true Z) (one_cons Z (one_cons Z one_nil)) ?_)
 refine ns ?_
 refine wf fd59_3 Z ?_
 refine wl pl3 Z (Own.cell 1 Z Z) ?_
 refine wf fd49_0 Z ?_
 refine wl pl30 Z (Own.cell 2 Z Z) ?_
 refine wq Z (QV.lenS Try.underlying30 Z Z h_l_logs.lenMap) ?_
 obtain ⟨x8, hx9, hm10⟩ := bd_some hm3; clear hm3
 refine wq Z (QV.call en102 (EvAll.cons Z Z (EvAll.cons Z Z (EvAll.cons Z Z EvAll.nil))) (fun w hw => have h := loop_in_w w hx9 ; h)) ?_
 refine wm Z ?_
 refine gp Z (fun hG => QV.fieldAddr fd59_4 Z Z) ?_
 refine gp Z (fun hG => QV.load pl3 Z hG (Own.cell 1 Z Z)) ?_
 obtain ⟨x11, hx12, hm13⟩ := bdG_some hm10; clear hm10
 refine gp Z (fun hG => QV.call en102 (EvAll.cons Z hG (EvAll.cons Z Z (EvAll.cons Z Z EvAll.nil))) (fun w hw => have h := loop_in_w w (hx12 hG) ; h)) ?_
 refine wq Z (QV.pickAnd Z Z Z (fun h => h)) ?_
 refine wm Z ?_
 refine gp Z (fun hG => QV.fieldAddr fd59_5 Z Z) ?_
 refine gp Z (fun hG => QV.load pl3 Z hG (Own.cell 1 Z Z)) ?_
 obtain ⟨x14, hx15, hm16⟩ := bdG_some hm13; clear hm13
 refine gp Z (fun hG => QV.call en102 (EvAll.cons Z hG (EvAll.cons Z Z (EvAll.cons Z Z EvAll.nil))) (fun w hw => have h := loop_in_w w (hx15 hG) ; h)) ?_
 refine wq Z (QV.pickAnd Z Z Z (fun h => h)) ?_
 refine wa Z ?_
 refine ns ?_
 refine wf fd59_3 Z ?_
 refine wl pl3 Z (Own.cell 1 Z Z) ?_
 refine wq Z (QV.eql Z Z Z Z) ?_
 refine wm Z ?_
 refine gp Z (fun hG => QV.fieldAddr fd59_4 Z Z) ?_
 refine gp Z (fun hG => QV.load pl3 Z hG (Own.cell 1 Z Z)) ?_
 refine gp Z (fun hG => QV.eql Z hG Z Z) ?_
 refine wq Z (QV.pickAnd Z Z Z (fun h => h)) ?_
 refine wm Z ?_
 refine gp Z (fun hG => QV.fieldAddr fd59_5 Z Z) ?_
 refine gp Z (fun hG => QV.load pl3 Z hG (Own.cell 1 Z Z)) ?_
 refine gp Z (fun hG => QV.eql Z hG Z Z) ?_
 refine wq Z (QV.pickAnd Z Z Z (fun h => h)) ?_
 refine wa Z ?_
 refine nt (WC.seq (sr ?_))
 refine wq Z (QV.loadAgg ag59 Z Z Z (Own.cellsBlk 1 Z)) ?_
 refine WL.effect Z ?_
 obtain ⟨x17, hx18, hm19⟩ := bd_some hm16; clear hm16
 refine EV.of (C' := Own noM w [kn noM w.heap.size w w, blk b7 [.int .i64 0, .int .i64 0] 57, blk b6 (Stm.cells (ele l.body k_)) 59, blk b1 [v_l_logs, v_l_body, v_l_outs] 49]) (fun w hw => hw.pick [3, 0, 1, 2] (by decide)) ?_
 refine (EV.callR (X := Value × World) (R := []) (fun X => X.1) (fun X => []) (fun X => X.2) (fun X => Arr X.2 X.1 2 (x17.map Rf.cells)) hk (fun _ h => by cases h; decide) en62 (EvAll.cons Z Z EvAll.nil) (fun M w h1 h2 => have h := loop_Uses_w hx18  M w h1 h2; h) (fun X20 hF20 hle20 => ?_))
 refine wq Z (QV.lenS Try.underlying106 Z Z hF20.lenMap) ?_
 refine wm Z ?_
 refine nt ?_
 obtain ⟨o21, ho22, hm23⟩ := bd_some hm19; clear hm19; obtain ⟨n24, ho25⟩ := lp_some ho22
 refine WC.bloop1 (H2 := [kn noM w.heap.size w X20.2, blk b7 [.int .i64 0, .int .i64 0] 57, blk b6 (Stm.cells (ele l.body k_)) 59, blk b1 [v_l_logs, v_l_body, v_l_outs] 49]) (τ := [(1, (true, _)), (2, (true, _)), (5, (true, _)), (6, (true, _)), (7, (true, _)), (8, (true, _)), (47, (true, _)), (48, (true, _))]) (fun (x49_1 : Int) => [(49, (true, .int .i64 x49_1))]) (fun x49_1 => []) (fun x49_1 m => iter (loop_stmt_L0 l k_ x17) m x49_1 = some o21) (fun x49_1 => o21 = .go x49_1) 0 n24 ho25 ⟨Z, Z, Z, Z, Z, Z, Z, Z, Z, trivial⟩ (fun w hw => hw.pick [0, 1, 2, 3] (by decide)) ?_ ?_
 ·skip
  rintro x49_1 rfl
  refine WQ.then (WC.seq (WC.block (sr ?_)))
  refine wf fd59_0 Z ?_
  refine wl pl3 Z (Own.cell 2 Z Z) ?_
  refine wq Z (QV.eql Z Z Z Z) ?_
  refine wa Z ?_
  refine nt ?_
  refine WC.cond Z (fun h26 => ?_) (fun h26 => ?_)
  ·skip
   have hm27 := br_t h26 hm23; clear hm23
   refine sr ?_
   refine wm Z ?_
   refine wm Z ?_
   refine gp Z (fun hG => QV.fieldAddr fd59_1 Z Z) ?_
   refine gp Z (fun hG => QV.loadAgg ag57 Z Z hG (fun w hw => (Own.cellsBlk 2 Z w hw).sub 1 2 Z)) ?_
   refine gp Z (fun hG => QV.loadAgg ag57 Z Z Z (Own.cellsBlk 1 Z)) ?_
   refine gp Z (fun hG => QV.eqlF eq57 (ns := [((ele l.body k_).a).st, ((ele l.body k_).a).bk]) (ms := [0, 0]) Z hG Z hG Z Z) ?_
   refine wq Z (QV.pickAnd Z Z Z (fun h => h)) ?_
   refine wm Z ?_
   refine gp Z (fun hG => QV.fieldAddr fd59_2 Z Z) ?_
   refine gp Z (fun hG => QV.loadAgg ag57 Z Z hG (fun w hw => (Own.cellsBlk 2 Z w hw).sub 3 2 Z)) ?_
   refine gp Z (fun hG => QV.loadAgg ag57 Z Z Z (Own.cellsBlk 1 Z)) ?_
   refine gp Z (fun hG => QV.eqlF eq57 (ns := [((ele l.body k_).b).st, ((ele l.body k_).b).bk]) (ms := [0, 0]) Z hG Z hG Z Z) ?_
   refine wq Z (QV.pickAnd Z Z Z (fun h => h)) ?_
   refine wa Z ?_
   refine nt (WC.ret (kr (tr ?_)))
   obtain rfl := (eq_of_some hm27).symm
   refine WQ.ret1 Z Z (fun w hw => ?_)
   exact ⟨Z, Own.kgrow (fun _ x => x) hw⟩
  have hm28 := br_f h26 hm23; clear hm23
  refine sr ?_
  refine wf fd59_6 Z ?_
  refine wl pl2 Z (Own.cell 2 Z Z) ?_
  refine wq Z (QV.neq Z Z Z Z) ?_
  refine wa Z ?_
  refine nt ?_
  refine WC.cond Z (fun h29 => ?_) (fun h29 => ?_)
  ·skip
   have hm30 := br_t h29 hm28; clear hm28
   refine sr ?_
   refine wa Z ?_
   refine nt (WC.ret (kr (tr ?_)))
   obtain rfl := (eq_of_some hm30).symm
   refine WQ.ret1 Z Z (fun w hw => ?_)
   exact ⟨Z, Own.kgrow (fun _ x => x) hw⟩
  have hm31 := br_f h29 hm28; clear hm28
  refine sr ?_
  refine wf fd59_0 Z ?_
  refine wl pl3 Z (Own.cell 2 Z Z) ?_
  refine wq Z (QV.eql Z Z Z Z) ?_
  refine wa Z ?_
  refine nt ?_
  refine WC.cond Z (fun h32 => ?_) (fun h32 => ?_)
  ·skip
   have hm33 := br_t h32 hm31; clear hm31
   refine sr ?_
   refine wm Z ?_
   refine wm Z ?_
   refine gp Z (fun hG => QV.fieldAddr fd59_1 Z Z) ?_
   refine gp Z (fun hG => QV.loadAgg ag57 Z Z hG (fun w hw => (Own.cellsBlk 2 Z w hw).sub 1 2 Z)) ?_
   refine gp Z (fun hG => QV.loadAgg ag57 Z Z Z (Own.cellsBlk 1 Z)) ?_
   refine gp Z (fun hG => QV.eqlF eq57 (ns := [((ele l.body k_).a).st, ((ele l.body k_).a).bk]) (ms := [0, 0]) Z hG Z hG Z Z) ?_
   refine wq Z (QV.pickAnd Z Z Z (fun h => h)) ?_
   refine wm Z ?_
   refine gp Z (fun hG => QV.fieldAddr fd59_2 Z Z) ?_
   refine gp Z (fun hG => QV.loadAgg ag57 Z Z hG (fun w hw => (Own.cellsBlk 2 Z w hw).sub 3 2 Z)) ?_
   refine gp Z (fun hG => QV.loadAgg ag57 Z Z Z (Own.cellsBlk 1 Z)) ?_
   refine gp Z (fun hG => QV.eqlF eq57 (ns := [((ele l.body k_).b).st, ((ele l.body k_).b).bk]) (ms := [0, 0]) Z hG Z hG Z Z) ?_
   refine wq Z (QV.pickAnd Z Z Z (fun h => h)) ?_
   refine wa Z ?_
   refine nt (WC.ret (kr (tr ?_)))
   obtain rfl := (eq_of_some hm33).symm
   refine WQ.ret1 Z Z (fun w hw => ?_)
   exact ⟨Z, Own.kgrow (fun _ x => x) hw⟩
  have hm34 := br_f h32 hm31; clear hm31
  refine sr ?_
  refine wf fd59_0 Z ?_
  refine wl pl3 Z (Own.cell 2 Z Z) ?_
  refine wq Z (QV.eql Z Z Z Z) ?_
  refine wa Z ?_
  refine nt ?_
  refine WC.cond Z (fun h35 => ?_) (fun h35 => ?_)
  ·skip
   have hm36 := br_t h35 hm34; clear hm34
   refine sr ?_
   refine wm Z ?_
   refine wm Z ?_
   refine gp Z (fun hG => QV.fieldAddr fd59_1 Z Z) ?_
   refine gp Z (fun hG => QV.loadAgg ag57 Z Z hG (fun w hw => (Own.cellsBlk 2 Z w hw).sub 1 2 Z)) ?_
   refine gp Z (fun hG => QV.loadAgg ag57 Z Z Z (Own.cellsBlk 1 Z)) ?_
   refine gp Z (fun hG => QV.eqlF eq57 (ns := [((ele l.body k_).a).st, ((ele l.body k_).a).bk]) (ms := [0, 0]) Z hG Z hG Z Z) ?_
   refine wq Z (QV.pickAnd Z Z Z (fun h => h)) ?_
   refine wm Z ?_
   refine gp Z (fun hG => QV.fieldAddr fd59_2 Z Z) ?_
   refine gp Z (fun hG => QV.loadAgg ag57 Z Z hG (fun w hw => (Own.cellsBlk 2 Z w hw).sub 3 2 Z)) ?_
   refine gp Z (fun hG => QV.loadAgg ag57 Z Z Z (Own.cellsBlk 1 Z)) ?_
   refine gp Z (fun hG => QV.eqlF eq57 (ns := [((ele l.body k_).b).st, ((ele l.body k_).b).bk]) (ms := [0, 0]) Z hG Z hG Z Z) ?_
   refine wq Z (QV.pickAnd Z Z Z (fun h => h)) ?_
   refine wa Z ?_
   refine nt (WC.ret (kr (tr ?_)))
   obtain rfl := (eq_of_some hm36).symm
   refine WQ.ret1 Z Z (fun w hw => ?_)
   exact ⟨Z, Own.kgrow (fun _ x => x) hw⟩
  have hm37 := br_f h35 hm34; clear hm34
  refine sr ?_
  refine wf fd59_0 Z ?_
  refine wl pl3 Z (Own.cell 2 Z Z) ?_
  refine wq Z (QV.eql Z Z Z Z) ?_
  refine wa Z ?_
  refine nt ?_
  refine WC.cond Z (fun h38 => ?_) (fun h38 => ?_)
  ·skip
   have hm39 := br_t h38 hm37; clear hm37
   refine sr ?_
   refine wm Z ?_
   refine wm Z ?_
   refine gp Z (fun hG => QV.fieldAddr fd59_2 Z Z) ?_
   refine gp Z (fun hG => QV.loadAgg ag57 Z Z hG (fun w hw => (Own.cellsBlk 2 Z w hw).sub 3 2 Z)) ?_
   refine gp Z (fun hG => QV.loadAgg ag57 Z Z Z (Own.cellsBlk 1 Z)) ?_
   refine gp Z (fun hG => QV.eqlF eq57 (ns := [((ele l.body k_).b).st, ((ele l.body k_).b).bk]) (ms := [0, 0]) Z hG Z hG Z Z) ?_
   refine wq Z (QV.pickAnd Z Z Z (fun h => h)) ?_
   refine wa Z ?_
   refine nt (WC.ret (kr (tr ?_)))
   obtain rfl := (eq_of_some hm39).symm
   refine WQ.ret1 Z Z (fun w hw => ?_)
   exact ⟨Z, Own.kgrow (fun _ x => x) hw⟩
  have hm40 := br_f h38 hm37; clear hm37
  refine sk (WQ.block (WQ.then (sr ?_)))
  refine wm Z ?_
  refine wm Z ?_
  refine gp Z (fun hG => QV.fieldAddr fd59_0 Z Z) ?_
  refine gp Z (fun hG => QV.load pl3 Z hG (Own.cell 2 Z Z)) ?_
  refine gp Z (fun hG => QV.subW Z hG Z Z) ?_
  obtain ⟨x41, hx42, hm43⟩ := bdG_some hm40; clear hm40
  refine gp Z (fun hG => QV.call en102 (EvAll.cons Z hG (EvAll.cons Z Z (EvAll.cons Z Z EvAll.nil))) (fun w hw => have h := loop_in_w w (hx42 hG) ; h)) ?_
  refine wq Z (QV.pickAnd Z Z Z (fun h => h)) ?_
  refine wa Z ?_
  refine nt (WC.ret ?_)
  obtain rfl := (eq_of_some hm43).symm
  refine WQ.ret1 Z Z (fun w hw => ?_)
  exact ⟨Z, Own.kgrow (fun _ x => x) hw⟩
 rintro x49_1 m44 hI45
 obtain ⟨m46, s47, rfl, hm48, hn49⟩ := iter_step hI45; clear hI45; unfold loop_stmt_L0 at hm48
 refine sr ?_
 refine wq Z (QV.lss Z Z Z Z) ?_
 refine nt (WC.seq ?_)
 refine WC.cond Z (fun h50 => ?_) (fun h50 => ?_)
 ·skip
  have hm51 := br_t h50 hm48; clear hm48
  refine sk (WQ.then (WC.seq (WC.block (sr ?_))))
  obtain ⟨c52, hm53⟩ := cs hm51; clear hm51
  obtain ⟨p54, hp55⟩ := hF20.lenMap.ix (sz := 2) ln_len c52
  refine wq Z (QV.indexSlice sl106 Z Z Z Z hp55) ?_
  refine wq Z (QV.loadAgg ag57 Z Z Z (fun w hw => ((Own.karr 0 Z hk hF20) w hw).ele hp55 c52)) ?_
  refine WL.effect Z ?_
  refine (EV.alloc (by decide) ze57 (fun b56 => ?_))
  refine WL.effect Z ?_
  refine (EV.store 0 Z Z Z Z Z Z (vs := [.int .i64 ((ele x17 x49_1).st), .int .i64 ((ele x17 x49_1).bk)]) (show Value.cells _ = List.toArray _ from Z) sz57 (Nat.le_of_ble_eq_true Z) (one_cons Z (one_cons Z one_nil)) ?_)
  refine ns ?_
  refine wq Z (QV.loadAgg ag49 Z Z Z (Own.cellsBlk 4 Z)) ?_
  refine wm Z ?_
  refine wq Z (QV.loadAgg ag57 Z Z Z (Own.cellsBlk 0 Z)) ?_
  obtain ⟨x57, hx58, hm59⟩ := bd_some hm53; clear hm53
  refine wq Z (QV.call en123 (EvAll.cons Z Z (EvAll.cons Z Z (EvAll.cons Z Z EvAll.nil))) (fun w hw => have h := loop_ref_w w hx58 ((Own.karr 1 Z hk (h_l_logs.le hle20)) w hw) ((Own.karr 1 Z hk (h_l_body.le hle20)) w hw) ((Own.karr 1 Z hk (h_l_outs.le hle20)) w hw); h)) ?_
  refine wq Z (QV.not Z Z) ?_
  refine nt ?_
  refine WC.cond Z (fun h60 => ?_) (fun h60 => ?_)
  ·skip
   have hm61 := br_t h60 hm59; clear hm59
   refine sr ?_
   refine wa Z ?_
   refine nt (WC.ret (kr (tr (tr (kr (tr (tr ?_)))))))
   obtain rfl := up_ret hm61 hn49
   obtain rfl := (eq_of_some hm23).symm
   refine WQ.ret1 Z Z (fun w hw => ?_)
   exact ⟨Z, Own.kgrow (fun _ x => x) hw⟩
  have hm62 := br_f h60 hm59; clear hm59
  refine sk (WQ.block (WQ.then (WC.region ?_)))
  obtain ⟨c63, hm64⟩ := cs hm62; clear hm62
  refine wq Z (QV.add Z Z Z Z c63) ?_
  refine wm Z ?_
  refine WL.nil ?_
  exact WQ.again1 (x49_1 + 1) m46 (up_next hm64 hn49) (Nat.lt_succ_self _) ⟨Z, Z, Z, Z, Z, Z, Z, Z, Z, trivial⟩ (fun w hw => hw.pick [1, 2, 3, 4] (by decide))
 have hm65 := br_f h50 hm48; clear hm48
 refine WC.exit (te (te (WQ.block_exit ?_)))
 exact WQ.out1 x49_1 (up_brk hm65 hn49) ⟨Z, Z, Z, Z, Z, Z, Z, Z, Z, trivial⟩ (fun w hw => hw.pick [0, 1, 2, 3] (by decide))

set_option maxRecDepth 8000 in
theorem loop_May_w {v_l_logs : Value} {v_l_body : Value} {v_l_outs : Value} {l : Lp} {r : Bool} (w : World) (hm : loop_May_m l = some r) (h_l_logs : Arr w v_l_logs 1 (l.logs.map icell)) (h_l_body : Arr w v_l_body 9 (l.body.map Stm.cells)) (h_l_outs : Arr w v_l_outs 1 (l.outs.map icell)) : Calls Try.prog 61 #[.agg #[v_l_logs, v_l_body, v_l_outs]] w (fun e w' => e = .returned (.bool r) ∧ Grow w w') := by
 unfold loop_May_m at hm
 have hk := Base.rfl (w := w)
 refine calls_of_WC (n := 64) (args := [.agg #[v_l_logs, v_l_body, v_l_outs]]) Try.func61 Z Z (Nat.le_of_ble_eq_true Z) ?_ (Own.startK hk (Own.start w))
 refine sr ?_
 refine WL.effect Z ?_
 refine (EV.boxAgg (by decide) Z Z (fun b1 => ?_))
 refine wa Z ?_
 refine nt (WC.seq (sr ?_))
 refine wf fd49_0 Z ?_
 refine wl pl30 Z (Own.cell 0 Z Z) ?_
 refine wq Z (QV.lenS Try.underlying30 Z Z h_l_logs.lenMap) ?_
 refine wm Z ?_
 refine nt ?_
 obtain ⟨o2, ho3, hm4⟩ := bd_some hm; clear hm; obtain ⟨n5, ho6⟩ := lp_some ho3
 refine WC.bloop1 (H2 := [blk b1 [v_l_logs, v_l_body, v_l_outs] 49, kn noM w.heap.size w w]) (τ := [(1, (true, _)), (10, (true, _)), (11, (true, _))]) (fun (x12_1 : Int) => [(12, (true, .int .i64 x12_1))]) (fun x12_1 => []) (fun x12_1 m => iter (loop_May_L0 l) m x12_1 = some o2) (fun x12_1 => o2 = .go x12_1) 0 n5 ho6 ⟨Z, Z, Z, Z, trivial⟩ (fun w hw => hw.pick [0, 1] (by decide)) ?_ ?_
 ·skip
  rintro x12_1 rfl
  refine WQ.then (sr ?_)
  refine wa Z ?_
  refine nt (WC.seq (sr ?_))
  refine wf fd49_2 Z ?_
  refine wl pl30 Z (Own.cell 0 Z Z) ?_
  refine wq Z (QV.lenS Try.underlying30 Z Z h_l_outs.lenMap) ?_
  refine wm Z ?_
  refine nt ?_
  obtain ⟨o7, ho8, hm9⟩ := bd_some hm4; clear hm4; obtain ⟨n10, ho11⟩ := lp_some ho8
  refine WC.bloop2 (H2 := [blk b1 [v_l_logs, v_l_body, v_l_outs] 49, kn noM w.heap.size w w]) (τ := [(1, (true, _)), (21, (true, _)), (22, (true, _))]) (fun (last5_2 : Int) (x23_2 : Int) => [(5, (true, .int .i64 last5_2)), (23, (true, .int .i64 x23_2))]) (fun last5_2 x23_2 => []) (fun last5_2 x23_2 m => iter (loop_May_L2 l) m (last5_2, x23_2) = some o7) (fun last5_2 x23_2 => o7 = .go (last5_2, x23_2)) (-1) 0 n10 ho11 ⟨Z, Z, Z, Z, Z, trivial⟩ (fun w hw => hw.pick [0, 1] (by decide)) ?_ ?_
  ·skip
   rintro last5_2 x23_2 rfl
   refine WQ.then (WC.seq (sr ?_))
   refine wf fd49_1 Z ?_
   refine wl pl47 Z (Own.cell 0 Z Z) ?_
   refine wq Z (QV.lenS Try.underlying47 Z Z h_l_body.lenMap) ?_
   refine wm Z ?_
   refine nt ?_
   obtain ⟨o12, ho13, hm14⟩ := bd_some hm9; clear hm9; obtain ⟨n15, ho16⟩ := lp_some ho13
   refine WC.bloop1 (H2 := [blk b1 [v_l_logs, v_l_body, v_l_outs] 49, kn noM w.heap.size w w]) (τ := [(1, (true, _)), (39, (true, _))]) (fun (x40_3 : Int) => [(40, (true, .int .i64 x40_3))]) (fun x40_3 => []) (fun x40_3 m => iter (loop_May_L4 l) m x40_3 = some o12) (fun x40_3 => o12 = .go x40_3) 0 n15 ho16 ⟨Z, Z, Z, trivial⟩ (fun w hw => hw.pick [0, 1] (by decide)) ?_ ?_
   ·skip
    rintro x40_3 rfl
    refine WQ.then (sr ?_)
    refine wf fd49_0 Z ?_
    refine wl pl30 Z (Own.cell 0 Z Z) ?_
    refine wq Z (QV.lenS Try.underlying30 Z Z h_l_logs.lenMap) ?_
    refine wq Z (QV.leq Z Z Z Z) ?_
    refine wm Z ?_
    refine gp Z (fun hG => QV.fieldAddr fd49_1 Z Z) ?_
    refine gp Z (fun hG => QV.load pl47 Z hG (Own.cell 0 Z Z)) ?_
    refine gp Z (fun hG => QV.lenS Try.underlying47 Z hG h_l_body.lenMap) ?_
    refine gp Z (fun hG => QV.gtr Z hG Z Z) ?_
    refine wq Z (QV.pickAnd Z Z Z (fun h => h)) ?_
    refine wa Z ?_
    refine nt (WC.ret ?_)
    obtain rfl := (eq_of_some hm14).symm
    refine WQ.ret1 Z Z (fun w hw => ?_)
    exact ⟨Z, Own.kgrow (fun _ x => x) hw⟩
   rintro x40_3 m17 hI18
   obtain ⟨m19, s20, rfl, hm21, hn22⟩ := iter_step hI18; clear hI18; unfold loop_May_L4 at hm21
   refine sr ?_
   refine wq Z (QV.lss Z Z Z Z) ?_
   refine nt (WC.seq ?_)
   refine WC.cond Z (fun h23 => ?_) (fun h23 => ?_)
   ·skip
    have hm24 := br_t h23 hm21; clear hm21
    refine sk (WQ.then (WC.seq (WC.block (sr ?_))))
    refine wm Z ?_
    refine wa Z ?_
    refine ns ?_
    refine wf fd49_1 Z ?_
    refine wl pl47 Z (Own.cell 0 Z Z) ?_
    refine wq Z (QV.lenS Try.underlying47 Z Z h_l_body.lenMap) ?_
    refine wq Z (QV.gtr Z Z Z Z) ?_
    refine wm Z ?_
    refine gn Z (fun hG => QV.loadAgg ag49 Z Z Z (Own.cellsBlk 0 Z)) ?_
    refine gn Z (fun hG => QV.move Z Z) ?_
    obtain ⟨x25, hx26, hm27⟩ := bdG_some hm24; clear hm24
    refine gn Z (fun hG => QV.call en103 (EvAll.cons Z hG (EvAll.cons Z hG EvAll.nil)) (fun w hw => have h := loop_stmt_w w (hx26 hG) ((Own.karr 1 Z hk h_l_logs) w hw) ((Own.karr 1 Z hk h_l_body) w hw) ((Own.karr 1 Z hk h_l_outs) w hw); h)) ?_
    refine gn Z (fun hG => QV.not Z hG) ?_
    refine wq Z (QV.pickOr Z Z Z (fun h => notF h)) ?_
    refine nt ?_
    refine WC.cond Z (fun h28 => ?_) (fun h28 => ?_)
    ·skip
     have hm29 := br_t h28 hm27; clear hm27
     refine sr ?_
     refine wa Z ?_
     refine nt (WC.ret (kr (tr (tr (kr (tr (tr ?_)))))))
     obtain rfl := up_ret hm29 hn22
     obtain rfl := (eq_of_some hm14).symm
     refine WQ.ret1 Z Z (fun w hw => ?_)
     exact ⟨Z, Own.kgrow (fun _ x => x) hw⟩
    have hm30 := br_f h28 hm27; clear hm27
    refine sk (WQ.block (WQ.then (WC.region ?_)))
    obtain ⟨c31, hm32⟩ := cs hm30; clear hm30
    refine wq Z (QV.add Z Z Z Z c31) ?_
    refine wm Z ?_
    refine WL.nil ?_
    exact WQ.again1 (x40_3 + 1) m19 (up_next hm32 hn22) (Nat.lt_succ_self _) ⟨Z, Z, Z, trivial⟩ (fun w hw => hw.pick [0, 1] (by decide))
   have hm33 := br_f h23 hm21; clear hm21
   refine WC.exit (te (te (WQ.block_exit ?_)))
   exact WQ.out1 x40_3 (up_brk hm33 hn22) ⟨Z, Z, Z, trivial⟩ (fun w hw => hw.pick [0, 1] (by decide))
  rintro last5_2 x23_2 m34 hI35
  obtain ⟨m36, s37, rfl, hm38, hn39⟩ := iter_step hI35; clear hI35; unfold loop_May_L2 at hm38; simp only at hm38
  refine sr ?_
  refine wq Z (QV.lss Z Z Z Z) ?_
  refine nt (WC.seq ?_)
  refine WC.cond Z (fun h40 => ?_) (fun h40 => ?_)
  ·skip
   have hm41 := br_t h40 hm38; clear hm38
   refine sk (WQ.then (WC.seq (WC.block (sr ?_))))
   obtain ⟨c42, hm43⟩ := cs hm41; clear hm41
   obtain ⟨p44, hp45⟩ := h_l_outs.lenMap.ix (sz := 1) ln_len c42
   refine wq Z (QV.indexSlice sl30 Z Z Z Z hp45) ?_
   refine wl pl3 Z (fun w hw => CellsAt.one 0 (((Own.karr 1 Z hk h_l_outs) w hw).ele hp45 c42) Z) ?_
   refine wa Z ?_
   refine nt (WC.seq (sr ?_))
   refine wm Z ?_
   refine wm Z ?_
   obtain ⟨c46, hm47⟩ := cs hm43; clear hm43
   refine wq Z (QV.add Z Z Z Z c46) ?_
   refine wf fd49_1 Z ?_
   refine wl pl47 Z (Own.cell 0 Z Z) ?_
   refine wq Z (QV.lenS Try.underlying47 Z Z h_l_body.lenMap) ?_
   obtain ⟨x48, hx49, hm50⟩ := bd_some hm47; clear hm47
   refine wq Z (QV.call en102 (EvAll.cons Z Z (EvAll.cons Z Z (EvAll.cons Z Z EvAll.nil))) (fun w hw => have h := loop_in_w w hx49 ; h)) ?_
   refine wq Z (QV.not Z Z) ?_
   refine nt ?_
   refine WC.cond Z (fun h51 => ?_) (fun h51 => ?_)
   ·skip
    have hm52 := br_t h51 hm50; clear hm50
    refine sr ?_
    refine wa Z ?_
    refine nt (WC.ret (tr (kr (tr (tr (kr (tr (tr ?_))))))))
    obtain rfl := up_ret hm52 hn39
    obtain rfl := (eq_of_some hm9).symm
    refine WQ.ret1 Z Z (fun w hw => ?_)
    exact ⟨Z, Own.kgrow (fun _ x => x) hw⟩
   have hm53 := br_f h51 hm50; clear hm50
   refine sk (WQ.then (WC.region ?_))
   refine wm Z ?_
   refine wa Z ?_
   refine WL.nil (WQ.block (WQ.then (WC.region ?_)))
   obtain ⟨c54, hm55⟩ := cs hm53; clear hm53
   refine wq Z (QV.add Z Z Z Z c54) ?_
   refine wm Z ?_
   refine WL.nil ?_
   exact WQ.again2 (ele l.outs x23_2) (x23_2 + 1) m36 (up_next hm55 hn39) (Nat.lt_succ_self _) ⟨Z, Z, Z, Z, Z, trivial⟩ (fun w hw => hw.pick [0, 1] (by decide))
  have hm56 := br_f h40 hm38; clear hm38
  refine WC.exit (te (te (WQ.block_exit ?_)))
  exact WQ.out2 last5_2 x23_2 (up_brk hm56 hn39) ⟨Z, Z, Z, Z, Z, trivial⟩ (fun w hw => hw.pick [0, 1] (by decide))
 rintro x12_1 m57 hI58
 obtain ⟨m59, s60, rfl, hm61, hn62⟩ := iter_step hI58; clear hI58; unfold loop_May_L0 at hm61
 refine sr ?_
 refine wq Z (QV.lss Z Z Z Z) ?_
 refine nt (WC.seq ?_)
 refine WC.cond Z (fun h63 => ?_) (fun h63 => ?_)
 ·skip
  have hm64 := br_t h63 hm61; clear hm61
  refine sk (WQ.then (WC.seq (WC.block (sr ?_))))
  obtain ⟨c65, hm66⟩ := cs hm64; clear hm64
  obtain ⟨p67, hp68⟩ := h_l_logs.lenMap.ix (sz := 1) ln_len c65
  refine wq Z (QV.indexSlice sl30 Z Z Z Z hp68) ?_
  refine wl pl3 Z (fun w hw => CellsAt.one 0 (((Own.karr 1 Z hk h_l_logs) w hw).ele hp68 c65) Z) ?_
  refine wa Z ?_
  refine ns ?_
  refine wm Z ?_
  obtain ⟨x69, hx70, hm71⟩ := bd_some hm66; clear hm66
  refine wq Z (QV.call en102 (EvAll.cons Z Z (EvAll.cons Z Z (EvAll.cons Z Z EvAll.nil))) (fun w hw => have h := loop_in_w w hx70 ; h)) ?_
  refine wq Z (QV.not Z Z) ?_
  refine nt ?_
  refine WC.cond Z (fun h72 => ?_) (fun h72 => ?_)
  ·skip
   have hm73 := br_t h72 hm71; clear hm71
   refine sr ?_
   refine wa Z ?_
   refine nt (WC.ret (kr (tr (tr (kr (tr (tr ?_)))))))
   obtain rfl := up_ret hm73 hn62
   obtain rfl := (eq_of_some hm4).symm
   refine WQ.ret1 Z Z (fun w hw => ?_)
   exact ⟨Z, Own.kgrow (fun _ x => x) hw⟩
  have hm74 := br_f h72 hm71; clear hm71
  refine sk (WQ.block (WQ.then (WC.region ?_)))
  obtain ⟨c75, hm76⟩ := cs hm74; clear hm74
  refine wq Z (QV.add Z Z Z Z c75) ?_
  refine wm Z ?_
  refine WL.nil ?_
  exact WQ.again1 (x12_1 + 1) m59 (up_next hm76 hn62) (Nat.lt_succ_self _) ⟨Z, Z, Z, Z, trivial⟩ (fun w hw => hw.pick [0, 1] (by decide))
 have hm77 := br_f h63 hm61; clear hm61
 refine WC.exit (te (te (WQ.block_exit ?_)))
 exact WQ.out1 x12_1 (up_brk hm77 hn62) ⟨Z, Z, Z, Z, trivial⟩ (fun w hw => hw.pick [0, 1] (by decide))

set_option maxRecDepth 8000 in
theorem roundelayref2_Within_w {n_ : Int} {least : Int} {most : Int} {r : Bool} (w : World) (hm : roundelayref2_Within_m n_ least most = some r)  : Calls Try.prog 50 #[.int .i64 n_, .int .i64 least, .int .i64 most] w (fun e w' => e = .returned (.bool r) ∧ Grow w w') := by
 unfold roundelayref2_Within_m at hm
 have hk := Base.rfl (w := w)
 refine calls_of_WC (n := 15) (args := [.int .i64 n_, .int .i64 least, .int .i64 most]) Try.func50 Z Z (Nat.le_of_ble_eq_true Z) ?_ (Own.startK hk (Own.start w))
 refine sr ?_
 refine wa Z ?_
 refine ns ?_
 refine wm Z ?_
 refine wm Z ?_
 refine wq Z (QV.geq Z Z Z Z) ?_
 refine wm Z ?_
 refine gp Z (fun hG => QV.move Z Z) ?_
 refine gp Z (fun hG => QV.move Z Z) ?_
 refine gp Z (fun hG => QV.leq Z hG Z hG) ?_
 refine wq Z (QV.pickAnd Z Z Z (fun h => h)) ?_
 refine wa Z ?_
 refine nt (WC.ret ?_)
 obtain rfl := (eq_of_some hm).symm
 refine WQ.ret1 Z Z (fun w hw => ?_)
 exact ⟨Z, Own.kgrow (fun _ x => x) hw⟩

set_option maxRecDepth 8000 in
theorem roundelayref2_Uses_w {s : Stm} {r : List Rf} {K0 : World} (hm : roundelayref2_Uses_m s = some r)  (M : Nat → Prop) (w : World) (hk : Base M K0 w) (hw0 : Own M w [] w) : Calls Try.prog 74 #[.agg #[.int .i64 s.op, .int .i64 s.a.st, .int .i64 s.a.bk, .int .i64 s.b.st, .int .i64 s.b.bk, .int .i64 s.ar, .int .i64 s.sp, .int .i64 s.pl, .int .i64 s.n]] w (fun e w' => ∃ X : Value × World, e = .returned (X.1) ∧ Own M w (kn M w.heap.size K0 X.2 :: []) w' ∧ Arr X.2 X.1 2 (r.map Rf.cells)) := by
 unfold roundelayref2_Uses_m at hm
 refine calls_of_WC (n := 17) (args := [.agg #[.int .i64 s.op, .int .i64 s.a.st, .int .i64 s.a.bk, .int .i64 s.b.st, .int .i64 s.b.bk, .int .i64 s.ar, .int .i64 s.sp, .int .i64 s.pl, .int .i64 s.n]]) Try.func74 Z Z (Nat.le_of_ble_eq_true Z) ?_ (Own.startK hk hw0)
 refine sr ?_
 refine WL.effect Z ?_
 refine (EV.boxAgg (by decide) Z Z (fun b1 => ?_))
 refine wa Z ?_
 refine nt (WC.seq (sr ?_))
 refine wf fd59_0 Z ?_
 refine wl pl3 Z (Own.cell 0 Z Z) ?_
 refine wq Z (QV.eql Z Z Z Z) ?_
 refine nt ?_
 refine WC.cond Z (fun h2 => ?_) (fun h2 => ?_)
 ·skip
  have hm3 := br_t h2 hm; clear hm
  refine sr ?_
  refine wf fd59_1 Z ?_
  refine wq Z (QV.loadAgg ag57 Z Z Z (fun w hw => (Own.cellsBlk 0 Z w hw).sub 1 2 Z)) ?_
  refine WL.effect Z ?_
  refine (EV.buildSlice (by decide) sz_106 (by decide) (by decide) (ps := [(0, .tmp 7)]) (cells := [.int .i64 s.a.st, .int .i64 s.a.bk]) (EvAll.cons Z Z EvAll.nil) (by kernel_rfl) (fun b4 => ?_))
  refine wa Z ?_
  refine nt (WC.ret (tr ?_))
  obtain rfl := (eq_of_some hm3).symm
  refine WK.of (fun w hw => hw.blkVec Rf.cells ([s.a] : List Rf) Z Rf.cells_len (Nat.le_of_ble_eq_true Z)) ?_
  refine WK.of (C' := Own M w [kn M w.heap.size K0 K0, vec (blkSlice b4 1 1) 57 2 (List.map Rf.cells [s.a]), blk b1 s.cells 59]) (fun w hw => hw.pick [2, 0, 1] (by decide)) ?_
  refine WK.freeze hk (fun k5 hle5 hr5 => ?_)
  have hA5 := vec_arr hr5
  refine WQ.ret1 Z Z (fun w hw => ?_)
  exact ⟨((blkSlice b4 1 1), k5), Z, hw.pick [0] (by decide), hA5⟩
 have hm6 := br_f h2 hm; clear hm
 refine sk (WQ.then (WC.seq (sr ?_)))
 refine wf fd59_0 Z ?_
 refine wl pl3 Z (Own.cell 0 Z Z) ?_
 refine wq Z (QV.gtr Z Z Z Z) ?_
 refine nt ?_
 refine WC.cond Z (fun h7 => ?_) (fun h7 => ?_)
 ·skip
  have hm8 := br_t h7 hm6; clear hm6
  refine sr ?_
  refine wf fd59_1 Z ?_
  refine wq Z (QV.loadAgg ag57 Z Z Z (fun w hw => (Own.cellsBlk 0 Z w hw).sub 1 2 Z)) ?_
  refine wf fd59_2 Z ?_
  refine wq Z (QV.loadAgg ag57 Z Z Z (fun w hw => (Own.cellsBlk 0 Z w hw).sub 3 2 Z)) ?_
  refine WL.effect Z ?_
  refine (EV.buildSlice (by decide) sz_106 (by decide) (by decide) (ps := [(0, .tmp 13), (1, .tmp 15)]) (cells := [.int .i64 s.a.st, .int .i64 s.a.bk, .int .i64 s.b.st, .int .i64 s.b.bk]) (EvAll.cons Z Z (EvAll.cons Z Z EvAll.nil)) (by kernel_rfl) (fun b9 => ?_))
  refine wa Z ?_
  refine nt (WC.ret (tr ?_))
  obtain rfl := (eq_of_some hm8).symm
  refine WK.of (fun w hw => hw.blkVec Rf.cells ([s.a, s.b] : List Rf) Z Rf.cells_len (Nat.le_of_ble_eq_true Z)) ?_
  refine WK.of (C' := Own M w [kn M w.heap.size K0 K0, vec (blkSlice b9 2 2) 57 2 (List.map Rf.cells [s.a, s.b]), blk b1 s.cells 59]) (fun w hw => hw.pick [2, 0, 1] (by decide)) ?_
  refine WK.freeze hk (fun k10 hle10 hr10 => ?_)
  have hA10 := vec_arr hr10
  refine WQ.ret1 Z Z (fun w hw => ?_)
  exact ⟨((blkSlice b9 2 2), k10), Z, hw.pick [0] (by decide), hA10⟩
 have hm11 := br_f h7 hm6; clear hm6
 refine sk (WQ.then (sr ?_))
 refine wa Z ?_
 refine nt (WC.ret ?_)
 obtain rfl := (eq_of_some hm11).symm
 refine WQ.ret1 Z Z (fun w hw => ?_)
 exact ⟨(.slice none 0 0, K0), Z, hw.pick [1] (by decide), Arr.nil⟩

set_option maxRecDepth 8000 in
theorem roundelayref2_stmt_w {v_l_logs : Value} {v_l_body : Value} {v_l_outs : Value} {l : Lp} {k_ : Int} {r : Bool} (w : World) (hm : roundelayref2_stmt_m l k_ = some r) (h_l_logs : Arr w v_l_logs 1 (l.logs.map icell)) (h_l_body : Arr w v_l_body 9 (l.body.map Stm.cells)) (h_l_outs : Arr w v_l_outs 1 (l.outs.map icell)) : Calls Try.prog 109 #[.agg #[v_l_logs, v_l_body, v_l_outs], .int .i64 k_] w (fun e w' => e = .returned (.bool r) ∧ Grow w w') := by
 unfold roundelayref2_stmt_m at hm
 have hk := Base.rfl (w := w)
 refine calls_of_WC (n := 142) (args := [.agg #[v_l_logs, v_l_body, v_l_outs], .int .i64 k_]) Try.func109 Z Z (Nat.le_of_ble_eq_true Z) ?_ (Own.startK hk (Own.start w))
 refine sr ?_
 refine WL.effect Z ?_
 refine (EV.boxAgg (by decide) Z Z (fun b1 => ?_))
 refine wa Z ?_
 refine ns ?_
 refine wf fd49_1 Z ?_
 refine wl pl47 Z (Own.cell 0 Z Z) ?_
 refine wm Z ?_
 obtain ⟨c2, hm3⟩ := cs hm; clear hm
 obtain ⟨p4, hp5⟩ := h_l_body.lenMap.ix (sz := 9) ln_len c2
 refine wq Z (QV.indexSlice sl47 Z Z Z Z hp5) ?_
 refine wq Z (QV.loadAgg ag59 Z Z Z (fun w hw => ((Own.karr 1 Z hk h_l_body) w hw).ele hp5 c2)) ?_
 refine WL.effect Z ?_
 refine (EV.alloc (by decide) ze59 (fun b6 => ?_))
 refine WL.effect Z ?_
 refine (EV.store 0 Z Z Z Z Z Z (vs := (Stm.cells (ele l.body k_))) (show Value.cells _ = List.toArray _ from Z) sz59 (Nat.le_of_ble_eq_true Z) (one_cons Z (one_cons Z (one_cons Z (one_cons Z (one_cons Z (one_cons Z (one_cons Z (one_cons Z (one_cons Z one_nil))))))))) ?_)
 refine ns ?_
 refine wq Z (QV.loadAgg ag59 Z Z Z (Own.cellsBlk 0 Z)) ?_
 refine WL.effect Z ?_
 obtain ⟨x7, hx8, hm9⟩ := bd_some hm3; clear hm3
 refine EV.of (C' := Own noM w [kn noM w.heap.size w w, blk b6 (Stm.cells (ele l.body k_)) 59, blk b1 [v_l_logs, v_l_body, v_l_outs] 49]) (fun w hw => hw.pick [2, 0, 1] (by decide)) ?_
 refine (EV.callR (X := Value × World) (R := []) (fun X => X.1) (fun X => []) (fun X => X.2) (fun X => Arr X.2 X.1 2 (x7.map Rf.cells)) hk (fun _ h => by cases h; decide) en74 (EvAll.cons Z Z EvAll.nil) (fun M w h1 h2 => have h := roundelayref2_Uses_w hx8  M w h1 h2; h) (fun X10 hF10 hle10 => ?_))
 refine wa Z ?_
 refine nt (WC.seq (sr ?_))
 refine wa Z ?_
 refine nt ?_
 obtain ⟨o11, ho12, hm13⟩ := bd_some hm9; clear hm9; obtain ⟨n14, ho15⟩ := lp_some ho12
 refine WC.bloop1 (H2 := [kn noM w.heap.size w X10.2, blk b6 (Stm.cells (ele l.body k_)) 59, blk b1 [v_l_logs, v_l_body, v_l_outs] 49]) (τ := [(1, (true, _)), (2, (true, _)), (5, (true, _)), (6, (true, _))]) (fun (i7_1 : Int) => [(7, (true, .int .i64 i7_1))]) (fun i7_1 => []) (fun i7_1 m => iter (roundelayref2_stmt_L0 l k_ x7) m i7_1 = some o11) (fun i7_1 => o11 = .go i7_1) 0 n14 ho15 ⟨Z, Z, Z, Z, Z, trivial⟩ (fun w hw => hw.pick [0, 1, 2] (by decide)) ?_ ?_
 ·skip
  rintro i7_1 rfl
  refine WQ.then (WC.seq (sr ?_))
  refine wm Z ?_
  refine wq Z (QV.lenS Try.underlying106 Z Z hF10.lenMap) ?_
  refine wq Z (QV.lss Z Z Z Z) ?_
  refine wm Z ?_
  refine gp Z (fun hG => QV.fieldAddr fd59_2 Z Z) ?_
  refine gp Z (fun hG => QV.fieldAddr fd57_0 Z hG) ?_
  refine gp Z (fun hG => QV.load pl3 Z hG (Own.cell 1 Z Z)) ?_
  refine gp Z (fun hG => QV.neq Z hG Z Z) ?_
  refine gp Z (fun hG => QV.move Z hG) ?_
  refine WL.g Z Z (GuardIs.negC Z Z) (fun hG => QV.fieldAddr fd59_2 Z Z) ?_
  refine WL.g Z Z (GuardIs.negC Z Z) (fun hG => QV.fieldAddr fd57_1 Z hG) ?_
  refine WL.g Z Z (GuardIs.negC Z Z) (fun hG => QV.load pl3 Z hG (Own.cell 1 Z Z)) ?_
  refine WL.g Z Z (GuardIs.negC Z Z) (fun hG => QV.neq Z hG Z Z) ?_
  refine gp Z (fun hG => QV.pickOr Z hG Z (fun h => andN hG h)) ?_
  refine wq Z (QV.pickAnd Z Z Z (fun h => h)) ?_
  refine wm Z ?_
  refine gn Z (fun hG => QV.move Z Z) ?_
  refine gn Z (fun hG => QV.lenS Try.underlying106 Z hG hF10.lenMap) ?_
  refine gn Z (fun hG => QV.lss Z hG Z Z) ?_
  refine gn Z (fun hG => QV.move Z hG) ?_
  refine WL.g Z Z (GuardIs.posC Z Z) (fun hG => QV.fieldAddr fd59_1 Z Z) ?_
  refine WL.g Z Z (GuardIs.posC Z Z) (fun hG => QV.fieldAddr fd57_0 Z hG) ?_
  refine WL.g Z Z (GuardIs.posC Z Z) (fun hG => QV.load pl3 Z hG (Own.cell 1 Z Z)) ?_
  refine WL.g Z Z (GuardIs.posC Z Z) (fun hG => QV.neq Z hG Z Z) ?_
  refine WL.g Z Z (GuardIs.posC Z Z) (fun hG => QV.move Z hG) ?_
  refine WL.g Z Z (GuardIs.negC Z Z) (fun hG => QV.fieldAddr fd59_1 Z Z) ?_
  refine WL.g Z Z (GuardIs.negC Z Z) (fun hG => QV.fieldAddr fd57_1 Z hG) ?_
  refine WL.g Z Z (GuardIs.negC Z Z) (fun hG => QV.load pl3 Z hG (Own.cell 1 Z Z)) ?_
  refine WL.g Z Z (GuardIs.negC Z Z) (fun hG => QV.neq Z hG Z Z) ?_
  refine WL.g Z Z (GuardIs.posC Z Z) (fun hG => QV.pickOr Z hG Z (fun h => andN hG h)) ?_
  refine gn Z (fun hG => QV.pickAnd Z hG Z (fun h => andT hG h)) ?_
  refine wq Z (QV.pickOr Z Z Z (fun h => notF h)) ?_
  refine nt ?_
  refine WC.cond Z (fun h16 => ?_) (fun h16 => ?_)
  ·skip
   have hm17 := br_t h16 hm13; clear hm13
   refine sr ?_
   refine wa Z ?_
   refine nt (WC.ret (tr ?_))
   obtain rfl := (eq_of_some hm17).symm
   refine WQ.ret1 Z Z (fun w hw => ?_)
   exact ⟨Z, Own.kgrow (fun _ x => x) hw⟩
  have hm18 := br_f h16 hm13; clear hm13
  refine sk (WQ.then (WC.seq (sr ?_)))
  refine wf fd59_0 Z ?_
  refine wl pl3 Z (Own.cell 1 Z Z) ?_
  refine wq Z (QV.neq Z Z Z Z) ?_
  refine wm Z ?_
  refine gp Z (fun hG => QV.fieldAddr fd59_6 Z Z) ?_
  refine gp Z (fun hG => QV.load pl2 Z hG (Own.cell 1 Z Z)) ?_
  refine gp Z (fun hG => QV.neq Z hG Z Z) ?_
  refine wq Z (QV.pickAnd Z Z Z (fun h => h)) ?_
  refine nt ?_
  refine WC.cond Z (fun h19 => ?_) (fun h19 => ?_)
  ·skip
   have hm20 := br_t h19 hm18; clear hm18
   refine sr ?_
   refine wa Z ?_
   refine nt (WC.ret (tr ?_))
   obtain rfl := (eq_of_some hm20).symm
   refine WQ.ret1 Z Z (fun w hw => ?_)
   exact ⟨Z, Own.kgrow (fun _ x => x) hw⟩
  have hm21 := br_f h19 hm18; clear hm18
  refine sk (WQ.then (WC.seq (sr ?_)))
  refine wf fd59_0 Z ?_
  refine wl pl3 Z (Own.cell 1 Z Z) ?_
  refine wq Z (QV.eql Z Z Z Z) ?_
  refine wm Z ?_
  refine gn Z (fun hG => QV.fieldAddr fd59_0 Z Z) ?_
  refine gn Z (fun hG => QV.load pl3 Z hG (Own.cell 1 Z Z)) ?_
  refine gn Z (fun hG => QV.eql Z hG Z Z) ?_
  refine wq Z (QV.pickOr Z Z Z (fun h => notF h)) ?_
  refine nt ?_
  refine WC.cond Z (fun h22 => ?_) (fun h22 => ?_)
  ·skip
   have hm23 := br_t h22 hm21; clear hm21
   refine sr ?_
   refine wf fd59_3 Z ?_
   refine wl pl3 Z (Own.cell 1 Z Z) ?_
   refine wf fd49_0 Z ?_
   refine wl pl30 Z (Own.cell 2 Z Z) ?_
   refine wq Z (QV.lenS Try.underlying30 Z Z (h_l_logs.le hle10).lenMap) ?_
   obtain ⟨c24, hm25⟩ := cs hm23; clear hm23
   refine wq Z (QV.sub Z Z Z Z c24) ?_
   obtain ⟨x26, hx27, hm28⟩ := bd_some hm25; clear hm25
   refine wq Z (QV.call en50 (EvAll.cons Z Z (EvAll.cons Z Z (EvAll.cons Z Z EvAll.nil))) (fun w hw => have h := roundelayref2_Within_w w hx27 ; h)) ?_
   refine wm Z ?_
   refine gp Z (fun hG => QV.fieldAddr fd59_4 Z Z) ?_
   refine gp Z (fun hG => QV.load pl3 Z hG (Own.cell 1 Z Z)) ?_
   obtain ⟨x29, hx30, hm31⟩ := bdG_some hm28; clear hm28
   refine gp Z (fun hG => QV.call en50 (EvAll.cons Z hG (EvAll.cons Z Z (EvAll.cons Z Z EvAll.nil))) (fun w hw => have h := roundelayref2_Within_w w (hx30 hG) ; h)) ?_
   refine wq Z (QV.pickAnd Z Z Z (fun h => h)) ?_
   refine wm Z ?_
   refine gp Z (fun hG => QV.fieldAddr fd59_5 Z Z) ?_
   refine gp Z (fun hG => QV.load pl3 Z hG (Own.cell 1 Z Z)) ?_
   obtain ⟨x32, hx33, hm34⟩ := bdG_some hm31; clear hm31
   refine gp Z (fun hG => QV.call en50 (EvAll.cons Z hG (EvAll.cons Z Z (EvAll.cons Z Z EvAll.nil))) (fun w hw => have h := roundelayref2_Within_w w (hx33 hG) ; h)) ?_
   refine wq Z (QV.pickAnd Z Z Z (fun h => h)) ?_
   refine wa Z ?_
   refine nt (WC.ret (tr ?_))
   obtain rfl := (eq_of_some hm34).symm
   refine WQ.ret1 Z Z (fun w hw => ?_)
   exact ⟨Z, Own.kgrow (fun _ x => x) hw⟩
  have hm35 := br_f h22 hm21; clear hm21
  refine sk (WQ.then (WC.seq (sr ?_)))
  refine wf fd59_3 Z ?_
  refine wl pl3 Z (Own.cell 1 Z Z) ?_
  refine wq Z (QV.neq Z Z Z Z) ?_
  refine wm Z ?_
  refine gn Z (fun hG => QV.fieldAddr fd59_4 Z Z) ?_
  refine gn Z (fun hG => QV.load pl3 Z hG (Own.cell 1 Z Z)) ?_
  refine gn Z (fun hG => QV.neq Z hG Z Z) ?_
  refine wq Z (QV.pickOr Z Z Z (fun h => notF h)) ?_
  refine wm Z ?_
  refine gn Z (fun hG => QV.fieldAddr fd59_5 Z Z) ?_
  refine gn Z (fun hG => QV.load pl3 Z hG (Own.cell 1 Z Z)) ?_
  refine gn Z (fun hG => QV.neq Z hG Z Z) ?_
  refine wq Z (QV.pickOr Z Z Z (fun h => notF h)) ?_
  refine nt ?_
  refine WC.cond Z (fun h36 => ?_) (fun h36 => ?_)
  ·skip
   have hm37 := br_t h36 hm35; clear hm35
   refine sr ?_
   refine wa Z ?_
   refine nt (WC.ret (tr ?_))
   obtain rfl := (eq_of_some hm37).symm
   refine WQ.ret1 Z Z (fun w hw => ?_)
   exact ⟨Z, Own.kgrow (fun _ x => x) hw⟩
  have hm38 := br_f h36 hm35; clear hm35
  refine sk (WQ.then (sr ?_))
  refine wf fd59_0 Z ?_
  refine wl pl3 Z (Own.cell 1 Z Z) ?_
  refine wq Z (QV.eql Z Z Z Z) ?_
  refine wm Z ?_
  refine gn Z (fun hG => QV.fieldAddr fd59_0 Z Z) ?_
  refine gn Z (fun hG => QV.load pl3 Z hG (Own.cell 1 Z Z)) ?_
  refine gn Z (fun hG => QV.eql Z hG Z Z) ?_
  refine wq Z (QV.pickOr Z Z Z (fun h => notF h)) ?_
  refine wm Z ?_
  refine gn Z (fun hG => QV.fieldAddr fd59_0 Z Z) ?_
  refine gn Z (fun hG => QV.load pl3 Z hG (Own.cell 1 Z Z)) ?_
  obtain ⟨x39, hx40, hm41⟩ := bdG_some hm38; clear hm38
  refine gn Z (fun hG => QV.call en50 (EvAll.cons Z hG (EvAll.cons Z Z (EvAll.cons Z Z EvAll.nil))) (fun w hw => have h := roundelayref2_Within_w w (hx40 hG) ; h)) ?_
  refine wq Z (QV.pickOr Z Z Z (fun h => notF h)) ?_
  refine wa Z ?_
  refine nt (WC.ret ?_)
  obtain rfl := (eq_of_some hm41).symm
  refine WQ.ret1 Z Z (fun w hw => ?_)
  exact ⟨Z, Own.kgrow (fun _ x => x) hw⟩
 rintro i7_1 m42 hI43
 obtain ⟨m44, s45, rfl, hm46, hn47⟩ := iter_step hI43; clear hI43; unfold roundelayref2_stmt_L0 at hm46
 refine WC.seq (sr ?_)
 refine wm Z ?_
 refine wm Z ?_
 refine wq Z (QV.lenS Try.underlying106 Z Z hF10.lenMap) ?_
 refine wq Z (QV.lss Z Z Z Z) ?_
 refine nt ?_
 refine WC.cond Z (fun h48 => ?_) (fun h48 => ?_)
 ·skip
  have hm49 := br_t h48 hm46; clear hm46
  refine sk (WQ.then (WC.seq (WC.block (sr ?_))))
  refine wf fd49_1 Z ?_
  refine wl pl47 Z (Own.cell 2 Z Z) ?_
  refine wq Z (QV.lenS Try.underlying47 Z Z (h_l_body.le hle10).lenMap) ?_
  obtain ⟨c50, hm51⟩ := cs hm49; clear hm49
  refine wq Z (QV.sub Z Z Z Z c50) ?_
  refine wa Z ?_
  refine nt (WC.seq (sr ?_))
  refine wm Z ?_
  refine wm Z ?_
  obtain ⟨c52, hm53⟩ := cs hm51; clear hm51
  obtain ⟨p54, hp55⟩ := hF10.lenMap.ix (sz := 2) ln_len c52
  refine wq Z (QV.indexSlice sl106 Z Z Z Z hp55) ?_
  refine wf fd57_1 Z ?_
  refine wl pl3 Z (fun w hw => CellsAt.one 1 (((Own.karr 0 Z hk hF10) w hw).ele hp55 c52) Z) ?_
  refine wq Z (QV.eql Z Z Z Z) ?_
  refine nt ?_
  refine WC.cond Z (fun h56 => ?_) (fun h56 => ?_)
  ·skip
   have hm57 := br_t h56 hm53; clear hm53
   refine WC.region ?_
   refine wm Z ?_
   obtain ⟨c58, hm59⟩ := cs hm57; clear hm57
   refine wq Z (QV.sub Z Z Z Z c58) ?_
   refine wa Z ?_
   refine ns ?_
   refine wm Z ?_
   refine wm Z ?_
   obtain ⟨c60, hm61⟩ := cs hm59; clear hm59
   obtain ⟨p62, hp63⟩ := hF10.lenMap.ix (sz := 2) ln_len c60
   refine wq Z (QV.indexSlice sl106 Z Z Z Z hp63) ?_
   refine wf fd57_1 Z ?_
   refine wl pl3 Z (fun w hw => CellsAt.one 1 (((Own.karr 0 Z hk hF10) w hw).ele hp63 c60) Z) ?_
   obtain ⟨x64, hx65, hm66⟩ := bd_some hm61; clear hm61
   refine wq Z (QV.call en50 (EvAll.cons Z Z (EvAll.cons Z Z (EvAll.cons Z Z EvAll.nil))) (fun w hw => have h := roundelayref2_Within_w w hx65 ; h)) ?_
   refine wq Z (QV.not Z Z) ?_
   refine wm Z ?_
   refine gn Z (fun hG => QV.move Z Z) ?_
   refine gn Z (fun hG => QV.move Z Z) ?_
   obtain ⟨c67, hm68⟩ := cs hm66; clear hm66
   obtain ⟨p69, hp70⟩ := hF10.lenMap.ixG (sz := 2) ln_len c67
   refine gn Z (fun hG => QV.indexSlice sl106 Z hG Z hG (hp70 hG)) ?_
   refine gn Z (fun hG => QV.fieldAddr fd57_0 Z hG) ?_
   refine gn Z (fun hG => QV.load pl3 Z hG (fun w hw => CellsAt.one 0 (((Own.karr 0 Z hk hF10) w hw).ele (hp70 hG) (c67 hG)) Z)) ?_
   refine gn Z (fun hG => QV.move Z Z) ?_
   obtain ⟨x71, hx72, hm73⟩ := bdG_some hm68; clear hm68
   refine gn Z (fun hG => QV.call en50 (EvAll.cons Z hG (EvAll.cons Z Z (EvAll.cons Z hG EvAll.nil))) (fun w hw => have h := roundelayref2_Within_w w (hx72 hG) ; h)) ?_
   refine gn Z (fun hG => QV.not Z hG) ?_
   refine wq Z (QV.pickOr Z Z Z (fun h => notF h)) ?_
   refine nt ?_
   refine WC.cond Z (fun h74 => ?_) (fun h74 => ?_)
   ·skip
    have hm75 := br_t h74 hm73; clear hm73
    refine sr ?_
    refine wa Z ?_
    refine nt (WC.ret (kr (tr (tr (kr (tr (tr ?_)))))))
    obtain rfl := up_ret hm75 hn47
    obtain rfl := (eq_of_some hm13).symm
    refine WQ.ret1 Z Z (fun w hw => ?_)
    exact ⟨Z, Own.kgrow (fun _ x => x) hw⟩
   have hm76 := br_f h74 hm73; clear hm73
   refine sk (WQ.block (WQ.then (WC.region ?_)))
   refine wm Z ?_
   obtain ⟨c77, hm78⟩ := cs hm76; clear hm76
   refine wq Z (QV.add Z Z Z Z c77) ?_
   refine wa Z ?_
   refine WL.nil ?_
   exact WQ.again1 (i7_1 + 1) m44 (up_next hm78 hn47) (Nat.lt_succ_self _) ⟨Z, Z, Z, Z, Z, trivial⟩ (fun w hw => hw.pick [0, 1, 2] (by decide))
  have hm79 := br_f h56 hm53; clear hm53
  refine sk (WQ.then (sr ?_))
  refine wm Z ?_
  refine wm Z ?_
  obtain ⟨c80, hm81⟩ := cs hm79; clear hm79
  obtain ⟨p82, hp83⟩ := hF10.lenMap.ix (sz := 2) ln_len c80
  refine wq Z (QV.indexSlice sl106 Z Z Z Z hp83) ?_
  refine wf fd57_1 Z ?_
  refine wl pl3 Z (fun w hw => CellsAt.one 1 (((Own.karr 0 Z hk hF10) w hw).ele hp83 c80) Z) ?_
  obtain ⟨x84, hx85, hm86⟩ := bd_some hm81; clear hm81
  refine wq Z (QV.call en50 (EvAll.cons Z Z (EvAll.cons Z Z (EvAll.cons Z Z EvAll.nil))) (fun w hw => have h := roundelayref2_Within_w w hx85 ; h)) ?_
  refine wq Z (QV.not Z Z) ?_
  refine wm Z ?_
  refine gn Z (fun hG => QV.move Z Z) ?_
  refine gn Z (fun hG => QV.move Z Z) ?_
  obtain ⟨c87, hm88⟩ := cs hm86; clear hm86
  obtain ⟨p89, hp90⟩ := hF10.lenMap.ixG (sz := 2) ln_len c87
  refine gn Z (fun hG => QV.indexSlice sl106 Z hG Z hG (hp90 hG)) ?_
  refine gn Z (fun hG => QV.fieldAddr fd57_0 Z hG) ?_
  refine gn Z (fun hG => QV.load pl3 Z hG (fun w hw => CellsAt.one 0 (((Own.karr 0 Z hk hF10) w hw).ele (hp90 hG) (c87 hG)) Z)) ?_
  refine gn Z (fun hG => QV.move Z Z) ?_
  obtain ⟨x91, hx92, hm93⟩ := bdG_some hm88; clear hm88
  refine gn Z (fun hG => QV.call en50 (EvAll.cons Z hG (EvAll.cons Z Z (EvAll.cons Z hG EvAll.nil))) (fun w hw => have h := roundelayref2_Within_w w (hx92 hG) ; h)) ?_
  refine gn Z (fun hG => QV.not Z hG) ?_
  refine wq Z (QV.pickOr Z Z Z (fun h => notF h)) ?_
  refine nt ?_
  refine WC.cond Z (fun h94 => ?_) (fun h94 => ?_)
  ·skip
   have hm95 := br_t h94 hm93; clear hm93
   refine sr ?_
   refine wa Z ?_
   refine nt (WC.ret (kr (tr (tr (kr (tr (tr ?_)))))))
   obtain rfl := up_ret hm95 hn47
   obtain rfl := (eq_of_some hm13).symm
   refine WQ.ret1 Z Z (fun w hw => ?_)
   exact ⟨Z, Own.kgrow (fun _ x => x) hw⟩
  have hm96 := br_f h94 hm93; clear hm93
  refine sk (WQ.block (WQ.then (WC.region ?_)))
  refine wm Z ?_
  obtain ⟨c97, hm98⟩ := cs hm96; clear hm96
  refine wq Z (QV.add Z Z Z Z c97) ?_
  refine wa Z ?_
  refine WL.nil ?_
  exact WQ.again1 (i7_1 + 1) m44 (up_next hm98 hn47) (Nat.lt_succ_self _) ⟨Z, Z, Z, Z, Z, trivial⟩ (fun w hw => hw.pick [0, 1, 2] (by decide))
 have hm99 := br_f h48 hm46; clear hm46
 refine WC.exit (te (te (WQ.block_exit ?_)))
 exact WQ.out1 i7_1 (up_brk hm99 hn47) ⟨Z, Z, Z, Z, Z, trivial⟩ (fun w hw => hw.pick [0, 1, 2] (by decide))

set_option maxRecDepth 8000 in
theorem roundelayref2_May_w {v_l_logs : Value} {v_l_body : Value} {v_l_outs : Value} {l : Lp} {r : Bool} (w : World) (hm : roundelayref2_May_m l = some r) (h_l_logs : Arr w v_l_logs 1 (l.logs.map icell)) (h_l_body : Arr w v_l_body 9 (l.body.map Stm.cells)) (h_l_outs : Arr w v_l_outs 1 (l.outs.map icell)) : Calls Try.prog 68 #[.agg #[v_l_logs, v_l_body, v_l_outs]] w (fun e w' => e = .returned (.bool r) ∧ Grow w w') := by
 unfold roundelayref2_May_m at hm
 have hk := Base.rfl (w := w)
 refine calls_of_WC (n := 79) (args := [.agg #[v_l_logs, v_l_body, v_l_outs]]) Try.func68 Z Z (Nat.le_of_ble_eq_true Z) ?_ (Own.startK hk (Own.start w))
 refine sr ?_
 refine WL.effect Z ?_
 refine (EV.boxAgg (by decide) Z Z (fun b1 => ?_))
 refine wa Z ?_
 refine ns ?_
 refine wf fd49_1 Z ?_
 refine wl pl47 Z (Own.cell 0 Z Z) ?_
 refine wq Z (QV.lenS Try.underlying47 Z Z h_l_body.lenMap) ?_
 refine wa Z ?_
 refine nt (WC.seq (sr ?_))
 refine wf fd49_0 Z ?_
 refine wl pl30 Z (Own.cell 0 Z Z) ?_
 refine wq Z (QV.lenS Try.underlying30 Z Z h_l_logs.lenMap) ?_
 refine wq Z (QV.gtr Z Z Z Z) ?_
 refine wm Z ?_
 refine gn Z (fun hG => QV.move Z Z) ?_
 refine gn Z (fun hG => QV.lss Z hG Z Z) ?_
 refine wq Z (QV.pickOr Z Z Z (fun h => notF h)) ?_
 refine wm Z ?_
 refine gn Z (fun hG => QV.move Z Z) ?_
 refine gn Z (fun hG => QV.gtr Z hG Z Z) ?_
 refine wq Z (QV.pickOr Z Z Z (fun h => notF h)) ?_
 refine nt ?_
 refine WC.cond Z (fun h2 => ?_) (fun h2 => ?_)
 ·skip
  have hm3 := br_t h2 hm; clear hm
  refine sr ?_
  refine wa Z ?_
  refine nt (WC.ret (tr ?_))
  obtain rfl := (eq_of_some hm3).symm
  refine WQ.ret1 Z Z (fun w hw => ?_)
  exact ⟨Z, Own.kgrow (fun _ x => x) hw⟩
 have hm4 := br_f h2 hm; clear hm
 refine sk (WQ.then (WC.seq (sr ?_)))
 refine wa Z ?_
 refine nt ?_
 obtain ⟨o5, ho6, hm7⟩ := bd_some hm4; clear hm4; obtain ⟨n8, ho9⟩ := lp_some ho6
 refine WC.bloop1 (H2 := [blk b1 [v_l_logs, v_l_body, v_l_outs] 49, kn noM w.heap.size w w]) (τ := [(1, (true, _)), (3, (true, _))]) (fun (i4_1 : Int) => [(4, (true, .int .i64 i4_1))]) (fun i4_1 => []) (fun i4_1 m => iter (roundelayref2_May_L0 l) m i4_1 = some o5) (fun i4_1 => o5 = .go i4_1) 0 n8 ho9 ⟨Z, Z, Z, trivial⟩ (fun w hw => hw.pick [0, 1] (by decide)) ?_ ?_
 ·skip
  rintro i4_1 rfl
  refine WQ.then (WC.seq (sr ?_))
  refine wa Z ?_
  refine nt ?_
  obtain ⟨o10, ho11, hm12⟩ := bd_some hm7; clear hm7; obtain ⟨n13, ho14⟩ := lp_some ho11
  refine WC.bloop1 (H2 := [blk b1 [v_l_logs, v_l_body, v_l_outs] 49, kn noM w.heap.size w w]) (τ := [(1, (true, _)), (3, (true, _))]) (fun (i5_2 : Int) => [(5, (true, .int .i64 i5_2))]) (fun i5_2 => []) (fun i5_2 m => iter (roundelayref2_May_L2 l) m i5_2 = some o10) (fun i5_2 => o10 = .go i5_2) 0 n13 ho14 ⟨Z, Z, Z, trivial⟩ (fun w hw => hw.pick [0, 1] (by decide)) ?_ ?_
  ·skip
   rintro i5_2 rfl
   refine WQ.then (WC.seq (sr ?_))
   refine wa Z ?_
   refine nt ?_
   obtain ⟨o15, ho16, hm17⟩ := bd_some hm12; clear hm12; obtain ⟨n18, ho19⟩ := lp_some ho16
   refine WC.bloop1 (H2 := [blk b1 [v_l_logs, v_l_body, v_l_outs] 49, kn noM w.heap.size w w]) (τ := [(1, (true, _)), (3, (true, _))]) (fun (k6_3 : Int) => [(6, (true, .int .i64 k6_3))]) (fun k6_3 => []) (fun k6_3 m => iter (roundelayref2_May_L4 l) m k6_3 = some o15) (fun k6_3 => o15 = .go k6_3) 0 n18 ho19 ⟨Z, Z, Z, trivial⟩ (fun w hw => hw.pick [0, 1] (by decide)) ?_ ?_
   ·skip
    rintro k6_3 rfl
    refine WQ.then (sr ?_)
    refine wa Z ?_
    refine nt (WC.ret ?_)
    obtain rfl := (eq_of_some hm17).symm
    refine WQ.ret1 Z Z (fun w hw => ?_)
    exact ⟨Z, Own.kgrow (fun _ x => x) hw⟩
   rintro k6_3 m20 hI21
   obtain ⟨m22, s23, rfl, hm24, hn25⟩ := iter_step hI21; clear hI21; unfold roundelayref2_May_L4 at hm24
   refine WC.seq (sr ?_)
   refine wm Z ?_
   refine wm Z ?_
   refine wq Z (QV.lss Z Z Z Z) ?_
   refine nt ?_
   refine WC.cond Z (fun h26 => ?_) (fun h26 => ?_)
   ·skip
    have hm27 := br_t h26 hm24; clear hm24
    refine sk (WQ.then (WC.seq (WC.block (sr ?_))))
    refine wq Z (QV.loadAgg ag49 Z Z Z (Own.cellsBlk 0 Z)) ?_
    refine wm Z ?_
    obtain ⟨x28, hx29, hm30⟩ := bd_some hm27; clear hm27
    refine wq Z (QV.call en109 (EvAll.cons Z Z (EvAll.cons Z Z EvAll.nil)) (fun w hw => have h := roundelayref2_stmt_w w hx29 ((Own.karr 1 Z hk h_l_logs) w hw) ((Own.karr 1 Z hk h_l_body) w hw) ((Own.karr 1 Z hk h_l_outs) w hw); h)) ?_
    refine wq Z (QV.not Z Z) ?_
    refine nt ?_
    refine WC.cond Z (fun h31 => ?_) (fun h31 => ?_)
    ·skip
     have hm32 := br_t h31 hm30; clear hm30
     refine sr ?_
     refine wa Z ?_
     refine nt (WC.ret (kr (tr (tr (kr (tr (tr ?_)))))))
     obtain rfl := up_ret hm32 hn25
     obtain rfl := (eq_of_some hm17).symm
     refine WQ.ret1 Z Z (fun w hw => ?_)
     exact ⟨Z, Own.kgrow (fun _ x => x) hw⟩
    have hm33 := br_f h31 hm30; clear hm30
    refine sk (WQ.block (WQ.then (WC.region ?_)))
    refine wm Z ?_
    obtain ⟨c34, hm35⟩ := cs hm33; clear hm33
    refine wq Z (QV.add Z Z Z Z c34) ?_
    refine wa Z ?_
    refine WL.nil ?_
    exact WQ.again1 (k6_3 + 1) m22 (up_next hm35 hn25) (Nat.lt_succ_self _) ⟨Z, Z, Z, trivial⟩ (fun w hw => hw.pick [0, 1] (by decide))
   have hm36 := br_f h26 hm24; clear hm24
   refine WC.exit (te (te (WQ.block_exit ?_)))
   exact WQ.out1 k6_3 (up_brk hm36 hn25) ⟨Z, Z, Z, trivial⟩ (fun w hw => hw.pick [0, 1] (by decide))
  rintro i5_2 m37 hI38
  obtain ⟨m39, s40, rfl, hm41, hn42⟩ := iter_step hI38; clear hI38; unfold roundelayref2_May_L2 at hm41
  refine WC.seq (sr ?_)
  refine wm Z ?_
  refine wf fd49_2 Z ?_
  refine wl pl30 Z (Own.cell 0 Z Z) ?_
  refine wq Z (QV.lenS Try.underlying30 Z Z h_l_outs.lenMap) ?_
  refine wq Z (QV.lss Z Z Z Z) ?_
  refine nt ?_
  refine WC.cond Z (fun h43 => ?_) (fun h43 => ?_)
  ·skip
   have hm44 := br_t h43 hm41; clear hm41
   refine sk (WQ.then (WC.seq (WC.block (WC.seq ?_))))
   refine WC.dr (m := 27) (S := Own noM w [kn noM w.heap.size w w, blk b1 [v_l_logs, v_l_body, v_l_outs] 49]) (by kernel_rfl) (by kernel_rfl) (fun w hw => hw.pick [1, 0] (by decide)) ?_
   refine wz 0 Z Z (QV.fieldAddr fd49_2 Z Z) ?_
   refine wz 1 Z Z (QV.load pl30 Z Z (Own.cell 1 Z Z)) ?_
   refine wz 2 Z Z (QV.move Z Z) ?_
   obtain ⟨c45, hm46⟩ := cs hm44; clear hm44
   obtain ⟨p47, hp48⟩ := h_l_outs.lenMap.ix (sz := 1) ln_len c45
   refine wz 3 Z Z (QV.indexSlice sl30 Z Z Z Z hp48) ?_
   refine wz 4 Z Z (QV.load pl3 Z Z (fun w hw => CellsAt.one 0 (((Own.karr 0 Z hk h_l_outs) w hw).ele hp48 c45) Z)) ?_
   refine wz 5 Z Z (QV.move Z Z) ?_
   obtain ⟨c49, hm50⟩ := cs hm46; clear hm46
   refine wz 6 Z Z (QV.sub Z Z Z Z c49) ?_
   obtain ⟨x51, hx52, hm53⟩ := bd_some hm50; clear hm50
   refine wz 7 Z Z (QV.call en50 (EvAll.cons Z Z (EvAll.cons Z Z (EvAll.cons Z Z EvAll.nil))) (fun w hw => have h := roundelayref2_Within_w w hx52 ; h)) ?_
   refine wz 8 Z Z (QV.not Z Z) ?_
   refine wz 9 Z Z (QV.move Z Z) ?_
   refine WD.g 10 Z (by kernel_rfl) Z Z (GuardIs.neg Z Z) (fun hG => QV.move Z Z) ?_
   refine WD.g 11 Z (by kernel_rfl) Z Z (GuardIs.neg Z Z) (fun hG => QV.gtr Z hG Z Z) ?_
   refine WD.g 12 Z (by kernel_rfl) Z Z (GuardIs.neg Z Z) (fun hG => QV.move Z hG) ?_
   refine WD.g 13 Z (by kernel_rfl) Z Z (GuardIs.posC Z Z) (fun hG => QV.fieldAddr fd49_2 Z Z) ?_
   refine WD.g 14 Z (by kernel_rfl) Z Z (GuardIs.posC Z Z) (fun hG => QV.load pl30 Z hG (Own.cell 1 Z Z)) ?_
   refine WD.g 15 Z (by kernel_rfl) Z Z (GuardIs.posC Z Z) (fun hG => QV.move Z Z) ?_
   obtain ⟨c54, hm55⟩ := cs hm53; clear hm53
   obtain ⟨p56, hp57⟩ := h_l_outs.lenMap.ixG (sz := 1) ln_len c54
   refine WD.g 16 Z (by kernel_rfl) Z Z (GuardIs.posC Z Z) (fun hG => QV.indexSlice sl30 Z hG Z hG (hp57 hG)) ?_
   refine WD.g 17 Z (by kernel_rfl) Z Z (GuardIs.posC Z Z) (fun hG => QV.load pl3 Z hG (fun w hw => CellsAt.one 0 (((Own.karr 0 Z hk h_l_outs) w hw).ele (hp57 hG) (c54 hG)) Z)) ?_
   refine WD.g 18 Z (by kernel_rfl) Z Z (GuardIs.posC Z Z) (fun hG => QV.fieldAddr fd49_2 Z Z) ?_
   refine WD.g 19 Z (by kernel_rfl) Z Z (GuardIs.posC Z Z) (fun hG => QV.load pl30 Z hG (Own.cell 1 Z Z)) ?_
   refine WD.g 20 Z (by kernel_rfl) Z Z (GuardIs.posC Z Z) (fun hG => QV.move Z Z) ?_
   obtain ⟨c58, hm59⟩ := cs hm55; clear hm55
   refine WD.g 21 Z (by kernel_rfl) Z Z (GuardIs.posC Z Z) (fun hG => QV.sub Z hG Z Z (c58 hG)) ?_
   obtain ⟨c60, hm61⟩ := cs hm59; clear hm59
   obtain ⟨p62, hp63⟩ := h_l_outs.lenMap.ixG (sz := 1) ln_len c60
   refine WD.g 22 Z (by kernel_rfl) Z Z (GuardIs.posC Z Z) (fun hG => QV.indexSlice sl30 Z hG Z hG (hp63 hG)) ?_
   refine WD.g 23 Z (by kernel_rfl) Z Z (GuardIs.posC Z Z) (fun hG => QV.load pl3 Z hG (fun w hw => CellsAt.one 0 (((Own.karr 0 Z hk h_l_outs) w hw).ele (hp63 hG) (c60 hG)) Z)) ?_
   refine WD.g 24 Z (by kernel_rfl) Z Z (GuardIs.posC Z Z) (fun hG => QV.leq Z hG Z hG) ?_
   refine WD.g 25 Z (by kernel_rfl) Z Z (GuardIs.neg Z Z) (fun hG => QV.pickAnd Z hG Z (fun h => andT hG h)) ?_
   refine wz 26 Z Z (QV.pickOr Z Z Z (fun h => notF h)) ?_
   refine WD.e (by kernel_rfl) ?_
   refine WQ.then ?_
   refine WC.cond Z (fun h64 => ?_) (fun h64 => ?_)
   ·skip
    have hm65 := br_t h64 hm61; clear hm61
    refine sr ?_
    refine wa Z ?_
    refine nt (WC.ret (kr (tr (tr (kr (tr (tr ?_)))))))
    obtain rfl := up_ret hm65 hn42
    obtain rfl := (eq_of_some hm12).symm
    refine WQ.ret1 Z Z (fun w hw => ?_)
    exact ⟨Z, Own.kgrow (fun _ x => x) hw⟩
   have hm66 := br_f h64 hm61; clear hm61
   refine sk (WQ.block (WQ.then (WC.region ?_)))
   refine wm Z ?_
   obtain ⟨c67, hm68⟩ := cs hm66; clear hm66
   refine wq Z (QV.add Z Z Z Z c67) ?_
   refine wa Z ?_
   refine WL.nil ?_
   exact WQ.again1 (i5_2 + 1) m39 (up_next hm68 hn42) (Nat.lt_succ_self _) ⟨Z, Z, Z, trivial⟩ (fun w hw => hw.pick [0, 1] (by decide))
  have hm69 := br_f h43 hm41; clear hm41
  refine WC.exit (te (te (WQ.block_exit ?_)))
  exact WQ.out1 i5_2 (up_brk hm69 hn42) ⟨Z, Z, Z, trivial⟩ (fun w hw => hw.pick [0, 1] (by decide))
 rintro i4_1 m70 hI71
 obtain ⟨m72, s73, rfl, hm74, hn75⟩ := iter_step hI71; clear hI71; unfold roundelayref2_May_L0 at hm74
 refine WC.seq (sr ?_)
 refine wm Z ?_
 refine wf fd49_0 Z ?_
 refine wl pl30 Z (Own.cell 0 Z Z) ?_
 refine wq Z (QV.lenS Try.underlying30 Z Z h_l_logs.lenMap) ?_
 refine wq Z (QV.lss Z Z Z Z) ?_
 refine nt ?_
 refine WC.cond Z (fun h76 => ?_) (fun h76 => ?_)
 ·skip
  have hm77 := br_t h76 hm74; clear hm74
  refine sk (WQ.then (WC.seq (WC.block (sr ?_))))
  refine wf fd49_0 Z ?_
  refine wl pl30 Z (Own.cell 0 Z Z) ?_
  refine wm Z ?_
  obtain ⟨c78, hm79⟩ := cs hm77; clear hm77
  obtain ⟨p80, hp81⟩ := h_l_logs.lenMap.ix (sz := 1) ln_len c78
  refine wq Z (QV.indexSlice sl30 Z Z Z Z hp81) ?_
  refine wl pl3 Z (fun w hw => CellsAt.one 0 (((Own.karr 1 Z hk h_l_logs) w hw).ele hp81 c78) Z) ?_
  obtain ⟨x82, hx83, hm84⟩ := bd_some hm79; clear hm79
  refine wq Z (QV.call en50 (EvAll.cons Z Z (EvAll.cons Z Z (EvAll.cons Z Z EvAll.nil))) (fun w hw => have h := roundelayref2_Within_w w hx83 ; h)) ?_
  refine wq Z (QV.not Z Z) ?_
  refine nt ?_
  refine WC.cond Z (fun h85 => ?_) (fun h85 => ?_)
  ·skip
   have hm86 := br_t h85 hm84; clear hm84
   refine sr ?_
   refine wa Z ?_
   refine nt (WC.ret (kr (tr (tr (kr (tr (tr ?_)))))))
   obtain rfl := up_ret hm86 hn75
   obtain rfl := (eq_of_some hm7).symm
   refine WQ.ret1 Z Z (fun w hw => ?_)
   exact ⟨Z, Own.kgrow (fun _ x => x) hw⟩
  have hm87 := br_f h85 hm84; clear hm84
  refine sk (WQ.block (WQ.then (WC.region ?_)))
  refine wm Z ?_
  obtain ⟨c88, hm89⟩ := cs hm87; clear hm87
  refine wq Z (QV.add Z Z Z Z c88) ?_
  refine wa Z ?_
  refine WL.nil ?_
  exact WQ.again1 (i4_1 + 1) m72 (up_next hm89 hn75) (Nat.lt_succ_self _) ⟨Z, Z, Z, trivial⟩ (fun w hw => hw.pick [0, 1] (by decide))
 have hm90 := br_f h76 hm74; clear hm74
 refine WC.exit (te (te (WQ.block_exit ?_)))
 exact WQ.out1 i4_1 (up_brk hm90 hn75) ⟨Z, Z, Z, trivial⟩ (fun w hw => hw.pick [0, 1] (by decide))

set_option maxRecDepth 8000 in
theorem roundelayref2_Fits_w {v_l_logs : Value} {v_l_body : Value} {v_l_outs : Value} {v_s_bef : Value} {v_s_mem : Value} {l : Lp} {s : Sta} {r : Bool} (w : World) (hm : roundelayref2_Fits_m l s = some r) (h_l_logs : Arr w v_l_logs 1 (l.logs.map icell)) (h_l_body : Arr w v_l_body 9 (l.body.map Stm.cells)) (h_l_outs : Arr w v_l_outs 1 (l.outs.map icell)) (h_s_bef : RowsA w v_s_bef s.bef) (h_s_mem : RowsA w v_s_mem s.mem) : Calls Try.prog 43 #[.agg #[v_l_logs, v_l_body, v_l_outs], .agg #[v_s_bef, v_s_mem]] w (fun e w' => e = .returned (.bool r) ∧ Grow w w') := by
 unfold roundelayref2_Fits_m at hm
 have hk := Base.rfl (w := w)
 refine calls_of_WC (n := 64) (args := [.agg #[v_l_logs, v_l_body, v_l_outs], .agg #[v_s_bef, v_s_mem]]) Try.func43 Z Z (Nat.le_of_ble_eq_true Z) ?_ (Own.startK hk (Own.start w))
 refine sr ?_
 refine WL.effect Z ?_
 refine (EV.boxAgg (by decide) Z Z (fun b1 => ?_))
 refine WL.effect Z ?_
 refine (EV.boxAgg (by decide) Z Z (fun b2 => ?_))
 refine wa Z ?_
 refine nt (WC.seq (sr ?_))
 refine wq Z (QV.loadAgg ag49 Z Z Z (Own.cellsBlk 1 Z)) ?_
 obtain ⟨x3, hx4, hm5⟩ := bd_some hm; clear hm
 refine wq Z (QV.call en68 (EvAll.cons Z Z EvAll.nil) (fun w hw => have h := roundelayref2_May_w w hx4 ((Own.karr 2 Z hk h_l_logs) w hw) ((Own.karr 2 Z hk h_l_body) w hw) ((Own.karr 2 Z hk h_l_outs) w hw); h)) ?_
 refine wq Z (QV.not Z Z) ?_
 refine wm Z ?_
 refine gn Z (fun hG => QV.fieldAddr fd80_0 Z Z) ?_
 refine gn Z (fun hG => QV.load pl29 Z hG (Own.cell 0 Z Z)) ?_
 refine gn Z (fun hG => QV.lenS Try.underlying29 Z hG h_s_bef.slen) ?_
 refine gn Z (fun hG => QV.fieldAddr fd49_1 Z Z) ?_
 refine gn Z (fun hG => QV.load pl47 Z hG (Own.cell 1 Z Z)) ?_
 refine gn Z (fun hG => QV.lenS Try.underlying47 Z hG h_l_body.lenMap) ?_
 refine gn Z (fun hG => QV.neq Z hG Z hG) ?_
 refine wq Z (QV.pickOr Z Z Z (fun h => notF h)) ?_
 refine wm Z ?_
 refine gn Z (fun hG => QV.fieldAddr fd80_1 Z Z) ?_
 refine gn Z (fun hG => QV.load pl29 Z hG (Own.cell 0 Z Z)) ?_
 refine gn Z (fun hG => QV.lenS Try.underlying29 Z hG h_s_mem.slen) ?_
 refine gn Z (fun hG => QV.fieldAddr fd49_0 Z Z) ?_
 refine gn Z (fun hG => QV.load pl30 Z hG (Own.cell 1 Z Z)) ?_
 refine gn Z (fun hG => QV.lenS Try.underlying30 Z hG h_l_logs.lenMap) ?_
 refine gn Z (fun hG => QV.neq Z hG Z hG) ?_
 refine wq Z (QV.pickOr Z Z Z (fun h => notF h)) ?_
 refine nt ?_
 refine WC.cond Z (fun h6 => ?_) (fun h6 => ?_)
 ·skip
  have hm7 := br_t h6 hm5; clear hm5
  refine sr ?_
  refine wa Z ?_
  refine nt (WC.ret (tr ?_))
  obtain rfl := (eq_of_some hm7).symm
  refine WQ.ret1 Z Z (fun w hw => ?_)
  exact ⟨Z, Own.kgrow (fun _ x => x) hw⟩
 have hm8 := br_f h6 hm5; clear hm5
 refine sk (WQ.then (WC.seq (sr ?_)))
 refine wa Z ?_
 refine nt ?_
 obtain ⟨o9, ho10, hm11⟩ := bd_some hm8; clear hm8; obtain ⟨n12, ho13⟩ := lp_some ho10
 refine WC.bloop1 (H2 := [blk b2 [v_s_bef, v_s_mem] 80, blk b1 [v_l_logs, v_l_body, v_l_outs] 49, kn noM w.heap.size w w]) (τ := [(2, (true, _)), (3, (true, _))]) (fun (i5_1 : Int) => [(5, (true, .int .i64 i5_1))]) (fun i5_1 => []) (fun i5_1 m => iter (roundelayref2_Fits_L0 s) m i5_1 = some o9) (fun i5_1 => o9 = .go i5_1) 0 n12 ho13 ⟨Z, Z, Z, trivial⟩ (fun w hw => hw.pick [0, 1, 2] (by decide)) ?_ ?_
 ·skip
  rintro i5_1 rfl
  refine WQ.then (WC.seq (sr ?_))
  refine wa Z ?_
  refine nt ?_
  obtain ⟨o14, ho15, hm16⟩ := bd_some hm11; clear hm11; obtain ⟨n17, ho18⟩ := lp_some ho15
  refine WC.bloop1 (H2 := [blk b2 [v_s_bef, v_s_mem] 80, blk b1 [v_l_logs, v_l_body, v_l_outs] 49, kn noM w.heap.size w w]) (τ := [(2, (true, _)), (3, (true, _))]) (fun (i6_2 : Int) => [(6, (true, .int .i64 i6_2))]) (fun i6_2 => []) (fun i6_2 m => iter (roundelayref2_Fits_L2 l s) m i6_2 = some o14) (fun i6_2 => o14 = .go i6_2) 0 n17 ho18 ⟨Z, Z, Z, trivial⟩ (fun w hw => hw.pick [0, 1, 2] (by decide)) ?_ ?_
  ·skip
   rintro i6_2 rfl
   refine WQ.then (sr ?_)
   refine wa Z ?_
   refine nt (WC.ret ?_)
   obtain rfl := (eq_of_some hm16).symm
   refine WQ.ret1 Z Z (fun w hw => ?_)
   exact ⟨Z, Own.kgrow (fun _ x => x) hw⟩
  rintro i6_2 m19 hI20
  obtain ⟨m21, s22, rfl, hm23, hn24⟩ := iter_step hI20; clear hI20; unfold roundelayref2_Fits_L2 at hm23
  refine WC.seq (sr ?_)
  refine wm Z ?_
  refine wf fd80_1 Z ?_
  refine wl pl29 Z (Own.cell 0 Z Z) ?_
  refine wq Z (QV.lenS Try.underlying29 Z Z h_s_mem.slen) ?_
  refine wq Z (QV.lss Z Z Z Z) ?_
  refine nt ?_
  refine WC.cond Z (fun h25 => ?_) (fun h25 => ?_)
  ·skip
   have hm26 := br_t h25 hm23; clear hm23
   refine sk (WQ.then (WC.seq (WC.block (sr ?_))))
   refine wf fd49_0 Z ?_
   refine wl pl30 Z (Own.cell 1 Z Z) ?_
   refine wm Z ?_
   obtain ⟨c27, hm28⟩ := cs hm26; clear hm26
   obtain ⟨p29, hp30⟩ := h_l_logs.lenMap.ix (sz := 1) ln_len c27
   refine wq Z (QV.indexSlice sl30 Z Z Z Z hp30) ?_
   refine wl pl3 Z (fun w hw => CellsAt.one 0 (((Own.karr 2 Z hk h_l_logs) w hw).ele hp30 c27) Z) ?_
   obtain ⟨x31, hx32, hm33⟩ := bd_some hm28; clear hm28
   refine wq Z (QV.call en45 (EvAll.cons Z Z EvAll.nil) (fun w hw => have h := roundelayref1_Size_w w hx32 ; h)) ?_
   refine wa Z ?_
   refine ns ?_
   refine wf fd80_1 Z ?_
   refine wl pl29 Z (Own.cell 0 Z Z) ?_
   refine wm Z ?_
   obtain ⟨c34, hm35⟩ := cs hm33; clear hm33
   obtain ⟨p36, u38, hp37, hc39, hA40⟩ := h_s_mem.ix c34
   refine wq Z (QV.indexSlice sl29 Z Z Z Z hp37) ?_
   refine wl pl28 Z (fun w hw => CellsAt.one 0 ((Own.kcells 2 Z hk hc39) w hw) Z) ?_
   refine wq Z (QV.lenS Try.underlying28 Z Z hA40.lenMap) ?_
   refine wm Z ?_
   refine wq Z (QV.neq Z Z Z Z) ?_
   refine nt ?_
   refine WC.cond Z (fun h41 => ?_) (fun h41 => ?_)
   ·skip
    have hm42 := br_t h41 hm35; clear hm35
    refine sr ?_
    refine wa Z ?_
    refine nt (WC.ret (kr (tr (tr (kr (tr (tr ?_)))))))
    obtain rfl := up_ret hm42 hn24
    obtain rfl := (eq_of_some hm16).symm
    refine WQ.ret1 Z Z (fun w hw => ?_)
    exact ⟨Z, Own.kgrow (fun _ x => x) hw⟩
   have hm43 := br_f h41 hm35; clear hm35
   refine sk (WQ.block (WQ.then (WC.region ?_)))
   refine wm Z ?_
   obtain ⟨c44, hm45⟩ := cs hm43; clear hm43
   refine wq Z (QV.add Z Z Z Z c44) ?_
   refine wa Z ?_
   refine WL.nil ?_
   exact WQ.again1 (i6_2 + 1) m21 (up_next hm45 hn24) (Nat.lt_succ_self _) ⟨Z, Z, Z, trivial⟩ (fun w hw => hw.pick [0, 1, 2] (by decide))
  have hm46 := br_f h25 hm23; clear hm23
  refine WC.exit (te (te (WQ.block_exit ?_)))
  exact WQ.out1 i6_2 (up_brk hm46 hn24) ⟨Z, Z, Z, trivial⟩ (fun w hw => hw.pick [0, 1, 2] (by decide))
 rintro i5_1 m47 hI48
 obtain ⟨m49, s50, rfl, hm51, hn52⟩ := iter_step hI48; clear hI48; unfold roundelayref2_Fits_L0 at hm51
 refine WC.seq (sr ?_)
 refine wm Z ?_
 refine wf fd80_0 Z ?_
 refine wl pl29 Z (Own.cell 0 Z Z) ?_
 refine wq Z (QV.lenS Try.underlying29 Z Z h_s_bef.slen) ?_
 refine wq Z (QV.lss Z Z Z Z) ?_
 refine nt ?_
 refine WC.cond Z (fun h53 => ?_) (fun h53 => ?_)
 ·skip
  have hm54 := br_t h53 hm51; clear hm51
  refine sk (WQ.then (WC.seq (WC.block (sr ?_))))
  refine wf fd80_0 Z ?_
  refine wl pl29 Z (Own.cell 0 Z Z) ?_
  refine wm Z ?_
  obtain ⟨c55, hm56⟩ := cs hm54; clear hm54
  obtain ⟨p57, u59, hp58, hc60, hA61⟩ := h_s_bef.ix c55
  refine wq Z (QV.indexSlice sl29 Z Z Z Z hp58) ?_
  refine wl pl28 Z (fun w hw => CellsAt.one 0 ((Own.kcells 2 Z hk hc60) w hw) Z) ?_
  refine wq Z (QV.lenS Try.underlying28 Z Z hA61.lenMap) ?_
  refine wq Z (QV.neq Z Z Z Z) ?_
  refine nt ?_
  refine WC.cond Z (fun h62 => ?_) (fun h62 => ?_)
  ·skip
   have hm63 := br_t h62 hm56; clear hm56
   refine sr ?_
   refine wa Z ?_
   refine nt (WC.ret (kr (tr (tr (kr (tr (tr ?_)))))))
   obtain rfl := up_ret hm63 hn52
   obtain rfl := (eq_of_some hm11).symm
   refine WQ.ret1 Z Z (fun w hw => ?_)
   exact ⟨Z, Own.kgrow (fun _ x => x) hw⟩
  have hm64 := br_f h62 hm56; clear hm56
  refine sk (WQ.block (WQ.then (WC.region ?_)))
  refine wm Z ?_
  obtain ⟨c65, hm66⟩ := cs hm64; clear hm64
  refine wq Z (QV.add Z Z Z Z c65) ?_
  refine wa Z ?_
  refine WL.nil ?_
  exact WQ.again1 (i5_1 + 1) m49 (up_next hm66 hn52) (Nat.lt_succ_self _) ⟨Z, Z, Z, trivial⟩ (fun w hw => hw.pick [0, 1, 2] (by decide))
 have hm67 := br_f h53 hm51; clear hm51
 refine WC.exit (te (te (WQ.block_exit ?_)))
 exact WQ.out1 i5_1 (up_brk hm67 hn52) ⟨Z, Z, Z, trivial⟩ (fun w hw => hw.pick [0, 1, 2] (by decide))
end Go.Proofs.Ytaimbkndebaaiab
end

section
namespace Go.Proofs.Ytaimbkndebaaiab
open Go.Rd
set_option linter.unusedVariables false
open TNum TLoop
namespace TKern
theorem ag27 : AggT Try.prog 27 3 := ⟨_, Try.underlying27, rfl, by kernel_rfl⟩
theorem ag45 : AggT Try.prog 45 10 := ⟨_, Try.underlying45, rfl, by kernel_rfl⟩
theorem ag90 : AggT Try.prog 90 2 := ⟨_, Try.underlying90, rfl, by kernel_rfl⟩
theorem ar90 : ArrayT Try.prog 90 2 1 := ⟨_, Try.underlying90, by kernel_rfl⟩
theorem en47 : Go.Rd.Enters Try.prog 47 := ⟨Try.f47, Try.func47, by kernel_rfl, by kernel_rfl⟩
theorem en61 : Go.Rd.Enters Try.prog 61 := ⟨Try.f61, Try.func61, by kernel_rfl, by kernel_rfl⟩
theorem en90 : Go.Rd.Enters Try.prog 90 := ⟨Try.f90, Try.func90, by kernel_rfl, by kernel_rfl⟩
theorem en91 : Go.Rd.Enters Try.prog 91 := ⟨Try.f91, Try.func91, by kernel_rfl, by kernel_rfl⟩
theorem en92 : Go.Rd.Enters Try.prog 92 := ⟨Try.f92, Try.func92, by kernel_rfl, by kernel_rfl⟩
theorem fd27_0 : FieldT Try.prog 27 0 0 := ⟨_, _, 0, Try.underlying27, rfl, rfl, by kernel_rfl⟩
theorem fd27_1 : FieldT Try.prog 27 1 1 := ⟨_, _, 0, Try.underlying27, rfl, rfl, by kernel_rfl⟩
theorem fd27_2 : FieldT Try.prog 27 2 2 := ⟨_, _, 0, Try.underlying27, rfl, rfl, by kernel_rfl⟩
theorem fd45_0 : FieldT Try.prog 45 0 0 := ⟨_, _, 0, Try.underlying45, rfl, rfl, by kernel_rfl⟩
theorem fd45_1 : FieldT Try.prog 45 1 1 := ⟨_, _, 0, Try.underlying45, rfl, rfl, by kernel_rfl⟩
theorem fd45_2 : FieldT Try.prog 45 2 2 := ⟨_, _, 0, Try.underlying45, rfl, rfl, by kernel_rfl⟩
theorem fd45_3 : FieldT Try.prog 45 3 3 := ⟨_, _, 0, Try.underlying45, rfl, rfl, by kernel_rfl⟩
theorem fd45_4 : FieldT Try.prog 45 4 4 := ⟨_, _, 0, Try.underlying45, rfl, rfl, by kernel_rfl⟩
theorem fd45_5 : FieldT Try.prog 45 5 5 := ⟨_, _, 0, Try.underlying45, rfl, rfl, by kernel_rfl⟩
theorem fd45_6 : FieldT Try.prog 45 6 6 := ⟨_, _, 0, Try.underlying45, rfl, rfl, by kernel_rfl⟩
theorem fd45_7 : FieldT Try.prog 45 7 7 := ⟨_, _, 0, Try.underlying45, rfl, rfl, by kernel_rfl⟩
theorem fd45_8 : FieldT Try.prog 45 8 8 := ⟨_, _, 0, Try.underlying45, rfl, rfl, by kernel_rfl⟩
theorem fd45_9 : FieldT Try.prog 45 9 9 := ⟨_, _, 0, Try.underlying45, rfl, rfl, by kernel_rfl⟩
theorem kt90 : KeyT Try.prog 90 kP := KeyT.pair Try.underlying90 Try.underlying3 (by kernel_rfl)
theorem mt88 : MapT Try.prog 88 90 3 := Try.underlying88
theorem pl25 : Plain Try.prog 25 := ⟨_, Try.underlying25, rfl⟩
theorem sl25 : SliceT Try.prog 25 45 10 := ⟨Try.underlying25, by kernel_rfl⟩
theorem sz3 : SizeT Try.prog 3 1 := by unfold SizeT; kernel_rfl
theorem sz45 : SizeT Try.prog 45 10 := by unfold SizeT; kernel_rfl
theorem sz49 : SizeT Try.prog 49 3 := by unfold SizeT; kernel_rfl
theorem sz90 : SizeT Try.prog 90 2 := by unfold SizeT; kernel_rfl
theorem sz_47 : SliceZ Try.prog 47 59 9 [.int .i64 0, .int .i64 0, .int .i64 0, .int .i64 0, .int .i64 0, .int .i64 0, .int .i64 0, .int .i64 0, .int .i64 0] := ⟨Try.underlying47, by kernel_rfl⟩
theorem ze3 : ZeroT Try.prog 3 [.int .i64 0] := by unfold ZeroT; kernel_rfl
theorem ze45 : ZeroT Try.prog 45 [.int .i64 0, .int .i64 0, .int .i64 0, .int .i64 0, .int .i64 0, .int .i64 0, .int .i64 0, .int .i64 0, .int .i64 0, .int .i64 0] := by unfold ZeroT; kernel_rfl
theorem ze49 : ZeroT Try.prog 49 [.slice none 0 0, .slice none 0 0, .slice none 0 0] := by unfold ZeroT; kernel_rfl
theorem ze90 : ZeroT Try.prog 90 [.int .i64 0, .int .i64 0] := by unfold ZeroT; kernel_rfl
theorem zv3i64v : ZVal Try.prog 3 (i64v 0) := by unfold ZVal; kernel_rfl
end TKern
open TKern
set_option maxRecDepth 8000 in
theorem kernel_Stmt_w {o : Opr} {r : Stm} (w : World) (hm : kernel_Stmt_m o = some r)  : Calls Try.prog 90 #[.agg #[.int .i64 o.slot, .int .i64 o.stage, .int .i64 o.op, .int .i64 o.dest, .int .i64 o.a, .int .i64 o.b, .int .i64 o.ar, .int .i64 o.sp, .int .i64 o.pl, .int .i64 o.n]] w (fun e w' => e = .returned (.agg #[.int .i64 r.op, .int .i64 r.a.st, .int .i64 r.a.bk, .int .i64 r.b.st, .int .i64 r.b.bk, .int .i64 r.ar, .int .i64 r.sp, .int .i64 r.pl, .int .i64 r.n]) ∧ Grow w w') := by
 unfold kernel_Stmt_m at hm
 have hk := Base.rfl (w := w)
 refine calls_of_WC (n := 14) (args := [.agg #[.int .i64 o.slot, .int .i64 o.stage, .int .i64 o.op, .int .i64 o.dest, .int .i64 o.a, .int .i64 o.b, .int .i64 o.ar, .int .i64 o.sp, .int .i64 o.pl, .int .i64 o.n]]) Try.func90 Z Z (Nat.le_of_ble_eq_true Z) ?_ (Own.startK hk (Own.start w))
 refine sr ?_
 refine WL.effect Z ?_
 refine (EV.boxAgg (by decide) Z Z (fun b1 => ?_))
 refine WL.effect Z ?_
 refine (EV.alloc (by decide) ze59 (fun b2 => ?_))
 refine ns ?_
 refine wf fd45_2 Z ?_
 refine wl pl3 Z (Own.cell 1 Z Z) ?_
 refine wf fd45_6 Z ?_
 refine wl pl3 Z (Own.cell 1 Z Z) ?_
 refine wf fd45_7 Z ?_
 refine wl pl3 Z (Own.cell 1 Z Z) ?_
 refine wf fd45_8 Z ?_
 refine wl pl3 Z (Own.cell 1 Z Z) ?_
 refine wf fd45_9 Z ?_
 refine wl pl2 Z (Own.cell 1 Z Z) ?_
 refine wq Z (QV.build (ps := [(0, .tmp 4), (3, .tmp 6), (4, .tmp 8), (5, .tmp 10), (6, .tmp 12)]) (cells := [.int .i64 o.op, .int .i64 0, .int .i64 0, .int .i64 0, .int .i64 0, .int .i64 o.ar, .int .i64 o.sp, .int .i64 o.pl, .int .i64 o.n]) (EvAll.cons Z Z (EvAll.cons Z Z (EvAll.cons Z Z (EvAll.cons Z Z (EvAll.cons Z Z EvAll.nil))))) (by kernel_rfl)) ?_
 refine WL.effect Z ?_
 refine (EV.store 0 Z Z Z Z Z Z (vs := [.int .i64 o.op, .int .i64 0, .int .i64 0, .int .i64 0, .int .i64 0, .int .i64 o.ar, .int .i64 o.sp, .int .i64 o.pl, .int .i64 o.n]) (show Value.cells _ = List.toArray _ from Z) sz59 (Nat.le_of_ble_eq_true Z) (one_cons Z (one_cons Z (one_cons Z (one_cons Z (one_cons Z (one_cons Z (one_cons Z (one_cons Z (one_cons Z one_nil))))))))) ?_)
 refine nt (WC.ret ?_)
 obtain rfl := (eq_of_some hm).symm
 refine WQ.retCell Z ag59 Z Z (Own.cellsBlk 0 Z) (fun w hw => ?_)
 exact ⟨Z, Own.kgrow (fun _ x => x) hw⟩

set_option maxRecDepth 8000 in
theorem kernel_Time_w {v_k__ops : Value} {k_ : Krn} {o : Opr} {r : Int} (w : World) (hm : kernel_Time_m k_ o = some r) (h_k__ops : Arr w v_k__ops 10 (k_.ops.map Opr.cells)) : Calls Try.prog 92 #[.agg #[.int .i64 k_.pace, .int .i64 k_.stages, v_k__ops], .agg #[.int .i64 o.slot, .int .i64 o.stage, .int .i64 o.op, .int .i64 o.dest, .int .i64 o.a, .int .i64 o.b, .int .i64 o.ar, .int .i64 o.sp, .int .i64 o.pl, .int .i64 o.n]] w (fun e w' => e = .returned (.int .i64 r) ∧ Grow w w') := by
 unfold kernel_Time_m at hm
 have hk := Base.rfl (w := w)
 refine calls_of_WC (n := 13) (args := [.agg #[.int .i64 k_.pace, .int .i64 k_.stages, v_k__ops], .agg #[.int .i64 o.slot, .int .i64 o.stage, .int .i64 o.op, .int .i64 o.dest, .int .i64 o.a, .int .i64 o.b, .int .i64 o.ar, .int .i64 o.sp, .int .i64 o.pl, .int .i64 o.n]]) Try.func92 Z Z (Nat.le_of_ble_eq_true Z) ?_ (Own.startK hk (Own.start w))
 refine sr ?_
 refine WL.effect Z ?_
 refine (EV.boxAgg (by decide) Z Z (fun b1 => ?_))
 refine WL.effect Z ?_
 refine (EV.boxAgg (by decide) Z Z (fun b2 => ?_))
 refine wa Z ?_
 refine ns ?_
 refine wf fd45_1 Z ?_
 refine wl pl3 Z (Own.cell 0 Z Z) ?_
 refine wf fd27_0 Z ?_
 refine wl pl3 Z (Own.cell 1 Z Z) ?_
 obtain ⟨c3, hm4⟩ := cs hm; clear hm
 refine wq Z (QV.mul Z Z Z Z c3) ?_
 refine wf fd45_0 Z ?_
 refine wl pl3 Z (Own.cell 0 Z Z) ?_
 obtain ⟨c5, hm6⟩ := cs hm4; clear hm4
 refine wq Z (QV.add Z Z Z Z c5) ?_
 refine wa Z ?_
 refine nt (WC.ret ?_)
 obtain rfl := (eq_of_some hm6).symm
 refine WQ.ret1 Z Z (fun w hw => ?_)
 exact ⟨Z, Own.kgrow (fun _ x => x) hw⟩

set_option maxRecDepth 8000 in
theorem kernel_op_c1_w {p_n : Addr} {p_t : Addr} {r_ : Int} {from_ : Int} {n : Int} {t : Tgt} {r : Bool} (w : World) (hm : kernel_op_c1_m r_ from_ n t = some r) (hp_n : CellsAt w p_n [.int .i64 n] 0) (hp_t : CellsAt w p_t [.int .i64 t.u0, .int .i64 t.u1, .int .i64 t.u2, .int .i64 t.w0, .int .i64 t.w1, .int .i64 t.w2, .int .i64 t.regs] 0) : Calls Try.prog 91 #[.int .i64 r_, .int .i64 from_, .pointer (some p_n), .pointer (some p_t)] w (fun e w' => e = .returned (.bool r) ∧ Grow w w') := by
 unfold kernel_op_c1_m at hm
 have hk := Base.rfl (w := w)
 refine calls_of_WC (n := 24) (args := [.int .i64 r_, .int .i64 from_, .pointer (some p_n), .pointer (some p_t)]) Try.func91 Z Z (Nat.le_of_ble_eq_true Z) ?_ (Own.startK hk (Own.start w))
 refine sr ?_
 refine wa Z ?_
 refine ns ?_
 refine wm Z ?_
 refine wq Z (QV.eql Z Z Z Z) ?_
 refine wm Z ?_
 refine gn Z (fun hG => QV.load pl3 Z Z (fun w hw => CellsAt.one 0 ((Own.kcells 0 Z hk hp_n) w hw) Z)) ?_
 refine gn Z (fun hG => QV.move Z Z) ?_
 refine gn Z (fun hG => QV.gtr Z hG Z hG) ?_
 refine gn Z (fun hG => QV.move Z hG) ?_
 refine WL.g Z Z (GuardIs.posC Z Z) (fun hG => QV.move Z Z) ?_
 refine WL.g Z Z (GuardIs.posC Z Z) (fun hG => QV.gtr Z hG Z Z) ?_
 refine gn Z (fun hG => QV.pickAnd Z hG Z (fun h => andT hG h)) ?_
 refine gn Z (fun hG => QV.move Z hG) ?_
 refine WL.g Z Z (GuardIs.posC Z Z) (fun hG => QV.move Z Z) ?_
 refine WL.g Z Z (GuardIs.posC Z Z) (fun hG => QV.fieldAddr fd24_2 Z Z) ?_
 refine WL.g Z Z (GuardIs.posC Z Z) (fun hG => QV.load pl3 Z hG (fun w hw => CellsAt.one 6 ((Own.kcells 0 Z hk hp_t) w hw) Z)) ?_
 refine WL.g Z Z (GuardIs.posC Z Z) (fun hG => QV.lss Z hG Z hG) ?_
 refine gn Z (fun hG => QV.pickAnd Z hG Z (fun h => andT hG h)) ?_
 refine wq Z (QV.pickOr Z Z Z (fun h => notF h)) ?_
 refine wa Z ?_
 refine nt (WC.ret ?_)
 obtain rfl := (eq_of_some hm).symm
 refine WQ.ret1 Z Z (fun w hw => ?_)
 exact ⟨Z, Own.kgrow (fun _ x => x) hw⟩

set_option maxRecDepth 8000 in
theorem kernel_op_w {v_k__ops : Value} {v_logs : Value} {t : Tgt} {k_ : Krn} {o : Opr} {logs : List Int} {r : Bool} (w : World) (hm : kernel_op_m t k_ o logs = some r) (h_k__ops : Arr w v_k__ops 10 (k_.ops.map Opr.cells)) (h_logs : Arr w v_logs 1 (logs.map icell)) : Calls Try.prog 47 #[.agg #[.int .i64 t.u0, .int .i64 t.u1, .int .i64 t.u2, .int .i64 t.w0, .int .i64 t.w1, .int .i64 t.w2, .int .i64 t.regs], .agg #[.int .i64 k_.pace, .int .i64 k_.stages, v_k__ops], .agg #[.int .i64 o.slot, .int .i64 o.stage, .int .i64 o.op, .int .i64 o.dest, .int .i64 o.a, .int .i64 o.b, .int .i64 o.ar, .int .i64 o.sp, .int .i64 o.pl, .int .i64 o.n], v_logs] w (fun e w' => e = .returned (.bool r) ∧ Grow w w') := by
 unfold kernel_op_m at hm
 have hk := Base.rfl (w := w)
 refine calls_of_WC (n := 88) (args := [.agg #[.int .i64 t.u0, .int .i64 t.u1, .int .i64 t.u2, .int .i64 t.w0, .int .i64 t.w1, .int .i64 t.w2, .int .i64 t.regs], .agg #[.int .i64 k_.pace, .int .i64 k_.stages, v_k__ops], .agg #[.int .i64 o.slot, .int .i64 o.stage, .int .i64 o.op, .int .i64 o.dest, .int .i64 o.a, .int .i64 o.b, .int .i64 o.ar, .int .i64 o.sp, .int .i64 o.pl, .int .i64 o.n], v_logs]) Try.func47 Z Z (Nat.le_of_ble_eq_true Z) ?_ (Own.startK hk (Own.start w))
 refine sr ?_
 refine WL.effect Z ?_
 refine (EV.boxAgg (by decide) Z Z (fun b1 => ?_))
 refine WL.effect Z ?_
 refine (EV.boxAgg (by decide) Z Z (fun b2 => ?_))
 refine WL.effect Z ?_
 refine (EV.boxAgg (by decide) Z Z (fun b3 => ?_))
 refine wa Z ?_
 refine ns ?_
 refine wq Z (QV.loadAgg ag45 Z Z Z (Own.cellsBlk 0 Z)) ?_
 obtain ⟨x4, hx5, hm6⟩ := bd_some hm; clear hm
 refine wq Z (QV.call en90 (EvAll.cons Z Z EvAll.nil) (fun w hw => have h := kernel_Stmt_w w hx5 ; h)) ?_
 refine WL.effect Z ?_
 refine (EV.alloc (by decide) ze59 (fun b7 => ?_))
 refine WL.effect Z ?_
 refine (EV.store 0 Z Z Z Z Z Z (vs := x4.cells) (show Value.cells _ = List.toArray _ from Z) sz59 (Nat.le_of_ble_eq_true Z) (one_cons Z (one_cons Z (one_cons Z (one_cons Z (one_cons Z (one_cons Z (one_cons Z (one_cons Z (one_cons Z one_nil))))))))) ?_)
 refine ns ?_
 refine wq Z (QV.loadAgg ag59 Z Z Z (Own.cellsBlk 0 Z)) ?_
 refine WL.effect Z ?_
 obtain ⟨x8, hx9, hm10⟩ := bd_some hm6; clear hm6
 refine EV.of (C' := Own noM w [kn noM w.heap.size w w, blk b7 x4.cells 59, blk b3 o.cells 45, blk b2 [.int .i64 k_.pace, .int .i64 k_.stages, v_k__ops] 27, blk b1 t.cells 24]) (fun w hw => hw.pick [4, 0, 1, 2, 3] (by decide)) ?_
 refine (EV.callR (X := Value × World) (R := []) (fun X => X.1) (fun X => []) (fun X => X.2) (fun X => Arr X.2 X.1 2 (x8.map Rf.cells)) hk (fun _ h => by cases h; decide) en62 (EvAll.cons Z Z EvAll.nil) (fun M w h1 h2 => have h := loop_Uses_w hx9  M w h1 h2; h) (fun X11 hF11 hle11 => ?_))
 refine wq Z (QV.lenS Try.underlying106 Z Z hF11.lenMap) ?_
 refine WL.effect Z ?_
 refine (EV.alloc (by decide) ze3 (fun b12 => ?_))
 refine WL.effect Z ?_
 refine (EV.store 0 Z Z Z Z Z Z (vs := [.int .i64 (ln x8)]) (show Value.cells _ = List.toArray _ from Z) sz3 (Nat.le_of_ble_eq_true Z) (one_cons Z one_nil) ?_)
 refine ns ?_
 refine wq Z (QV.makeFunc (EvAll.cons Z Z (EvAll.cons Z Z EvAll.nil))) ?_
 refine wa Z ?_
 refine nt (WC.seq (sr ?_))
 refine wl pl3 Z (Own.cell 0 Z Z) ?_
 refine wq Z (QV.gtr Z Z Z Z) ?_
 refine nt ?_
 obtain ⟨o13, hj14, hm15⟩ := bd_some hm10; clear hm10
 refine WC.joint4 (H2 := [blk b12 [.int .i64 (ln x8)] 3, kn noM w.heap.size w X11.2, blk b3 o.cells 45, blk b2 [.int .i64 k_.pace, .int .i64 k_.stages, v_k__ops] 27, blk b1 t.cells 24]) (τ := [(3, (true, _)), (4, (true, _)), (5, (true, _)), (6, (true, _)), (9, (true, _)), (11, (true, _))]) (fun (b7c1_1 : Int) (b7c2_1 : Int) (b7c3_1 : Int) (b7c4_1 : Int) => []) (fun b7c1_1 b7c2_1 b7c3_1 b7c4_1 => [blk b7 [.int .i64 x4.op, .int .i64 b7c1_1, .int .i64 b7c2_1, .int .i64 b7c3_1, .int .i64 b7c4_1, .int .i64 x4.ar, .int .i64 x4.sp, .int .i64 x4.pl, .int .i64 x4.n] 59]) (fun b7c1_1 b7c2_1 b7c3_1 b7c4_1 => o13 = .go (b7c1_1, b7c2_1, b7c3_1, b7c4_1)) ⟨Z, Z, Z, Z, Z, Z, trivial⟩ (fun w hw => hw.pick [0, 1, 3, 4, 5] (by decide)) ?_ ?_
 ·skip
  rintro b7c1_1 b7c2_1 b7c3_1 b7c4_1 rfl
  refine sr ?_
  refine wm Z ?_
  refine wq Z (QV.build (ps := [(0, .const (.int .i64 1))]) (cells := [.int .i64 1, .int .i64 0, .int .i64 0, .int .i64 0, .int .i64 0, .int .i64 0, .int .i64 0, .int .i64 0, .int .i64 0]) (EvAll.cons Z Z EvAll.nil) (by kernel_rfl)) ?_
  refine wq Z (QV.loadAgg ag59 Z Z Z (Own.cellsBlk 0 Z)) ?_
  refine WL.effect Z ?_
  refine (EV.buildSlice (by decide) sz_47 (by decide) (by decide) (ps := [(0, .tmp 27), (1, .tmp 28)]) (cells := [.int .i64 1, .int .i64 0, .int .i64 0, .int .i64 0, .int .i64 0, .int .i64 0, .int .i64 0, .int .i64 0, .int .i64 0, .int .i64 x4.op, .int .i64 b7c1_1, .int .i64 b7c2_1, .int .i64 b7c3_1, .int .i64 b7c4_1, .int .i64 x4.ar, .int .i64 x4.sp, .int .i64 x4.pl, .int .i64 x4.n]) (EvAll.cons Z Z (EvAll.cons Z Z EvAll.nil)) (by kernel_rfl) (fun b16 => ?_))
  refine wq Z (QV.buildS (ps := [(0, .tmp 26), (1, .tmp 29)]) (cells := [v_logs, (blkSlice b16 2 2), .slice none 0 0]) (css := [[v_logs], [(blkSlice b16 2 2)]]) (EvAll.cons Z Z (EvAll.cons Z Z EvAll.nil)) (CellsAll.cons (SliceLen.cells (h_logs.le hle11).lenMap) (CellsAll.cons (SliceLen.cells SliceLen.blk) CellsAll.nil)) (by kernel_rfl)) ?_
  refine WL.effect Z ?_
  refine (EV.alloc (by decide) ze49 (fun b17 => ?_))
  refine WL.effect Z ?_
  refine (EV.store 0 Z Z Z Z Z Z (vs := [v_logs, (blkSlice b16 2 2), .slice none 0 0]) (show Value.cells _ = List.toArray _ from Z) sz49 (Nat.le_of_ble_eq_true Z) (one_cons (SliceLen.one (h_logs.le hle11).lenMap) (one_cons (SliceLen.one SliceLen.blk) (one_cons Z one_nil))) ?_)
  refine ns ?_
  refine wf fd45_0 Z ?_
  refine wl pl3 Z (Own.cell 5 Z Z) ?_
  refine wq Z (QV.geq Z Z Z Z) ?_
  refine wm Z ?_
  refine gp Z (fun hG => QV.fieldAddr fd45_0 Z Z) ?_
  refine gp Z (fun hG => QV.load pl3 Z hG (Own.cell 5 Z Z)) ?_
  refine gp Z (fun hG => QV.fieldAddr fd27_0 Z Z) ?_
  refine gp Z (fun hG => QV.load pl3 Z hG (Own.cell 6 Z Z)) ?_
  refine gp Z (fun hG => QV.lss Z hG Z hG) ?_
  refine wq Z (QV.pickAnd Z Z Z (fun h => h)) ?_
  refine wm Z ?_
  refine gp Z (fun hG => QV.fieldAddr fd45_1 Z Z) ?_
  refine gp Z (fun hG => QV.load pl3 Z hG (Own.cell 5 Z Z)) ?_
  refine gp Z (fun hG => QV.geq Z hG Z Z) ?_
  refine wq Z (QV.pickAnd Z Z Z (fun h => h)) ?_
  refine wm Z ?_
  refine gp Z (fun hG => QV.fieldAddr fd45_1 Z Z) ?_
  refine gp Z (fun hG => QV.load pl3 Z hG (Own.cell 5 Z Z)) ?_
  refine gp Z (fun hG => QV.fieldAddr fd27_1 Z Z) ?_
  refine gp Z (fun hG => QV.load pl3 Z hG (Own.cell 6 Z Z)) ?_
  refine gp Z (fun hG => QV.lss Z hG Z hG) ?_
  refine wq Z (QV.pickAnd Z Z Z (fun h => h)) ?_
  refine wm Z ?_
  refine gp Z (fun hG => QV.loadAgg ag27 Z Z Z (Own.cellsBlk 6 Z)) ?_
  refine gp Z (fun hG => QV.loadAgg ag45 Z Z Z (Own.cellsBlk 5 Z)) ?_
  obtain ⟨x18, hx19, hm20⟩ := bdG_some hm15; clear hm15
  refine gp Z (fun hG => QV.call en92 (EvAll.cons Z hG (EvAll.cons Z hG EvAll.nil)) (fun w hw => have h := kernel_Time_w w (hx19 hG) ((Own.karr 4 Z hk (h_k__ops.le hle11)) w hw); h)) ?_
  refine gp Z (fun hG => QV.leq Z hG Z Z) ?_
  refine wq Z (QV.pickAnd Z Z Z (fun h => h)) ?_
  refine wa Z ?_
  refine ns ?_
  refine wm Z ?_
  refine wm Z ?_
  refine gp Z (fun hG => QV.loadAgg ag49 Z Z Z (Own.cellsBlk 0 Z)) ?_
  obtain ⟨x21, hx22, hm23⟩ := bdG_some hm20; clear hm20
  refine gp Z (fun hG => QV.call en61 (EvAll.cons Z hG EvAll.nil) (fun w hw => have h := loop_May_w w (hx22 hG) ((Own.karr 4 Z hk (h_logs.le hle11)) w hw) ((Own.blkArr 1 (rows := [(Stm.mk 1 (Rf.mk 0 0) (Rf.mk 0 0) 0 0 0 0), (Stm.mk x4.op (Rf.mk b7c1_1 b7c2_1) (Rf.mk b7c3_1 b7c4_1) x4.ar x4.sp x4.pl x4.n)].map Stm.cells) Z Z (rows_len Stm.cells_len)) w hw) Arr.nil; h)) ?_
  refine wq Z (QV.pickAnd Z Z Z (fun h => h)) ?_
  refine wm Z ?_
  refine gp Z (fun hG => QV.fieldAddr fd45_3 Z Z) ?_
  refine gp Z (fun hG => QV.load pl3 Z hG (Own.cell 5 Z Z)) ?_
  refine gp Z (fun hG => QV.geq Z hG Z Z) ?_
  refine wq Z (QV.pickAnd Z Z Z (fun h => h)) ?_
  refine wm Z ?_
  refine gp Z (fun hG => QV.fieldAddr fd45_3 Z Z) ?_
  refine gp Z (fun hG => QV.load pl3 Z hG (Own.cell 5 Z Z)) ?_
  refine gp Z (fun hG => QV.fieldAddr fd24_2 Z Z) ?_
  refine gp Z (fun hG => QV.load pl3 Z hG (Own.cell 7 Z Z)) ?_
  refine gp Z (fun hG => QV.lss Z hG Z hG) ?_
  refine wq Z (QV.pickAnd Z Z Z (fun h => h)) ?_
  refine wm Z ?_
  refine gp Z (fun hG => QV.move Z Z) ?_
  refine gp Z (fun hG => QV.fieldAddr fd45_4 Z Z) ?_
  refine gp Z (fun hG => QV.load pl3 Z hG (Own.cell 5 Z Z)) ?_
  obtain ⟨x24, hx25, hm26⟩ := bdG_some hm23; clear hm23
  refine gp Z (fun hG => QV.callV en91 Z hG (EvAll.cons Z hG (EvAll.cons Z Z EvAll.nil)) (fun w hw => have h := kernel_op_c1_w w (hx25 hG) (Own.cellsBlk 3 Z w hw) (Own.cellsBlk 7 Z w hw); h)) ?_
  refine wq Z (QV.pickAnd Z Z Z (fun h => h)) ?_
  refine wm Z ?_
  refine gp Z (fun hG => QV.move Z Z) ?_
  refine gp Z (fun hG => QV.fieldAddr fd45_5 Z Z) ?_
  refine gp Z (fun hG => QV.load pl3 Z hG (Own.cell 5 Z Z)) ?_
  obtain ⟨x27, hx28, hm29⟩ := bdG_some hm26; clear hm26
  refine gp Z (fun hG => QV.callV en91 Z hG (EvAll.cons Z hG (EvAll.cons Z Z EvAll.nil)) (fun w hw => have h := kernel_op_c1_w w (hx28 hG) (Own.cellsBlk 3 Z w hw) (Own.cellsBlk 7 Z w hw); h)) ?_
  refine wq Z (QV.pickAnd Z Z Z (fun h => h)) ?_
  refine wa Z ?_
  refine nt (WC.ret ?_)
  obtain rfl := (eq_of_some hm29).symm
  refine WQ.ret1 Z Z (fun w hw => ?_)
  exact ⟨Z, Own.kgrow (fun _ x => x) hw⟩
 refine WC.cond Z (fun h30 => ?_) (fun h30 => ?_)
 ·skip
  have hm31 := br_t h30 hj14; clear hj14
  refine WC.region ?_
  refine wq Z (QV.build (ps := []) (cells := [.int .i64 0, .int .i64 0]) EvAll.nil (by kernel_rfl)) ?_
  refine wq Z (QV.build (ps := []) (cells := [.int .i64 0, .int .i64 0]) EvAll.nil (by kernel_rfl)) ?_
  refine wf fd59_1 Z ?_
  refine WL.effect Z ?_
  refine (EV.store 2 Z Z Z Z Z Z (vs := [.int .i64 0, .int .i64 0]) (show Value.cells _ = List.toArray _ from Z) sz57 (Nat.le_of_ble_eq_true Z) (one_cons Z (one_cons Z one_nil)) ?_)
  refine wf fd59_2 Z ?_
  refine WL.effect Z ?_
  refine (EV.store 2 Z Z Z Z Z Z (vs := [.int .i64 0, .int .i64 0]) (show Value.cells _ = List.toArray _ from Z) sz57 (Nat.le_of_ble_eq_true Z) (one_cons Z (one_cons Z one_nil)) ?_)
  refine WL.nil ?_
  exact WQ.out4 0 0 0 0 (eq_of_some hm31) ⟨Z, Z, Z, Z, Z, Z, trivial⟩ (fun w hw => hw.pick [2, 0, 1, 3, 4, 5] (by decide))
 have hm32 := br_f h30 hj14; clear hj14
 refine sk ?_
 exact WQ.out4 x4.a.st x4.a.bk x4.b.st x4.b.bk (eq_of_some hm32) ⟨Z, Z, Z, Z, Z, Z, trivial⟩ (fun w hw => hw.pick [2, 0, 1, 3, 4, 5] (by decide))

set_option maxRecDepth 8000 in
theorem kernel_May_w {v_k__ops : Value} {v_logs : Value} {t : Tgt} {k_ : Krn} {logs : List Int} {r : Bool} (w : World) (hm : kernel_May_m t k_ logs = some r) (h_k__ops : Arr w v_k__ops 10 (k_.ops.map Opr.cells)) (h_logs : Arr w v_logs 1 (logs.map icell)) : Calls Try.prog 15 #[.agg #[.int .i64 t.u0, .int .i64 t.u1, .int .i64 t.u2, .int .i64 t.w0, .int .i64 t.w1, .int .i64 t.w2, .int .i64 t.regs], .agg #[.int .i64 k_.pace, .int .i64 k_.stages, v_k__ops], v_logs] w (fun e w' => e = .returned (.bool r) ∧ Grow w w') := by
 unfold kernel_May_m at hm
 have hk := Base.rfl (w := w)
 refine calls_of_WC (n := 82) (args := [.agg #[.int .i64 t.u0, .int .i64 t.u1, .int .i64 t.u2, .int .i64 t.w0, .int .i64 t.w1, .int .i64 t.w2, .int .i64 t.regs], .agg #[.int .i64 k_.pace, .int .i64 k_.stages, v_k__ops], v_logs]) Try.func15 Z Z (Nat.le_of_ble_eq_true Z) ?_ (Own.startK hk (Own.start w))
 refine sr ?_
 refine WL.effect Z ?_
 refine (EV.boxAgg (by decide) Z Z (fun b1 => ?_))
 refine WL.effect Z ?_
 refine (EV.boxAgg (by decide) Z Z (fun b2 => ?_))
 refine wa Z ?_
 refine nt (WC.seq (sr ?_))
 refine wq Z (QV.loadAgg ag24 Z Z Z (Own.cellsBlk 1 Z)) ?_
 obtain ⟨x3, hx4, hm5⟩ := bd_some hm; clear hm
 refine wq Z (QV.call en46 (EvAll.cons Z Z EvAll.nil) (fun w hw => have h := target_May_w w hx4 ; h)) ?_
 refine wq Z (QV.not Z Z) ?_
 refine wm Z ?_
 refine gn Z (fun hG => QV.fieldAddr fd27_0 Z Z) ?_
 refine gn Z (fun hG => QV.load pl3 Z hG (Own.cell 0 Z Z)) ?_
 refine gn Z (fun hG => QV.lss Z hG Z Z) ?_
 refine wq Z (QV.pickOr Z Z Z (fun h => notF h)) ?_
 refine wm Z ?_
 refine gn Z (fun hG => QV.fieldAddr fd27_0 Z Z) ?_
 refine gn Z (fun hG => QV.load pl3 Z hG (Own.cell 0 Z Z)) ?_
 refine gn Z (fun hG => QV.gtr Z hG Z Z) ?_
 refine wq Z (QV.pickOr Z Z Z (fun h => notF h)) ?_
 refine wm Z ?_
 refine gn Z (fun hG => QV.fieldAddr fd27_1 Z Z) ?_
 refine gn Z (fun hG => QV.load pl3 Z hG (Own.cell 0 Z Z)) ?_
 refine gn Z (fun hG => QV.lss Z hG Z Z) ?_
 refine wq Z (QV.pickOr Z Z Z (fun h => notF h)) ?_
 refine wm Z ?_
 refine gn Z (fun hG => QV.fieldAddr fd27_1 Z Z) ?_
 refine gn Z (fun hG => QV.load pl3 Z hG (Own.cell 0 Z Z)) ?_
 refine gn Z (fun hG => QV.gtr Z hG Z Z) ?_
 refine wq Z (QV.pickOr Z Z Z (fun h => notF h)) ?_
 refine wm Z ?_
 refine gn Z (fun hG => QV.fieldAddr fd27_2 Z Z) ?_
 refine gn Z (fun hG => QV.load pl25 Z hG (Own.cell 0 Z Z)) ?_
 refine gn Z (fun hG => QV.lenS Try.underlying25 Z hG h_k__ops.lenMap) ?_
 refine gn Z (fun hG => QV.lss Z hG Z Z) ?_
 refine wq Z (QV.pickOr Z Z Z (fun h => notF h)) ?_
 refine wm Z ?_
 refine gn Z (fun hG => QV.fieldAddr fd27_2 Z Z) ?_
 refine gn Z (fun hG => QV.load pl25 Z hG (Own.cell 0 Z Z)) ?_
 refine gn Z (fun hG => QV.lenS Try.underlying25 Z hG h_k__ops.lenMap) ?_
 refine gn Z (fun hG => QV.gtr Z hG Z Z) ?_
 refine wq Z (QV.pickOr Z Z Z (fun h => notF h)) ?_
 refine nt ?_
 refine WC.cond Z (fun h6 => ?_) (fun h6 => ?_)
 ·skip
  have hm7 := br_t h6 hm5; clear hm5
  refine sr ?_
  refine wa Z ?_
  refine nt (WC.ret (tr ?_))
  obtain rfl := (eq_of_some hm7).symm
  refine WQ.ret1 Z Z (fun w hw => ?_)
  exact ⟨Z, Own.kgrow (fun _ x => x) hw⟩
 have hm8 := br_f h6 hm5; clear hm5
 refine sk (WQ.then (sr ?_))
 refine WL.effect Z ?_
 refine (EV.makeMap (ke := kP) (ve := i64v) (by decide) (fun b9 => ?_))
 refine wa Z ?_
 refine nt (WC.seq (sr ?_))
 refine wf fd27_2 Z ?_
 refine wl pl25 Z (Own.cell 1 Z Z) ?_
 refine wq Z (QV.lenS Try.underlying25 Z Z h_k__ops.lenMap) ?_
 refine wm Z ?_
 refine nt ?_
 obtain ⟨o10, ho11, hm12⟩ := bd_some hm8; clear hm8; obtain ⟨n13, ho14⟩ := lp_some ho11
 refine WC.bloop2 (H2 := [blk b2 [.int .i64 k_.pace, .int .i64 k_.stages, v_k__ops] 27, blk b1 t.cells 24, kn noM w.heap.size w w]) (τ := [(2, (true, _)), (3, (true, _)), (4, (true, _)), (7, (true, _)), (48, (true, _)), (49, (true, _))]) (fun (m9n_1 : List ((Int × Int) × Int)) (x50_1 : Int) => [(50, (true, .int .i64 x50_1))]) (fun m9n_1 x50_1 => [mapR b9 kP i64v m9n_1]) (fun m9n_1 x50_1 m => iter (kernel_May_L0 t k_ logs) m (m9n_1, x50_1) = some o10) (fun m9n_1 x50_1 => o10 = .go (m9n_1, x50_1)) ([] : List ((Int × Int) × Int)) 0 n13 ho14 ⟨Z, Z, Z, Z, Z, Z, Z, trivial⟩ (fun w hw => hw.pick [0, 1, 2, 3] (by decide)) ?_ ?_
 ·skip
  rintro m9n_1 x50_1 rfl
  refine WQ.then (sr ?_)
  refine wa Z ?_
  refine nt (WC.ret ?_)
  obtain rfl := (eq_of_some hm12).symm
  refine WQ.ret1 Z Z (fun w hw => ?_)
  exact ⟨Z, Own.kgrow (fun _ x => x) hw⟩
 rintro m9n_1 x50_1 m15 hI16
 obtain ⟨m17, s18, rfl, hm19, hn20⟩ := iter_step hI16; clear hI16; unfold kernel_May_L0 at hm19; simp only at hm19
 refine sr ?_
 refine wq Z (QV.lss Z Z Z Z) ?_
 refine nt (WC.seq ?_)
 refine WC.cond Z (fun h21 => ?_) (fun h21 => ?_)
 ·skip
  have hm22 := br_t h21 hm19; clear hm19
  refine sk (WQ.then (WC.seq (WC.block (sr ?_))))
  obtain ⟨c23, hm24⟩ := cs hm22; clear hm22
  obtain ⟨p25, hp26⟩ := h_k__ops.lenMap.ix (sz := 10) ln_len c23
  refine wq Z (QV.indexSlice sl25 Z Z Z Z hp26) ?_
  refine wq Z (QV.loadAgg ag45 Z Z Z (fun w hw => ((Own.karr 3 Z hk h_k__ops) w hw).ele hp26 c23)) ?_
  refine WL.effect Z ?_
  refine (EV.alloc (by decide) ze45 (fun b27 => ?_))
  refine WL.effect Z ?_
  refine (EV.store 0 Z Z Z Z Z Z (vs := (Opr.cells (ele k_.ops x50_1))) (show Value.cells _ = List.toArray _ from Z) sz45 (Nat.le_of_ble_eq_true Z) (one_cons Z (one_cons Z (one_cons Z (one_cons Z (one_cons Z (one_cons Z (one_cons Z (one_cons Z (one_cons Z (one_cons Z one_nil)))))))))) ?_)
  refine nt (WC.seq (sr ?_))
  refine wq Z (QV.loadAgg ag24 Z Z Z (Own.cellsBlk 3 Z)) ?_
  refine wq Z (QV.loadAgg ag27 Z Z Z (Own.cellsBlk 2 Z)) ?_
  refine wq Z (QV.loadAgg ag45 Z Z Z (Own.cellsBlk 0 Z)) ?_
  refine wm Z ?_
  obtain ⟨x28, hx29, hm30⟩ := bd_some hm24; clear hm24
  refine wq Z (QV.call en47 (EvAll.cons Z Z (EvAll.cons Z Z (EvAll.cons Z Z (EvAll.cons Z Z EvAll.nil)))) (fun w hw => have h := kernel_op_w w hx29 ((Own.karr 4 Z hk h_k__ops) w hw) ((Own.karr 4 Z hk h_logs) w hw); h)) ?_
  refine wq Z (QV.not Z Z) ?_
  refine nt ?_
  refine WC.cond Z (fun h31 => ?_) (fun h31 => ?_)
  ·skip
   have hm32 := br_t h31 hm30; clear hm30
   refine sr ?_
   refine wa Z ?_
   refine nt (WC.ret (tr (kr (tr (tr (kr (tr (tr ?_))))))))
   obtain rfl := up_ret hm32 hn20
   obtain rfl := (eq_of_some hm12).symm
   refine WQ.ret1 Z Z (fun w hw => ?_)
   exact ⟨Z, Own.kgrow (fun _ x => x) hw⟩
  have hm33 := br_f h31 hm30; clear hm30
  refine sk (WQ.then (WC.seq ?_))
  refine WC.dr (m := 8) (S := Own noM w [kn noM w.heap.size w w, blk b27 (Opr.cells (ele k_.ops x50_1)) 45, mapR b9 kP i64v m9n_1, blk b2 [.int .i64 k_.pace, .int .i64 k_.stages, v_k__ops] 27, blk b1 t.cells 24]) (by kernel_rfl) (by kernel_rfl) (fun w hw => hw.pick [4, 0, 1, 2, 3] (by decide)) ?_
  refine wz 0 Z Z (QV.fieldAddr fd45_0 Z Z) ?_
  refine wz 1 Z Z (QV.load pl3 Z Z (Own.cell 1 Z Z)) ?_
  refine wz 2 Z Z (QV.fieldAddr fd45_2 Z Z) ?_
  refine wz 3 Z Z (QV.load pl3 Z Z (Own.cell 1 Z Z)) ?_
  obtain ⟨x34, hx35, hm36⟩ := bd_some hm33; clear hm33
  refine wz 4 Z Z (QV.call en48 (EvAll.cons Z Z EvAll.nil) (fun w hw => have h := num_Class_w w hx35 ; h)) ?_
  refine wz 5 Z Z (QV.build (ps := [(0, .tmp 61), (1, .tmp 64)]) (cells := [.int .i64 ((ele k_.ops x50_1).slot), .int .i64 x34]) (EvAll.cons Z Z (EvAll.cons Z Z EvAll.nil)) (by kernel_rfl)) ?_
  refine WD.o 6 Z (by kernel_rfl) Z ?_
  refine (EV.alloc (by decide) ze90 (fun b37 => ?_))
  refine WD.b (H' := [kn noM w.heap.size w w, blk b37 [.int .i64 0, .int .i64 0] 90, blk b27 (Opr.cells (ele k_.ops x50_1)) 45, mapR b9 kP i64v m9n_1, blk b2 [.int .i64 k_.pace, .int .i64 k_.stages, v_k__ops] 27, blk b1 t.cells 24]) (fun w hw => hw.pick [5, 0, 1, 2, 3, 4] (by decide)) (fun w hw => hw.pick [0, 2, 3, 4, 5] (by decide)) ?_
  refine WD.l 7 Z (by kernel_rfl) Z ?_
  refine (EV.store 0 Z Z Z Z Z Z (vs := [.int .i64 ((ele k_.ops x50_1).slot), .int .i64 x34]) (show Value.cells _ = List.toArray _ from Z) sz90 (Nat.le_of_ble_eq_true Z) (one_cons Z (one_cons Z one_nil)) ?_)
  refine WQ.then (WC.seq ?_)
  refine WC.dr (m := 7) (S := Own noM w [kn noM w.heap.size w w, blk b37 [.int .i64 ((ele k_.ops x50_1).slot), .int .i64 x34] 90, blk b27 (Opr.cells (ele k_.ops x50_1)) 45, mapW b9 kP i64v 0 m9n_1, blk b2 [.int .i64 k_.pace, .int .i64 k_.stages, v_k__ops] 27, blk b1 t.cells 24]) (by kernel_rfl) (by kernel_rfl) (fun w hw => Own.mapWeak 3 0 Z (hw.pick [5, 0, 1, 2, 3, 4] (by decide))) ?_
  refine wz 0 Z Z (QV.move Z Z) ?_
  refine wz 1 Z Z (QV.loadAgg ag90 Z Z Z (Own.cellsBlk 1 Z)) ?_
  refine wz 2 Z Z (QV.lookupW (k := ((ele k_.ops x50_1).slot, x34)) 3 0 mt88 kt90 zv3i64v Z Z Z Z Z) ?_
  obtain ⟨c38, hm39⟩ := cs hm36; clear hm36
  refine wz 3 Z Z (QV.add Z Z Z Z c38) ?_
  refine WD.o 4 Z (by kernel_rfl) Z ?_
  refine (EV.mapEntry (by decide) ((ele k_.ops x50_1).slot, x34) 2 0 mt88 kt90 zv3i64v Z Z Z Z Z (fun s40 => ?_))
  refine WD.b (H' := [kn noM w.heap.size w w, blk b37 [.int .i64 ((ele k_.ops x50_1).slot), .int .i64 x34] 90, blk b27 (Opr.cells (ele k_.ops x50_1)) 45, mapW b9 kP i64v 0 m9n_1, blk b2 [.int .i64 k_.pace, .int .i64 k_.stages, v_k__ops] 27, blk b1 t.cells 24]) (fun w hw => Own.midWeak 3 Z (hw.pick [5, 0, 1, 2, 3, 4] (by decide))) (fun w hw => hw.pick [0, 1, 2, 3, 4, 5] (by decide)) ?_
  refine wz 5 Z Z (QV.extract Z Z Z) ?_
  refine WD.l 6 Z (by kernel_rfl) Z ?_
  refine (EV.entryStore (ke := kP) (ve := i64v) ((ele k_.ops x50_1).slot, x34) 2 ((mget m9n_1 ((ele k_.ops x50_1).slot, x34) 0) + 1) s40 Z Z Z Z Z Z Z ?_)
  refine WQ.then (WC.seq ?_)
  refine WC.dr (m := 9) (S := Own noM w [kn noM w.heap.size w w, blk b37 [.int .i64 ((ele k_.ops x50_1).slot), .int .i64 x34] 90, blk b27 (Opr.cells (ele k_.ops x50_1)) 45, mapR b9 kP i64v (mput m9n_1 ((ele k_.ops x50_1).slot, x34) ((mget m9n_1 ((ele k_.ops x50_1).slot, x34) 0) + 1)), blk b2 [.int .i64 k_.pace, .int .i64 k_.stages, v_k__ops] 27, blk b1 t.cells 24]) (by kernel_rfl) (by kernel_rfl) (fun w hw => hw.pick [5, 0, 1, 2, 3, 4] (by decide)) ?_
  refine wz 0 Z Z (QV.move Z Z) ?_
  refine wz 1 Z Z (QV.loadAgg ag90 Z Z Z (Own.cellsBlk 1 Z)) ?_
  refine wz 2 Z Z (QV.lookup (k := ((ele k_.ops x50_1).slot, x34)) 3 0 mt88 kt90 zv3i64v Z Z Z Z Z) ?_
  refine wz 3 Z Z (QV.indexArray ar90 Z Z Z Z (by decide) (by decide)) ?_
  refine wz 4 Z Z (QV.load pl3 Z Z (Own.cell 1 Z Z)) ?_
  refine wz 5 Z Z (QV.fieldAddr fd24_0 Z Z) ?_
  obtain ⟨c41, hm42⟩ := cs hm39; clear hm39
  refine wz 6 Z Z (QV.indexArray ar22 Z Z Z Z c41.1 c41.2) ?_
  refine wz 7 Z Z (QV.load pl3 Z Z (Own.cellSym 5 Z (sel3_get (off := 0) (i := x34) c41.1 c41.2 Z Z Z) (addr_sym _ _ _))) ?_
  refine wz 8 Z Z (QV.gtr Z Z Z Z) ?_
  refine WD.e (by kernel_rfl) ?_
  refine WQ.then ?_
  refine WC.cond Z (fun h43 => ?_) (fun h43 => ?_)
  ·skip
   have hm44 := br_t h43 hm42; clear hm42
   refine sr ?_
   refine wa Z ?_
   refine nt (WC.ret (kr (tr (tr (kr (tr (tr ?_)))))))
   obtain rfl := up_ret hm44 hn20
   obtain rfl := (eq_of_some hm12).symm
   refine WQ.ret1 Z Z (fun w hw => ?_)
   exact ⟨Z, Own.kgrow (fun _ x => x) hw⟩
  have hm45 := br_f h43 hm42; clear hm42
  refine sk (WQ.block (WQ.then (WC.region ?_)))
  obtain ⟨c46, hm47⟩ := cs hm45; clear hm45
  refine wq Z (QV.add Z Z Z Z c46) ?_
  refine wm Z ?_
  refine WL.nil ?_
  exact WQ.again2 (mput m9n_1 ((ele k_.ops x50_1).slot, x34) ((mget m9n_1 ((ele k_.ops x50_1).slot, x34) 0) + 1)) (x50_1 + 1) m17 (up_next hm47 hn20) (Nat.lt_succ_self _) ⟨Z, Z, Z, Z, Z, Z, Z, trivial⟩ (fun w hw => hw.pick [2, 3, 4, 5] (by decide))
 have hm48 := br_f h21 hm19; clear hm19
 refine WC.exit (te (te (WQ.block_exit ?_)))
 exact WQ.out2 m9n_1 x50_1 (up_brk hm48 hn20) ⟨Z, Z, Z, Z, Z, Z, Z, trivial⟩ (fun w hw => hw.pick [0, 1, 2, 3] (by decide))
end Go.Proofs.Ytaimbkndebaaiab
end
