/- All edges: the program's list and the document's list. -/
import Derived.Test.YtaimbkndebaaiabSEdges
namespace Go.Rd
set_option linter.unusedVariables false
set_option linter.unusedSimpArgs false
theorem EdgeP_iff {l : Lp} {t : Tgt} {e : Edg} {fr to : Nat} (hf : fr < l.body.length) (hn : to < l.body.length) (h1 : e.fr = fr) (h2 : e.to = to) (hl : LoopOk l) : EdgeP l t e ↔ (UseE l t to e ∨ MemE l fr to e) := by
  constructor
  · rintro ⟨u, hu, h | ⟨f, hf', h⟩⟩
    · have : (u : Int) = to := by
        obtain ⟨r, hr, rfl⟩ := h
        exact h2
      rw [this] at h; exact .inl h
    · have e1 : (u : Int) = to := by rw [← h2, h.to]
      have e2 : (f : Int) = fr := by rw [← h1, h.fr]
      rw [e1, e2] at h; exact .inr h
  · rintro (h | h)
    · exact ⟨to, hn, .inl h⟩
    · exact ⟨to, hn, .inr ⟨fr, hf, h⟩⟩
theorem bdG_any {α β : Type} [Inhabited α] {c : Bool} {x : α} {k : α → Option β} : bdG c (some x) k = k (if c = true then x else default) := by cases c <;> rfl
theorem bool_uses {A B : Bool} {x y d : Int} : ((A && B) && (x == if (A && B) = true then y else d)) = ((A && B) && (x == y)) := by cases A <;> cases B <;> rfl
theorem tb_or {p q : Prop} : tb (p ∨ q) = (tb p || tb q) := by
  by_cases h1 : p
  · rw [tb_t (.inl h1), tb_t h1]; rfl
  · by_cases h2 : q
    · rw [tb_t (.inr h2), tb_f h1, tb_t h2]; rfl
    · rw [tb_f (fun h => h.elim h1 h2), tb_f h1, tb_f h2]; rfl
theorem is_edge_s {l : Lp} (hl : LoopOk l) (t : Tgt) {fr to : Nat} (h1 : fr < l.body.length) (h2 : to < l.body.length) {bk wt : Int} (h3 : 0 ≤ bk) (h4 : bk ≤ 32) : roundelayref6_is_m l t ⟨fr, to, bk, wt⟩ = some (tb (UseE l t to ⟨fr, to, bk, wt⟩ ∨ MemE l fr to ⟨fr, to, bk, wt⟩)) := by
  have hul := usesL_len (ele l.body (to : Int))
  unfold roundelayref6_is_m
  simp only
  rw [ck_IX (by omega) (by unfold ln; omega), ref_Uses_s, bd_ret]
  have step : ∀ i : Nat, 0 ≤ i → i < (usesL (ele l.body (to : Int))).length → (¬ ((ele (usesL (ele l.body (to : Int))) (i : Int)).st = fr ∧ (ele (usesL (ele l.body (to : Int))) (i : Int)).bk = bk ∧ wt = waitV t (ele l.body (fr : Int)).op) → roundelayref6_is_L0 l t ⟨fr, to, bk, wt⟩ (usesL (ele l.body (to : Int))) i = some (.next ((i : Int) + 1))) ∧
      (¬ ¬ ((ele (usesL (ele l.body (to : Int))) (i : Int)).st = fr ∧ (ele (usesL (ele l.body (to : Int))) (i : Int)).bk = bk ∧ wt = waitV t (ele l.body (fr : Int)).op) → roundelayref6_is_L0 l t ⟨fr, to, bk, wt⟩ (usesL (ele l.body (to : Int))) i = some (.ret true)) := fun i _ hi => by
    have hix : IX (i : Int) (ln (usesL (ele l.body (to : Int)))) := ⟨by omega, by unfold ln; omega⟩
    have e : roundelayref6_is_L0 l t ⟨fr, to, bk, wt⟩ (usesL (ele l.body (to : Int))) i = br (tb ((ele (usesL (ele l.body (to : Int))) (i : Int)).st = fr ∧ (ele (usesL (ele l.body (to : Int))) (i : Int)).bk = bk ∧ wt = waitV t (ele l.body (fr : Int)).op)) (some (.ret true)) (some (.next ((i : Int) + 1))) := by
      unfold roundelayref6_is_L0
      simp only
      rw [br_T (by unfold ln; omega), ck_yes hix, ck_imp (fun _ => hix), ck_imp (fun _ => ⟨by omega, by unfold ln; omega⟩), ref_Wait_s]
      rw [bdG_any, bool_uses, ck_IR (by omega) (by omega)]
      have hb : ∀ (x y z : Bool) (p q r : Prop), (x = true ↔ p) → (y = true ↔ q) → (z = true ↔ r) → ((x && y) && z) = tb (p ∧ q ∧ r) := fun x y z p q r h1 h2 h3 => tb_eq (by rw [Bool.and_eq_true, Bool.and_eq_true, h1, h2, h3, and_assoc])
      rw [hb _ _ _ _ _ _ beq_iff_eq beq_iff_eq beq_iff_eq]
    rw [e]
    exact ⟨fun h => by rw [tb_f h]; rfl, fun h => by rw [tb_t (Classical.not_not.1 h)]; rfl⟩
  have huse : UseE l t to ⟨fr, to, bk, wt⟩ ↔ ∃ i : Nat, i < (usesL (ele l.body (to : Int))).length ∧ ((ele (usesL (ele l.body (to : Int))) (i : Int)).st = fr ∧ (ele (usesL (ele l.body (to : Int))) (i : Int)).bk = bk ∧ wt = waitV t (ele l.body (fr : Int)).op) := by
    constructor
    · rintro ⟨r, hr, he⟩
      obtain ⟨i, hi, rfl⟩ := mem_ele hr
      simp only [Edg.mk.injEq] at he
      obtain ⟨a1, a2, a3, a4⟩ := he
      exact ⟨i, hi, a1.symm, a3.symm, by rw [a4, ← a1]⟩
    · rintro ⟨i, hi, a1, a2, a3⟩
      exact ⟨_, ele_mem' hi, by rw [a1, a2, a3]⟩
  rcases lp_scan (f := roundelayref6_is_L0 l t ⟨fr, to, bk, wt⟩ (usesL (ele l.body (to : Int)))) (n := (usesL (ele l.body (to : Int))).length) (fun _ => true) (usesL (ele l.body (to : Int))).length 0 (by omega) step (by unfold roundelayref6_is_L0; exact br_F (by unfold ln; omega)) with ⟨h, e⟩ | ⟨i, _, hi, hh, _, e⟩
  · rw [show (((0 : Nat)) : Int) = 0 from rfl] at e
    have hnu : ¬ UseE l t to ⟨fr, to, bk, wt⟩ := fun hu => by
      obtain ⟨i, hi, hc⟩ := huse.1 hu
      exact h i (by omega) hi hc
    rw [e, bd_ret, Out.on_go, tb_or, tb_f hnu, Bool.false_or, ck_IX (by omega) (by unfold ln; omega), ck_IX (by omega) (by unfold ln; omega), br_go, bd_ret, Out.on_go]
    unfold roundelayref6_Memory_m
    rw [bd_ret]
    have hC : (((((ele l.body (fr : Int)).op == 3 || (ele l.body (fr : Int)).op == 4) && ((ele l.body (to : Int)).op == 3 || (ele l.body (to : Int)).op == 4)) && ((ele l.body (fr : Int)).ar == (ele l.body (to : Int)).ar)) && ((ele l.body (fr : Int)).op == 4 || (ele l.body (to : Int)).op == 4)) = tb (memC l fr to) := by
      unfold memC
      refine tb_eq ?_
      unfold wordS
      simp [and_assoc]
    rw [hC]
    have hwt : (if ((ele l.body (fr : Int)).op == 4) = true then (1 : Int) else 0) = if (ele l.body (fr : Int)).op = 4 then 1 else 0 := by simp
    rw [hwt]
    by_cases hc : memC l fr to
    · rw [tb_t hc, Bool.not_true, Bool.false_or]
      by_cases hw : wt = if (ele l.body (fr : Int)).op = 4 then 1 else 0
      · obtain ⟨n1, x1, g1, g2⟩ := word_near hl h1 hc.1
        obtain ⟨n2, _, _, _⟩ := word_near hl h2 hc.2.1
        have hk : (ele l.logs (ele l.body (fr : Int)).ar).toNat ≤ 5 := by omega
        obtain ⟨p1, p2, p3⟩ := pow2 hk
        have hS : sizeV l (ele l.body (fr : Int)) = 2 ^ (ele l.logs (ele l.body (fr : Int)).ar).toNat := rfl
        have hle : (if decide ((fr : Int) ≥ to) = true then (1 : Int) else 0) = leastV fr to := by unfold leastV; simp
        have hlb := leastV_bd fr to
        rw [show (wt != if (ele l.body (fr : Int)).op = 4 then 1 else 0) = false from by rw [← hw]; exact bne_self_eq_false _, br_false, ck_yes x1, Size_s _ g2, bd_ret, br_go, bd_ret, Out.on_go, hle]
        rw [← hS]
        have hm : ∀ k : Int, 0 ≤ k → k ≤ 32 → roundelayref6_Meets_m (ele l.body (fr : Int)) (ele l.body (to : Int)) k (sizeV l (ele l.body (fr : Int))) = some (tb (MeetP (ele l.body (fr : Int)) (ele l.body (to : Int)) k (sizeV l (ele l.body (fr : Int))))) := fun k a b => rmeet_s n1 n2 a b hk
        rw [hm bk h3 h4, bdG_some']
        by_cases hr : leastV fr to ≤ bk ∧ bk ≤ sizeV l (ele l.body (fr : Int))
        · rw [show (decide (bk < leastV fr to) || decide (bk > sizeV l (ele l.body (fr : Int)))) = false from by simp; omega]
          simp only [Bool.not_false, if_true, Bool.false_or]
          by_cases hme : MeetP (ele l.body (fr : Int)) (ele l.body (to : Int)) bk (sizeV l (ele l.body (fr : Int)))
          · rw [tb_t hme, Bool.not_true, br_false]
            have hbk : ((bk.toNat : Nat) : Int) = bk := by omega
            have hlk : (((leastV fr to).toNat : Nat) : Int) = leastV fr to := by omega
            have st2 : ∀ i : Nat, (leastV fr to).toNat ≤ i → i < bk.toNat → (¬ MeetP (ele l.body (fr : Int)) (ele l.body (to : Int)) i (sizeV l (ele l.body (fr : Int))) → roundelayref6_is_L2 l ⟨fr, to, bk, wt⟩ (sizeV l (ele l.body (fr : Int))) i = some (.next ((i : Int) + 1))) ∧ (¬ ¬ MeetP (ele l.body (fr : Int)) (ele l.body (to : Int)) i (sizeV l (ele l.body (fr : Int))) → roundelayref6_is_L2 l ⟨fr, to, bk, wt⟩ (sizeV l (ele l.body (fr : Int))) i = some (.ret false)) := fun i _ hi => by
              have e : roundelayref6_is_L2 l ⟨fr, to, bk, wt⟩ (sizeV l (ele l.body (fr : Int))) i = br (tb (MeetP (ele l.body (fr : Int)) (ele l.body (to : Int)) i (sizeV l (ele l.body (fr : Int))))) (some (.ret false)) (some (.next ((i : Int) + 1))) := by
                unfold roundelayref6_is_L2
                simp only
                rw [br_T (by omega), hm i (by omega) (by omega), bd_ret, ck_IR (by omega) (by omega)]
              rw [e]
              exact ⟨fun h => by rw [tb_f h]; rfl, fun h => by rw [tb_t (Classical.not_not.1 h)]; rfl⟩
            rcases lp_scan (f := roundelayref6_is_L2 l ⟨fr, to, bk, wt⟩ (sizeV l (ele l.body (fr : Int)))) (n := bk.toNat) (fun _ => false) (bk.toNat - (leastV fr to).toNat) (leastV fr to).toNat (by omega) st2 (by unfold roundelayref6_is_L2; exact br_F (by show ¬ ((bk.toNat : Int) < bk); omega)) with ⟨ha, e2⟩ | ⟨i, hi0, hi1, hi2, _, e2⟩
            · rw [hlk] at e2
              rw [e2, bd_ret, Out.on_go, tb_t]
              refine ⟨hc, rfl, rfl, hw, hr.1, hr.2, hme, fun k hk1 hk2 => ?_⟩
              have hk2' : k < bk := hk2
              have hkk : ((k.toNat : Nat) : Int) = k := by omega
              have := ha k.toNat (by omega) (by omega)
              rwa [hkk] at this
            · rw [hlk] at e2
              rw [e2, bd_ret, Out.on_ret, tb_f]
              exact fun h => hi2 (h.first i (by omega) (by show (i : Int) < bk; omega))
          · rw [tb_f hme, Bool.not_false, br_true, tb_f fun h => hme h.meet]
        · rw [show (decide (bk < leastV fr to) || decide (bk > sizeV l (ele l.body (fr : Int)))) = true from by simp; omega]
          simp only [Bool.true_or, br_true]
          rw [tb_f fun h => hr ⟨h.lo, h.hi⟩]
      · rw [show (wt != if (ele l.body (fr : Int)).op = 4 then 1 else 0) = true from by simpa using hw, br_true, tb_f fun h => hw h.wt]
    · rw [tb_f hc, Bool.not_false, Bool.true_or, br_true, tb_f fun h => hc h.c]
  · rw [show (((0 : Nat)) : Int) = 0 from rfl] at e
    rw [e, bd_ret, Out.on_ret, tb_t (.inl (huse.2 ⟨i, hi, Classical.not_not.1 hh⟩))]
/-! ### the document's list -/
structure UpTo (l : Lp) (t : Tgt) (p : Edg) (b : Int) (v : List Edg) : Prop where
  st : Strict v
  mem : ∀ e, e ∈ v ↔ EdgeP l t e ∧ Lt e p
  len : (v.length : Int) ≤ b
theorem AL32 {n : Nat} (h : n ≤ 100000) : AL n 32 := ⟨by rw [maxLen_eq]; omega, by omega⟩
theorem upto_next {l : Lp} {t : Tgt} {p p' : Edg} {b b' : Int} {v : List Edg} (h : UpTo l t p b v) (hb : b ≤ b') (hp : ∀ e, EdgeP l t e → (Lt e p ↔ Lt e p')) : UpTo l t p' b' v :=
  ⟨h.st, fun e => by rw [h.mem]; exact ⟨fun ⟨a, c⟩ => ⟨a, (hp e a).1 c⟩, fun ⟨a, c⟩ => ⟨a, (hp e a).2 c⟩⟩, Int.le_trans h.len hb⟩
theorem rEdges_s {l : Lp} (hl : LoopOk l) (t : Tgt) : ∃ E, roundelayref6_Edges_m l t = some E ∧ Strict E ∧ (∀ e, e ∈ E ↔ EdgeP l t e) ∧ E.length ≤ 60000 := by
  have hn16 := hl.2.2.1
  have hin : ∀ e, EdgeP l t e → EdgeIn l.body.length e := fun e h => h.in hl
  unfold roundelayref6_Edges_m
  have XE := lp_inv (f := roundelayref6_Edges_L0 l t) (n := l.body.length) (fun k v => UpTo l t ⟨k, 0, 0, 0⟩ (k * 3696) v) (fun fr v hfr hv => ?_) (fun g => by unfold roundelayref6_Edges_L0; exact br_F (by unfold ln; omega)) [] ⟨List.Pairwise.nil, fun e => ⟨fun h => (by cases h), fun ⟨h1, h2⟩ => by
    have := hin e h1; have := this.fr; unfold Lt at h2; rw [ordV_neg] at h2; have := (hin e h1).to; have := (hin e h1).bk; have := (hin e h1).wt; simp only at h2; omega⟩, by simp⟩
  · obtain ⟨E, e0, hE⟩ := XE
    rw [e0, bd_ret, Out.on_go]
    refine ⟨E, rfl, hE.st, fun e => ?_, by have := hE.len; omega⟩
    rw [hE.mem]
    refine ⟨fun h => h.1, fun h => ⟨h, ?_⟩⟩
    have := (hin e h).fr
    unfold Lt; rw [ordV_neg]; left; exact this.2
  · have Xv1 := lp_inv (f := roundelayref6_Edges_L2 l t fr) (n := l.body.length) (fun k v => UpTo l t ⟨fr, k, 0, 0⟩ ((fr : Int) * 3696 + k * 231) v) (fun to v hto hv => ?_) (fun g => by unfold roundelayref6_Edges_L2; exact br_F (by unfold ln; omega)) v (upto_next hv (by omega) fun e he => Iff.rfl)
    · obtain ⟨v1, e1, hv1⟩ := Xv1
      refine ⟨v1, ?_, upto_next hv1 (by omega) fun e he => ?_⟩
      · unfold roundelayref6_Edges_L0
        simp only
        rw [br_T (by unfold ln; omega), e1, bd_ret, Out.on_go]
        simp only
        rw [ck_IR (by omega) (by omega)]
      · have h1 := (hin e he).to; have h2 := (hin e he).bk; have h3 := (hin e he).wt
        unfold Lt; rw [ordV_neg, ordV_neg]; simp only; omega
    · have Xv2 := lp_inv (f := roundelayref6_Edges_L4 l t fr to) (n := 33) (fun k v => UpTo l t ⟨fr, to, k, 0⟩ ((fr : Int) * 3696 + to * 231 + k * 7) v) (fun bk v hbk hv => ?_) (fun g => by unfold roundelayref6_Edges_L4; exact br_F (by omega)) v (upto_next hv (by omega) fun e he => Iff.rfl)
      · obtain ⟨v2, e2, hv2⟩ := Xv2
        refine ⟨v2, ?_, upto_next hv2 (by omega) fun e he => ?_⟩
        · unfold roundelayref6_Edges_L2
          simp only
          rw [br_T (by unfold ln; omega), e2, bd_ret, Out.on_go]
          simp only
          rw [ck_IR (by omega) (by omega)]
        · have h2 := (hin e he).bk; have h3 := (hin e he).wt
          unfold Lt; rw [ordV_neg, ordV_neg]; simp only; omega
      · have Xv3 := lp_inv (f := roundelayref6_Edges_L6 l t fr to bk) (n := 7) (fun k v => UpTo l t ⟨fr, to, bk, k⟩ ((fr : Int) * 3696 + to * 231 + bk * 7 + k) v) (fun wt v hwt hv => ?_) (fun g => by unfold roundelayref6_Edges_L6; exact br_F (by omega)) v (upto_next hv (by omega) fun e he => Iff.rfl)
        · obtain ⟨v3, e3, hv3⟩ := Xv3
          refine ⟨v3, ?_, upto_next hv3 (by omega) fun e he => ?_⟩
          · unfold roundelayref6_Edges_L4
            simp only
            rw [br_T (by omega), e3, bd_ret, Out.on_go]
            simp only
            rw [ck_IR (by omega) (by omega)]
          · have h3 := (hin e he).wt
            unfold Lt; rw [ordV_neg, ordV_neg]; simp only; omega
        · have hlen := hv.len
          have hiff := EdgeP_iff (t := t) (e := ⟨fr, to, bk, wt⟩) hfr hto rfl rfl hl
          unfold roundelayref6_Edges_L6
          simp only
          rw [br_T (by omega), is_edge_s hl t hfr hto (by omega) (by omega), bd_ret, ck_IR (by omega) (by omega)]
          by_cases hE : UseE l t to ⟨fr, to, bk, wt⟩ ∨ MemE l fr to ⟨fr, to, bk, wt⟩
          · rw [tb_t hE, br_true, ck_yes (AL32 (by rw [List.length_append, List.length_singleton]; omega))]
            refine ⟨_, rfl, strict_snoc hv.st fun e he => ((hv.mem e).1 he).2, fun e => ?_, by rw [List.length_append, List.length_singleton]; omega⟩
            rw [List.mem_append, List.mem_singleton, hv.mem]
            constructor
            · rintro (⟨a, b⟩ | rfl)
              · refine ⟨a, ?_⟩
                unfold Lt at b ⊢; rw [ordV_neg] at b ⊢; simp only at b ⊢; omega
              · exact ⟨hiff.2 hE, by unfold Lt; rw [ordV_neg]; exact .inr ⟨rfl, .inr ⟨rfl, .inr ⟨rfl, by show (wt : Int) < ((wt + 1 : Nat) : Int); omega⟩⟩⟩⟩
            · rintro ⟨a, b⟩
              unfold Lt at b; rw [ordV_neg] at b; simp only at b
              by_cases hq : e = ⟨fr, to, bk, wt⟩
              · exact .inr hq
              · refine .inl ⟨a, ?_⟩
                unfold Lt; rw [ordV_neg]; simp only
                have : ¬ (e.fr = fr ∧ e.to = to ∧ e.bk = bk ∧ e.wt = wt) := fun ⟨x1, x2, x3, x4⟩ => hq (by cases e; simp only [Edg.mk.injEq] at *; exact ⟨x1, x2, x3, x4⟩)
                omega
          · rw [tb_f hE, br_false, ck_IR (by omega) (by omega)]
            refine ⟨v, rfl, hv.st, fun e => ?_, by omega⟩
            rw [hv.mem]
            constructor
            · rintro ⟨a, b⟩
              refine ⟨a, ?_⟩
              unfold Lt at b ⊢; rw [ordV_neg] at b ⊢; simp only at b ⊢; omega
            · rintro ⟨a, b⟩
              refine ⟨a, ?_⟩
              unfold Lt at b ⊢; rw [ordV_neg] at b ⊢; simp only at b ⊢
              have : ¬ (e.fr = fr ∧ e.to = to ∧ e.bk = bk ∧ e.wt = wt) := fun ⟨x1, x2, x3, x4⟩ => hE (hiff.1 (by
                have : e = ⟨fr, to, bk, wt⟩ := by cases e; simp only [Edg.mk.injEq] at *; exact ⟨x1, x2, x3, x4⟩
                rw [← this]; exact a))
              omega
/-! ### the program's list -/
structure Cnt (P : Edg → Prop) (b : Nat) (v : List Edg) : Prop where
  mem : ∀ e, e ∈ v ↔ P e
  len : v.length ≤ b
theorem Edges_s {l : Lp} (hl : LoopOk l) (hf : l.Fine) {t : Tgt} (ht : tgtOk t = true) : ∃ E, dep_Edges_m l t = some (E, 0) ∧ Strict E ∧ (∀ e, e ∈ E ↔ EdgeP l t e) := by
  have hn16 := hl.2.2.1
  unfold dep_Edges_m
  rw [May_s l hf, bd_ret, target_May_s, tb_t hl, ht]
  simp only [Bool.not_true, Bool.not_false, bdG_t, bd_ret, Bool.or_self, br_false]
  have Xv := lp_inv (f := dep_Edges_L0 l t) (n := l.body.length) (fun k v => Cnt (fun e => ∃ to : Nat, to < k ∧ (UseE l t to e ∨ ∃ fr : Nat, fr < l.body.length ∧ MemE l fr to e)) (k * 18) v) (fun to v hto hv => ?_) (fun g => by unfold dep_Edges_L0; exact br_F (by unfold ln; omega)) [] ⟨fun e => ⟨fun h => (by cases h), fun ⟨_, h, _⟩ => (by omega)⟩, Nat.zero_le _⟩
  · obtain ⟨v, e0, hv⟩ := Xv
    rw [e0, bd_ret, Out.on_go]
    simp only
    obtain ⟨s1, s2, s3⟩ := sort_srt v
    have hlen := hv.len
    unfold SortFunc_m
    rw [ck_yes (by omega), bd_ret]
    obtain ⟨ys, c1, c2, c3⟩ := Compact_s s1 (by omega)
    rw [c1, bd_ret]
    exact ⟨ys, rfl, c2, fun e => by rw [c3, s2, hv.mem]; rfl⟩
  · have hul := usesL_len (ele l.body (to : Int))
    have hlen := hv.len
    have Xv1 := lp_inv (f := dep_Edges_L2 l t to (usesL (ele l.body (to : Int)))) (n := (usesL (ele l.body (to : Int))).length) (fun k w => Cnt (fun e => e ∈ v ∨ ∃ j : Nat, j < k ∧ e = ⟨(ele (usesL (ele l.body (to : Int))) (j : Int)).st, to, (ele (usesL (ele l.body (to : Int))) (j : Int)).bk, waitV t (ele l.body (ele (usesL (ele l.body (to : Int))) (j : Int)).st).op⟩) (to * 18 + k) w) (fun i w hi hw => ?_) (fun g => by unfold dep_Edges_L2; exact br_F (by unfold ln; omega)) v ⟨fun e => ⟨.inl, fun h => h.elim id fun ⟨_, h, _⟩ => (by omega)⟩, by omega⟩
    · obtain ⟨v1, e1, hv1⟩ := Xv1
      have Xv2 := lp_inv (f := dep_Edges_L4 l to) (n := l.body.length) (fun k w => Cnt (fun e => e ∈ v1 ∨ ∃ fr : Nat, fr < k ∧ MemE l fr to e) (to * 18 + 2 + k) w) (fun i w hi hw => ?_) (fun g => by unfold dep_Edges_L4; exact br_F (by unfold ln; omega)) v1 ⟨fun e => ⟨.inl, fun h => h.elim id fun ⟨_, h, _⟩ => (by omega)⟩, by have := hv1.len; omega⟩
      · obtain ⟨v2, e2, hv2⟩ := Xv2
        refine ⟨v2, ?_, fun e => ?_, by have := hv2.len; omega⟩
        · unfold dep_Edges_L0
          simp only
          rw [br_T (by unfold ln; omega), ck_IX (by omega) (by unfold ln; omega), Uses_s, bd_ret, e1, bd_ret, Out.on_go]
          simp only
          rw [e2, bd_ret, Out.on_go]
          simp only
          rw [ck_IR (by omega) (by omega)]
        · rw [hv2.mem, hv1.mem, hv.mem]
          constructor
          · rintro ((⟨u, h1, h2⟩ | ⟨j, h1, rfl⟩) | ⟨fr, h1, h2⟩)
            · exact ⟨u, by omega, h2⟩
            · exact ⟨to, by omega, .inl ⟨_, ele_mem' h1, rfl⟩⟩
            · exact ⟨to, by omega, .inr ⟨fr, h1, h2⟩⟩
          · rintro ⟨u, h1, h2⟩
            by_cases hu : u = to
            · subst hu
              rcases h2 with ⟨r, hr, rfl⟩ | ⟨fr, h3, h4⟩
              · obtain ⟨j, hj, rfl⟩ := mem_ele hr
                exact .inl (.inr ⟨j, hj, rfl⟩)
              · exact .inr ⟨fr, h3, h4⟩
            · exact .inl (.inl ⟨u, by omega, h2⟩)
      · obtain ⟨r, q1, q2⟩ := memory_s hl hi hto
        have hwl := hw.len
        unfold dep_Edges_L4
        simp only
        rw [br_T (by unfold ln; omega), q1, bd_ret, ck_IR (by omega) (by omega)]
        rcases q2 with ⟨q2, q3⟩ | ⟨q2, q3⟩
        · rw [q2, br_true, ck_yes (AL32 (by rw [List.length_append, List.length_singleton]; omega))]
          refine ⟨_, rfl, fun e => ?_, by rw [List.length_append, List.length_singleton]; omega⟩
          rw [List.mem_append, List.mem_singleton, hw.mem]
          constructor
          · rintro ((h | ⟨f, h1, h2⟩) | rfl)
            · exact .inl h
            · exact .inr ⟨f, by omega, h2⟩
            · exact .inr ⟨i, by omega, q3⟩
          · rintro (h | ⟨f, h1, h2⟩)
            · exact .inl (.inl h)
            · by_cases hu : f = i
              · subst hu; exact .inr (h2.one q3)
              · exact .inl (.inr ⟨f, by omega, h2⟩)
        · rw [q2, br_false, ck_IR (by omega) (by omega)]
          refine ⟨w, rfl, fun e => ?_, by omega⟩
          rw [hw.mem]
          constructor
          · rintro (h | ⟨f, h1, h2⟩)
            · exact .inl h
            · exact .inr ⟨f, by omega, h2⟩
          · rintro (h | ⟨f, h1, h2⟩)
            · exact .inl h
            · by_cases hu : f = i
              · subst hu; exact absurd h2 (q3 e)
              · exact .inr ⟨f, by omega, h2⟩
    · have hwl := hw.len
      have hst := (uses_ok hl hto (ele_mem' hi)).st (by omega)
      unfold dep_Edges_L2
      simp only
      rw [br_T (by unfold ln; omega), ck_IX (by omega) (by unfold ln; omega), ck_IX hst.1 (by unfold ln; omega), target_Wait_s, bd_ret, ck_yes (AL32 (by rw [List.length_append, List.length_singleton]; omega)), ck_IR (by omega) (by omega)]
      refine ⟨_, rfl, fun e => ?_, by rw [List.length_append, List.length_singleton]; omega⟩
      rw [List.mem_append, List.mem_singleton, hw.mem]
      constructor
      · rintro ((h | ⟨j, h1, h2⟩) | rfl)
        · exact .inl h
        · exact .inr ⟨j, by omega, h2⟩
        · exact .inr ⟨i, by omega, rfl⟩
      · rintro (h | ⟨j, h1, h2⟩)
        · exact .inl (.inl h)
        · by_cases hu : j = i
          · subst hu; exact .inr h2
          · exact .inl (.inr ⟨j, by omega, h2⟩)
/-- Both sides: one list. -/
theorem edges_both {l : Lp} (hl : LoopOk l) (hf : l.Fine) {t : Tgt} (ht : tgtOk t = true) : ∃ E, dep_Edges_m l t = some (E, 0) ∧ roundelayref6_Edges_m l t = some E ∧ Strict E ∧ (∀ e, e ∈ E ↔ EdgeP l t e) ∧ E.length ≤ 60000 := by
  obtain ⟨E, e1, e2, e3⟩ := Edges_s hl hf ht
  obtain ⟨F, f1, f2, f3, f4⟩ := rEdges_s hl t
  have : E = F := strict_ext e2 f2 fun e => by rw [e3, f3]
  subst this
  exact ⟨E, e1, f1, e2, e3, f4⟩
theorem Edges_bad {l : Lp} (hf : l.Fine) {t : Tgt} (h : ¬ (LoopOk l ∧ tgtOk t = true)) : dep_Edges_m l t = some ([], 2) := by
  unfold dep_Edges_m
  rw [May_s l hf, bd_ret, target_May_s]
  by_cases hl : LoopOk l
  · have : tgtOk t = false := by
      cases hh : tgtOk t with
      | true => exact absurd ⟨hl, hh⟩ h
      | false => rfl
    rw [tb_t hl, this]; rfl
  · rw [tb_f hl]; rfl
theorem rMay_s {l : Lp} (hf : l.Fine) (t : Tgt) : roundelayref6_May_m l t = some (tb (LoopOk l ∧ tgtOk t = true)) := by
  unfold roundelayref6_May_m
  rw [ref_May_s l hf, bd_ret, ref_tMay_s]
  simp only [bdG_some']
  congr 1
  refine tb_eq ?_
  by_cases h : LoopOk l
  · rw [tb_t h]; simp [h]
  · rw [tb_f h]; simp [h]
end Go.Rd
