/- Kernels as bytes: what the models come to. -/
import Derived.Test.YtaimbkndebaaiaaPl
import Derived.Test.YtaimbkndebaaiaaMCode
namespace Go.Rd
set_option linter.unusedVariables false
set_option linter.unusedSimpArgs false

theorem bt_shr (n : Int) (j : Nat) (hj : j ≤ 7) : bt (shrD n (8 * (j : Int))) = bytU n (8 * j) := by
  have e : (8 * (j : Int)).toNat = 8 * j := by omega
  unfold bt bytU shrD
  rw [e, Nat.min_eq_left (by omega), Int.fdiv_eq_ediv_of_nonneg _ (Int.le_of_lt (Int.pow_pos (by decide)))]

theorem put_inner (l : List Int) (x : Int) : ∀ (j : Nat) (acc : List UInt8), j ≤ 8 → acc.length + j ≤ 100000000 →
    lp (code_Put_c1_L2 l x) (acc, 8 * (j : Int) - 8) = some (.go (acc ++ beFrom (ele l x) j, -8))
  | 0, acc, _, _ => by
    rw [show 8 * ((0 : Nat) : Int) - 8 = -8 from rfl]
    refine (lp_brk (g' := (acc, -8)) ?_).trans (by simp [beFrom])
    unfold code_Put_c1_L2
    exact br_F (by decide)
  | j + 1, acc, hj, hl => by
    have e : 8 * ((j + 1 : Nat) : Int) - 8 = 8 * (j : Int) := by omega
    have ih := put_inner l x j (acc ++ [bytU (ele l x) (8 * j)]) (by omega) (by simp; omega)
    rw [e]
    refine lp_step ?_ (ih.trans (by simp [beFrom]))
    unfold code_Put_c1_L2
    simp only
    rw [br_T (by omega), ck_yes (by omega), bt_shr _ _ (by omega), ck_AL (by simp; omega) (by simp; omega), ck_IR (by omega) (by omega)]

theorem put_outer (l : List Int) (b : List UInt8) (hb : b.length + 8 * l.length ≤ 10000000) : ∀ (m i : Nat), i + m = l.length →
    lp (code_Put_c1_L0 l) (b ++ beL (l.take i), i) = some (.go (b ++ beL l, l.length))
  | 0, i, h => by
    have hi : i = l.length := by omega
    subst hi
    rw [List.take_length]
    refine lp_brk ?_
    unfold code_Put_c1_L0
    exact br_F (by unfold ln; omega)
  | m + 1, i, h => by
    have hlt : i < l.length := by omega
    have ih := put_outer l b hb m (i + 1) (by omega)
    rw [take_next hlt, beL_snoc, ← List.append_assoc] at ih
    refine lp_step ?_ ih
    have hlen : (b ++ beL (l.take i)).length ≤ 10000000 := by
      rw [List.length_append, beL_len, List.length_take]; omega
    have h8 := put_inner l i 8 (b ++ beL (l.take i)) (by omega) (by omega)
    rw [show 8 * ((8 : Nat) : Int) - 8 = 56 from rfl] at h8
    unfold code_Put_c1_L0
    simp only
    rw [br_T (by unfold ln; omega), ck_IX (by omega) (by unfold ln; omega), h8, bd_ret, Out.on_go]
    simp only
    rw [ck_IR (by omega) (by omega)]
    rfl
theorem put_c1 (l : List Int) (b : List UInt8) (hb : b.length + 8 * l.length ≤ 10000000) : code_Put_c1_m l b = some (b ++ beL l) := by
  have := put_outer l b hb l.length 0 (by omega)
  rw [List.take_zero, show beL [] = [] from rfl, List.append_nil] at this
  unfold code_Put_c1_m
  rw [show (0 : Int) = ((0 : Nat) : Int) from rfl, this]
  rfl

def Opr.ns (o : Opr) : List Int := [o.slot, o.stage, o.op, o.dest, o.a, o.b, o.ar, o.sp, o.pl, o.n]
def Krn.head (k : Krn) : List Int := [k.pace, k.stages, ln k.ops]
def bytesK (k : Krn) : List UInt8 := beL (k.head ++ k.ops.flatMap Opr.ns)
theorem ns_len (o : Opr) : o.ns.length = 10 := rfl
theorem flat_len (l : List Opr) : (l.flatMap Opr.ns).length = 10 * l.length := by
  induction l with
  | nil => rfl
  | cons a l ih => rw [List.flatMap_cons, List.length_append, ih, ns_len, List.length_cons]; omega
theorem bytesK_len (k : Krn) : (bytesK k).length = 24 + 80 * k.ops.length := by
  unfold bytesK
  rw [beL_len, List.length_append, flat_len]
  simp [Krn.head]; omega
theorem beL_append (a b : List Int) : beL (a ++ b) = beL a ++ beL b := by simp [beL]
theorem take_ns (o : Opr) (i : Nat) (h : i < 10) : beL (o.ns.take (i + 1)) = beL (o.ns.take i) ++ beL [ele o.ns i] := by
  rw [take_next (by rw [ns_len]; exact h), beL_append]
theorem put_fields (k : Krn) (x : Int) (acc : List UInt8) (ha : acc.length ≤ 5000000) : ∀ (m i : Nat), i + m = 9 →
    lp (code_Put_L2 k x) (acc ++ beL ((ele k.ops x).ns.take i), i) = some (.go (acc ++ beL ((ele k.ops x).ns.take 9), 9))
  | 0, i, h => by
    have hi : i = 9 := by omega
    subst hi
    refine lp_brk ?_
    unfold code_Put_L2
    exact br_F (by omega)
  | m + 1, i, h => by
    have hlt : i < 9 := by omega
    have ih := put_fields k x acc ha m (i + 1) (by omega)
    rw [take_ns _ _ (by omega), ← List.append_assoc] at ih
    refine lp_step ?_ ih
    have hlen : (acc ++ beL ((ele k.ops x).ns.take i)).length + 8 * 1 ≤ 10000000 := by
      rw [List.length_append, beL_len, List.length_take, ns_len]; omega
    unfold code_Put_L2
    simp only
    have hm := put_c1 [ele (ele k.ops x).ns i] (acc ++ beL ((ele k.ops x).ns.take i)) (by simpa using hlen)
    unfold Opr.ns at hm ⊢
    rw [br_T (by omega), ck_IX (by omega) (by omega), ck_IX (by omega) (by simp [ln]; omega), hm, bd_ret, ck_IR (by omega) (by omega)]
    rfl
theorem put_ops (k : Krn) (hk : k.ops.length ≤ 16) : ∀ (m i : Nat), i + m = k.ops.length →
    lp (code_Put_L0 k) (beL (k.head ++ (k.ops.take i).flatMap Opr.ns), i) = some (.go (bytesK k, k.ops.length))
  | 0, i, h => by
    have hi : i = k.ops.length := by omega
    subst hi
    rw [List.take_length]
    refine lp_brk ?_
    unfold code_Put_L0
    exact br_F (by unfold ln; omega)
  | m + 1, i, h => by
    have hlt : i < k.ops.length := by omega
    have ih := put_ops k hk m (i + 1) (by omega)
    have hlen : (beL (k.head ++ (k.ops.take i).flatMap Opr.ns)).length ≤ 5000 := by
      rw [beL_len, List.length_append, flat_len, List.length_take]; simp [Krn.head]; omega
    have hf := put_fields k i (beL (k.head ++ (k.ops.take i).flatMap Opr.ns)) (by omega) 9 0 (by omega)
    rw [List.take_zero, show beL [] = [] from rfl, List.append_nil] at hf
    have hc := put_c1 [ele (ele k.ops i).ns 9] (beL (k.head ++ (k.ops.take i).flatMap Opr.ns) ++ beL ((ele k.ops i).ns.take 9)) (by
      rw [List.length_append, beL_len (List.take 9 _)]; simp; omega)
    refine lp_step ?_ ih
    unfold code_Put_L0
    simp only
    rw [br_T (by unfold ln; omega), ck_IX (by omega) (by unfold ln; omega), show (0 : Int) = ((0 : Nat) : Int) from rfl, hf, bd_ret, Out.on_go]
    simp only
    unfold Opr.ns at hc ⊢
    rw [ck_IX (by omega) (by simp [ln]), hc, bd_ret, ck_IR (by omega) (by omega), take_next hlt]
    simp only [List.flatMap_append, List.append_assoc, beL_append]
    rfl
theorem code_Put_s (k : Krn) : code_Put_m k = if 16 < k.ops.length then some ([], 1) else some (bytesK k, 0) := by
  unfold code_Put_m
  by_cases h : 16 < k.ops.length
  · rw [if_pos h, br_T (by unfold ln; omega)]
  · rw [if_neg h, br_F (by unfold ln; omega), put_c1 _ _ (by simp), bd_ret]
    have := put_ops k (by omega) k.ops.length 0 (by omega)
    rw [List.take_zero, List.flatMap_nil, List.append_nil] at this
    rw [List.nil_append, show (0 : Int) = ((0 : Nat) : Int) from rfl]
    unfold Krn.head at this
    rw [this]; rfl

/-! ### the reference -/
theorem tmod_bt (n : Int) : (Int.tmod n 256 < 0 → bt (Int.tmod n 256 + 256) = bytU n 0 ∧ Int.tdiv (n - (Int.tmod n 256 + 256)) 256 = n / 256) ∧ (¬ Int.tmod n 256 < 0 → bt (Int.tmod n 256) = bytU n 0 ∧ Int.tdiv (n - Int.tmod n 256) 256 = n / 256) := by
  have ht := tmod256 n
  have hb := tmod_lt' n (m := 256) (by decide)
  have hd := Int.emod_add_mul_ediv n 256
  have hu : bytU n 0 = UInt8.ofNat (n % 256).toNat := by unfold bytU; simp
  have hr : 0 ≤ n % 256 ∧ n % 256 < 256 := ⟨Int.emod_nonneg _ (by decide), Int.emod_lt_of_pos _ (by decide)⟩
  have key : Int.tdiv (n - n % 256) 256 = n / 256 := by
    have : n - n % 256 = 256 * (n / 256) := by omega
    rw [this, Int.mul_tdiv_cancel_left _ (by decide)]
  constructor
  · intro h
    have e : Int.tmod n 256 + 256 = n % 256 := by omega
    rw [e, hu]; unfold bt
    exact ⟨by rw [Int.emod_emod_of_dvd _ (Int.dvd_refl _)], key⟩
  · intro h
    have e : Int.tmod n 256 = n % 256 := by omega
    rw [e, hu]; unfold bt
    exact ⟨by rw [Int.emod_emod_of_dvd _ (Int.dvd_refl _)], key⟩
theorem bytU_div (n : Int) (j : Nat) : bytU (n / 256) (8 * j) = bytU n (8 * (j + 1)) := by
  unfold bytU
  rw [show 8 * (j + 1) = 8 + 8 * j from by omega, Int.pow_add, ← Int.ediv_ediv_of_nonneg (by decide)]
  rfl
theorem number_loop : ∀ (m : Nat) (ls : List UInt8) (n : Int), m ≤ 8 → ls.length = 8 → (-9223372036854775808 ≤ n ∧ n ≤ 9223372036854775807) →
    ∃ ls' n', lp roundelayref13_number_L0 (ls, n, (m : Int) - 1) = some (.go (ls', n', -1)) ∧ ls'.length = 8 ∧ ∀ i : Nat, ls'.getD i 0 = if i < m then bytU n (8 * (m - 1 - i)) else ls.getD i 0
  | 0, ls, n, _, hl, hn => ⟨ls, n, lp_brk (by unfold roundelayref13_number_L0; exact br_F (by decide)), hl, fun i => by simp⟩
  | m + 1, ls, n, hm, hl, hn => by
    obtain ⟨h1, h2⟩ := tmod_bt n
    have hb := tmod_lt' n (m := 256) (by decide)
    have hd : -9223372036854775808 ≤ n / 256 ∧ n / 256 ≤ 9223372036854775807 := by omega
    obtain ⟨ls', n', e1, e2, e3⟩ := number_loop m (upd ls (m : Int) (bytU n 0)) (n / 256) (by omega) (by rw [upd_length]; exact hl) hd
    refine ⟨ls', n', lp_step ?_ e1, e2, fun i => ?_⟩
    · unfold roundelayref13_number_L0
      simp only
      rw [show ((m + 1 : Nat) : Int) - 1 = (m : Int) from by omega]
      rw [br_T (by omega)]
      have ht := tmod256 n
      have hmod := Int.emod_add_mul_ediv n 256
      have hr : 0 ≤ n % 256 ∧ n % 256 < 256 := ⟨Int.emod_nonneg _ (by decide), Int.emod_lt_of_pos _ (by decide)⟩
      by_cases hneg : Int.tmod n 256 < 0
      · obtain ⟨q1, q2⟩ := h1 hneg
        rw [br_T hneg, ck_IR (by omega) (by omega), ck_IX (by omega) (by omega), ck_IX (by omega) (by unfold ln; omega), ck_IR (by omega) (by omega), q1, q2, ck_IR (by omega) (by omega), ck_IR (by omega) (by omega)]
      · obtain ⟨q1, q2⟩ := h2 hneg
        rw [br_F hneg, ck_IX (by omega) (by omega), ck_IX (by omega) (by unfold ln; omega), ck_IR (by omega) (by omega), q1, q2, ck_IR (by omega) (by omega), ck_IR (by omega) (by omega)]
    · rw [e3, getD_upd]
      by_cases hi : i < m
      · rw [if_pos hi, if_pos (by omega), bytU_div]
        congr 2; omega
      · rw [if_neg hi]
        by_cases he : i = m
        · subst he
          have e0 : 8 * (i + 1 - 1 - i) = 0 := by omega
          rw [if_pos (by omega), if_pos (by omega), e0]
        · rw [if_neg (by omega), if_neg (by omega)]
theorem number_s (n : Int) (hn : -9223372036854775808 ≤ n ∧ n ≤ 9223372036854775807) : roundelayref13_number_m n = some (be8 n) := by
  obtain ⟨ls', n', e1, e2, e3⟩ := number_loop 8 [0, 0, 0, 0, 0, 0, 0, 0] n (by omega) rfl hn
  unfold roundelayref13_number_m
  rw [show ((8 : Nat) : Int) - 1 = 7 from rfl] at e1
  rw [e1, bd_ret, Out.on_go]
  simp only
  rw [ck_yes e2]
  congr 1
  refine be8_of e2 fun j hj => ?_
  rw [e3, if_pos (by omega)]
  congr 2; omega

def InRL (l : List Int) : Prop := ∀ x ∈ l, -9223372036854775808 ≤ x ∧ x ≤ 9223372036854775807
theorem InRL.at {l : List Int} (h : InRL l) (i : Nat) : -9223372036854775808 ≤ ele l i ∧ ele l i ≤ 9223372036854775807 := by
  by_cases hi : i < l.length
  · have : ele l i = l[i] := by simp [Rd.ele, List.getD_eq_getElem?_getD, List.getElem?_eq_getElem hi]
    rw [this]; exact h _ (List.getElem_mem hi)
  · have : ele l i = 0 := by simp [Rd.ele, List.getD_eq_getElem?_getD, List.getElem?_eq_none (Nat.le_of_not_lt hi)]
    omega
theorem numbers_loop (l : List Int) (hl : l.length ≤ 1000) (hr : InRL l) : ∀ (m i : Nat), i + m = l.length →
    lp (roundelayref13_numbers_L0 l) (beL (l.take i), i) = some (.go (beL l, l.length))
  | 0, i, h => by
    have hi : i = l.length := by omega
    subst hi
    rw [List.take_length]
    refine lp_brk ?_
    unfold roundelayref13_numbers_L0
    exact br_F (by unfold ln; omega)
  | m + 1, i, h => by
    have hlt : i < l.length := by omega
    have ih := numbers_loop l hl hr m (i + 1) (by omega)
    rw [take_next hlt, beL_snoc] at ih
    refine lp_step ?_ ih
    have hlen : (beL (l.take i)).length ≤ 8000 := by rw [beL_len, List.length_take]; omega
    unfold roundelayref13_numbers_L0
    simp only
    rw [br_T (by unfold ln; omega), ck_IX (by omega) (by unfold ln; omega), number_s _ (hr.at i), bd_ret, ck_SL (by rw [List.length_append, be8_len]; omega), ck_IR (by omega) (by omega)]
    rfl
theorem numbers_s (l : List Int) (hl : l.length ≤ 1000) (hr : InRL l) : roundelayref13_numbers_m l = some (beL l) := by
  have := numbers_loop l hl hr l.length 0 (by omega)
  unfold roundelayref13_numbers_m
  rw [show (0 : Int) = ((0 : Nat) : Int) from rfl, show ([] : List UInt8) = beL (l.take 0) from rfl, this]
  rfl
def Opr.InR (o : Opr) : Prop := InRL o.ns
theorem ns9 (o : Opr) : o.ns.take 9 = [o.slot, o.stage, o.op, o.dest, o.a, o.b, o.ar, o.sp, o.pl] := rfl
theorem InRL.take {l : List Int} (h : InRL l) (i : Nat) : InRL (l.take i) := fun x hx => h x (List.mem_of_mem_take hx)
structure Krn.InR (k : Krn) : Prop where
  pace : -9223372036854775808 ≤ k.pace ∧ k.pace ≤ 9223372036854775807
  stages : -9223372036854775808 ≤ k.stages ∧ k.stages ≤ 9223372036854775807
  ops : ∀ o ∈ k.ops, o.InR
  len : k.ops.length ≤ 9223372036854775807
theorem ele_all {α : Type} [Inhabited α] {p : α → Prop} {l : List α} (h : ∀ x ∈ l, p x) {i : Nat} (hi : i < l.length) : p (ele l i) := by
  have : ele l i = l[i] := by simp [Rd.ele, List.getD_eq_getElem?_getD, List.getElem?_eq_getElem hi]
  rw [this]; exact h _ (List.getElem_mem hi)
theorem bytes_loop (k : Krn) (hk : k.ops.length ≤ 16) (hr : k.InR) : ∀ (m i : Nat), i + m = k.ops.length →
    lp (roundelayref13_Bytes_L0 k) (beL (k.head ++ (k.ops.take i).flatMap Opr.ns), i) = some (.go (bytesK k, k.ops.length))
  | 0, i, h => by
    have hi : i = k.ops.length := by omega
    subst hi
    rw [List.take_length]
    refine lp_brk ?_
    unfold roundelayref13_Bytes_L0
    exact br_F (by unfold ln; omega)
  | m + 1, i, h => by
    have hlt : i < k.ops.length := by omega
    have ih := bytes_loop k hk hr m (i + 1) (by omega)
    have hlen : (beL (k.head ++ (k.ops.take i).flatMap Opr.ns)).length ≤ 5000 := by
      rw [beL_len, List.length_append, flat_len, List.length_take]; simp [Krn.head]; omega
    have ho := ele_all hr.ops hlt
    have hn := ho (ele k.ops i).n (by simp [Opr.ns])
    refine lp_step ?_ ih
    have h9 := numbers_s ((ele k.ops i).ns.take 9) (by simp [ns_len]) (InRL.take ho 9)
    rw [ns9] at h9
    unfold roundelayref13_Bytes_L0
    simp only
    rw [br_T (by unfold ln; omega), ck_IX (by omega) (by unfold ln; omega), h9, bd_ret, ck_SL (by rw [List.length_append, beL_len [_, _, _, _, _, _, _, _, _]]; simp; omega), number_s _ hn, bd_ret,
      ck_SL (by rw [List.length_append, List.length_append, beL_len [_, _, _, _, _, _, _, _, _], be8_len]; simp; omega), ck_IR (by omega) (by omega), take_next hlt]
    simp only [List.flatMap_append, List.append_assoc, beL_append]
    rfl
theorem Bytes_s (k : Krn) (hk : k.ops.length ≤ 16) (hr : k.InR) : roundelayref13_Bytes_m k = some (bytesK k) := by
  have h1 := numbers_s k.head (by simp [Krn.head]) (by
    have h1 := hr.pace; have h2 := hr.stages
    intro x hx; simp [Krn.head] at hx
    rcases hx with rfl | rfl | rfl
    · exact h1
    · exact h2
    · unfold ln; omega)
  have h2 := bytes_loop k hk hr k.ops.length 0 (by omega)
  unfold roundelayref13_Bytes_m
  unfold Krn.head at h1 h2
  rw [List.take_zero, List.flatMap_nil, List.append_nil] at h2
  rw [h1, bd_ret, show (0 : Int) = ((0 : Nat) : Int) from rfl, h2]
  rfl
end Go.Rd
