/- Bytes are read as they were written, and written as they were read; the four laws on kernels as bytes, plain. -/
import Derived.Test.YtaimbkndebaaiaaSGet
import Derived.Test.YtaimbkndebaaiaaMLawCode
import Derived.Test.YtaimbkndebaaiaaOpen
namespace Go.Rd
set_option linter.unusedVariables false
set_option linter.unusedSimpArgs false

theorem wrap_ex (x : Int) : ∃ t : Int, IntKind.i64.wrap x = x + 18446744073709551616 * t := by
  rw [wrap_def]
  split
  · exact ⟨-(x / 18446744073709551616) - 1, by omega⟩
  · exact ⟨-(x / 18446744073709551616), by omega⟩
theorem wrap_add_mul (z u : Int) : IntKind.i64.wrap (z + 18446744073709551616 * u) = IntKind.i64.wrap z := by
  rw [wrap_def, wrap_def, Int.add_mul_emod_self_left]
theorem wrap_mul (x m y : Int) : IntKind.i64.wrap (IntKind.i64.wrap x * m + y) = IntKind.i64.wrap (x * m + y) := by
  obtain ⟨t, ht⟩ := wrap_ex x
  rw [ht, show (x + 18446744073709551616 * t) * m + y = x * m + y + 18446744073709551616 * (t * m) from by rw [Int.add_mul, Int.mul_assoc]; omega, wrap_add_mul]
theorem rd_beFrom (n : Int) : ∀ (k : Nat) (a : Int), (-9223372036854775808 ≤ a ∧ a ≤ 9223372036854775807) → (beFrom n k).foldl rd1 a = IntKind.i64.wrap (a * 2 ^ (8 * k) + n % 2 ^ (8 * k))
  | 0, a, ha => by simp [beFrom, Int.emod_one]; rw [wrap_i64 ha.1 ha.2]
  | k + 1, a, ha => by
    have hb := wrap_bd (a * 256 + ((bytU n (8 * k)).toNat : Int))
    show (beFrom n k).foldl rd1 (rd1 a (bytU n (8 * k))) = _
    rw [rd_beFrom n k (rd1 a (bytU n (8 * k))) hb]
    unfold rd1
    rw [wrap_mul, bytU_nat]
    congr 1
    have e : (2 : Int) ^ (8 * (k + 1)) = 2 ^ (8 * k) * 256 := by rw [show 8 * (k + 1) = 8 * k + 8 from by omega, Int.pow_add]; rfl
    have hp : (0 : Int) < 2 ^ (8 * k) := Int.pow_pos (by decide)
    have h1 := Int.emod_add_mul_ediv n (2 ^ (8 * k))
    have h2 := Int.emod_add_mul_ediv (n / 2 ^ (8 * k)) 256
    have h3 : n % (2 ^ (8 * k) * 256) = n % 2 ^ (8 * k) + 2 ^ (8 * k) * (n / 2 ^ (8 * k) % 256) := by
      rw [Int.emod_def n (2 ^ (8 * k) * 256), ← Int.ediv_ediv_of_nonneg (Int.le_of_lt hp), Int.emod_def (n / 2 ^ (8 * k)) 256, Int.mul_sub, Int.emod_def n (2 ^ (8 * k)), Int.mul_assoc]
      omega
    rw [e, h3, Int.add_mul, Int.mul_assoc a, Int.mul_comm 256, Int.mul_comm (n / 2 ^ (8 * k) % 256)]
    omega
theorem rdv_be8 {n : Int} (hn : -9223372036854775808 ≤ n ∧ n ≤ 9223372036854775807) : rdv (be8 n) = n := by
  unfold rdv be8
  rw [rd_beFrom n 8 0 (by omega), wrap_def]
  have : (2 : Int) ^ (8 * 8) = 18446744073709551616 := by decide
  rw [this]
  split <;> omega
def valB (bs : List UInt8) : Int := bs.foldl (fun n c => n * 256 + (c.toNat : Int)) 0
theorem rdv_val (bs : List UInt8) : rdv bs = IntKind.i64.wrap (valB bs) := by
  unfold rdv valB
  have : ∀ (bs : List UInt8) (a : Int), bs.foldl rd1 (IntKind.i64.wrap a) = IntKind.i64.wrap (bs.foldl (fun n c => n * 256 + (c.toNat : Int)) a) := by
    intro bs
    induction bs with
    | nil => intro a; rfl
    | cons c bs ih =>
      intro a
      rw [List.foldl_cons, List.foldl_cons, ← ih]
      congr 1
      unfold rd1
      rw [wrap_mul]
  have h := this bs 0
  rwa [show IntKind.i64.wrap 0 = 0 from rfl] at h
theorem beFrom_snoc (n : Int) : ∀ k, beFrom n (k + 1) = beFrom (n / 256) k ++ [bytU n 0]
  | 0 => rfl
  | k + 1 => by
    rw [show beFrom n (k + 1 + 1) = bytU n (8 * (k + 1)) :: beFrom n (k + 1) from rfl, beFrom_snoc n k, ← bytU_div]
    rfl
theorem beFrom_val (bs : List UInt8) : beFrom (valB bs) bs.length = bs := by
  have key : ∀ (m : Nat) (bs : List UInt8), bs.length = m → beFrom (valB bs) m = bs := by
    intro m
    induction m with
    | zero => intro bs h; rw [List.length_eq_zero_iff.1 h]; rfl
    | succ m ih =>
      intro bs h
      obtain ⟨as, c, rfl⟩ : ∃ as c, bs = as ++ [c] := ⟨bs.dropLast, bs.getLast (by intro e; subst e; simp at h), (List.dropLast_concat_getLast _).symm⟩
      have hl : as.length = m := by simpa using h
      have hv : valB (as ++ [c]) = valB as * 256 + (c.toNat : Int) := by unfold valB; rw [List.foldl_append]; rfl
      have hc := UInt8.toNat_lt c
      rw [beFrom_snoc, hv, show (valB as * 256 + (c.toNat : Int)) / 256 = valB as from by omega, ih as hl]
      congr 2
      apply UInt8.toNat_inj.1
      have := bytU_nat' (valB as * 256 + (c.toNat : Int)) 0
      simp only [Int.pow_zero, Int.ediv_one] at this
      omega
  exact key _ bs rfl
theorem bytU_wrap (x : Int) (j : Nat) (hj : j < 8) : bytU (IntKind.i64.wrap x) (8 * j) = bytU x (8 * j) := by
  obtain ⟨t, ht⟩ := wrap_ex x
  unfold bytU
  congr 2
  have hp : (0 : Int) < 2 ^ (8 * j) := Int.pow_pos (by decide)
  have e : (18446744073709551616 : Int) = 2 ^ (8 * j) * (256 * 2 ^ (56 - 8 * j)) := by
    rw [show (256 : Int) = 2 ^ 8 from rfl, ← Int.pow_add, ← Int.pow_add, show 8 * j + (8 + (56 - 8 * j)) = 64 from by omega]; rfl
  rw [ht, e, Int.mul_assoc, Int.add_mul_ediv_left _ _ (Int.ne_of_gt hp), Int.mul_assoc, Int.add_mul_emod_self_left]
theorem beFrom_wrap (x : Int) : ∀ k, k ≤ 8 → beFrom (IntKind.i64.wrap x) k = beFrom x k
  | 0, _ => rfl
  | k + 1, h => by
    show bytU _ _ :: beFrom _ k = bytU _ _ :: beFrom _ k
    rw [bytU_wrap x k (by omega), beFrom_wrap x k (by omega)]
theorem be8_rdv {bs : List UInt8} (h : bs.length = 8) : be8 (rdv bs) = bs := by
  unfold be8
  rw [rdv_val, beFrom_wrap _ 8 (by omega), ← h]
  exact beFrom_val bs
theorem rdv_bd (bs : List UInt8) : -9223372036854775808 ≤ rdv bs ∧ rdv bs ≤ 9223372036854775807 := by rw [rdv_val]; exact wrap_bd _

/-! ### rows of numbers -/
theorem drop_beL : ∀ (ns : List Int) (j : Nat), (beL ns).drop (8 * j) = beL (ns.drop j)
  | ns, 0 => rfl
  | [], j + 1 => by simp [beL]
  | n :: ns, j + 1 => by
    have e : beL (n :: ns) = be8 n ++ beL ns := rfl
    rw [e, show 8 * (j + 1) = (be8 n).length + 8 * j from by rw [be8_len]; omega, List.drop_append, List.drop_succ_cons, ← drop_beL ns j]
    rw [List.drop_eq_nil_of_le (by omega), List.nil_append]
    congr 1; omega
theorem numAt_beL {ns : List Int} (hr : InRL ns) {j : Nat} (hj : j < ns.length) : numAt (beL ns) j = ns.getD j 0 := by
  unfold numAt
  rw [drop_beL, List.drop_eq_getElem_cons hj]
  have e : beL (ns[j] :: ns.drop (j + 1)) = be8 ns[j] ++ beL (ns.drop (j + 1)) := rfl
  rw [e, List.take_append_of_le_length (by rw [be8_len]; exact Nat.le_refl _), List.take_of_length_le (by rw [be8_len]; exact Nat.le_refl _), rdv_be8 (hr _ (List.getElem_mem hj))]
  simp [List.getD_eq_getElem?_getD, List.getElem?_eq_getElem hj]
theorem beL_numsAt (b : List UInt8) (k : Nat) : ∀ m, 8 * (k + m) ≤ b.length → beL (numsAt b k m) = (b.drop (8 * k)).take (8 * m)
  | 0, _ => by simp [numsAt, beL]
  | m + 1, h => by
    rw [numsAt_succ, beL_snoc, beL_numsAt b k m (by omega)]
    unfold numAt
    rw [be8_rdv (by simp; omega), show 8 * (m + 1) = 8 * m + 8 from by omega, List.take_add, List.drop_drop, ← Nat.mul_add]
theorem oprOf_ns {ns : List Int} (h : ns.length = 10) : (oprOf ns).ns = ns := by
  match ns, h with
  | [_, _, _, _, _, _, _, _, _, _], _ => rfl
theorem ns_oprOf (o : Opr) : oprOf o.ns = o := rfl
theorem flat_opsAt (b : List UInt8) : ∀ m, (opsAt b m).flatMap Opr.ns = numsAt b 3 (10 * m)
  | 0 => rfl
  | m + 1 => by
    rw [opsAt_succ, List.flatMap_append, flat_opsAt b m]
    show _ ++ ((opAt b m).ns ++ []) = _
    rw [List.append_nil]
    unfold opAt
    rw [oprOf_ns (numsAt_len _ _ _)]
    unfold numsAt
    rw [show 10 * (m + 1) = 10 * m + 10 from by omega, List.range_add, List.map_append, List.map_map]
    congr 1
theorem bytes_getK {b : List UInt8} (h : okBytes b) : bytesK (getK b) = b := by
  obtain ⟨h1, h2, h3, h4⟩ := h
  have hn : ((numAt b 2).toNat : Int) = numAt b 2 := by omega
  have hh : (getK b).head = numsAt b 0 3 := by
    unfold Krn.head getK
    simp only [ln, opsAt_len, hn]
    rfl
  have hf : (getK b).ops.flatMap Opr.ns = numsAt b 3 (10 * (numAt b 2).toNat) := flat_opsAt b _
  unfold bytesK
  rw [hh, hf, beL_append, beL_numsAt b 0 3 (by omega), beL_numsAt b 3 _ (by omega)]
  rw [List.drop_zero, List.take_of_length_le (l := b.drop _) (by rw [List.length_drop]; omega)]
  exact List.take_append_drop 24 b
theorem numsAt_eq {ns : List Int} {b : List UInt8} {k m : Nat} (h : ∀ j, j < m → numAt b (k + j) = ns.getD j 0) (hl : ns.length = m) : numsAt b k m = ns := by
  apply List.ext_getElem?
  intro j
  by_cases hj : j < m
  · have := h j hj
    rw [List.getD_eq_getElem?_getD, List.getElem?_eq_getElem (by omega)] at this
    simp only [Option.getD_some] at this
    rw [List.getElem?_eq_getElem (by rw [numsAt_len]; exact hj), List.getElem?_eq_getElem (by omega)]
    simp [numsAt, this]
  · rw [List.getElem?_eq_none (by rw [numsAt_len]; omega), List.getElem?_eq_none (by omega)]
theorem head_InR {k : Krn} (h : k.InR) : InRL k.head := by
  have h1 := h.pace; have h2 := h.stages; have h3 := h.len
  intro x hx; simp [Krn.head] at hx
  rcases hx with rfl | rfl | rfl
  · exact h1
  · exact h2
  · unfold ln; omega
theorem all_InR {k : Krn} (h : k.InR) : InRL (k.head ++ k.ops.flatMap Opr.ns) := fun x hx => by
  rcases List.mem_append.1 hx with hx | hx
  · exact head_InR h x hx
  · obtain ⟨o, ho, hx⟩ := List.mem_flatMap.1 hx
    exact h.ops o ho x hx
theorem flat_get : ∀ (l : List Opr) (i j : Nat), i < l.length → j < 10 → (l.flatMap Opr.ns).getD (10 * i + j) 0 = (ele l i).ns.getD j 0
  | o :: l, 0, j, _, hj => by
    rw [List.flatMap_cons, List.getD_eq_getElem?_getD, List.getElem?_append_left (by rw [ns_len]; omega)]
    simp [ele, List.getD_eq_getElem?_getD]
  | o :: l, i + 1, j, h, hj => by
    have ih := flat_get l i j (by simpa using h) hj
    rw [List.flatMap_cons, List.getD_eq_getElem?_getD, List.getElem?_append_right (by rw [ns_len]; omega), ns_len, show 10 * (i + 1) + j - 10 = 10 * i + j from by omega, ← List.getD_eq_getElem?_getD, ih]
    simp [ele, List.getD_eq_getElem?_getD]
theorem numAt_bytes {k : Krn} (h : k.InR) {j : Nat} (hj : j < 3 + 10 * k.ops.length) : numAt (bytesK k) j = (k.head ++ k.ops.flatMap Opr.ns).getD j 0 := by
  unfold bytesK
  exact numAt_beL (all_InR h) (by rw [List.length_append, flat_len]; simpa [Krn.head] using hj)
theorem ok_bytes {k : Krn} (h : k.InR) (hk : k.ops.length ≤ 16) : okBytes (bytesK k) ∧ getK (bytesK k) = k := by
  have hl := bytesK_len k
  have h2 : numAt (bytesK k) 2 = k.ops.length := by rw [numAt_bytes h (by omega)]; rfl
  have h0 : numAt (bytesK k) 0 = k.pace := by rw [numAt_bytes h (by omega)]; rfl
  have h1 : numAt (bytesK k) 1 = k.stages := by rw [numAt_bytes h (by omega)]; rfl
  refine ⟨⟨by omega, by omega, by omega, by omega⟩, ?_⟩
  unfold getK
  rw [h0, h1, h2, Int.toNat_natCast]
  have : opsAt (bytesK k) k.ops.length = k.ops := by
    apply List.ext_getElem?
    intro i
    by_cases hi : i < k.ops.length
    · rw [List.getElem?_eq_getElem (by rw [opsAt_len]; exact hi), List.getElem?_eq_getElem hi]
      simp only [opsAt, List.getElem_map, List.getElem_range, Option.some.injEq]
      have e : ele k.ops i = k.ops[i] := by simp [ele, List.getD_eq_getElem?_getD, List.getElem?_eq_getElem hi]
      have hn : numsAt (bytesK k) (3 + 10 * i) 10 = (k.ops[i]).ns := numsAt_eq (fun j hj => by
        rw [numAt_bytes h (by omega), List.getD_eq_getElem?_getD, List.getElem?_append_right (by simp [Krn.head]; omega), ← List.getD_eq_getElem?_getD, ← e, ← flat_get k.ops i j hi hj]
        congr 1; simp [Krn.head]; omega) (ns_len _)
      unfold opAt
      rw [hn]; rfl
    · rw [List.getElem?_eq_none (by rw [opsAt_len]; omega), List.getElem?_eq_none (by omega)]
  rw [this]
theorem getK_InR (b : List UInt8) (h : okBytes b) : (getK b).InR ∧ (getK b).ops.length ≤ 16 := by
  have hl : (getK b).ops.length = (numAt b 2).toNat := opsAt_len b _
  refine ⟨⟨rdv_bd _, rdv_bd _, fun o ho => ?_, by have := h.2.2.1; omega⟩, by have := h.2.2.1; omega⟩
  obtain ⟨i, _, rfl⟩ := List.mem_map.1 ho
  intro x hx
  unfold opAt at hx
  rw [oprOf_ns (numsAt_len _ _ _)] at hx
  obtain ⟨j, _, rfl⟩ := List.mem_map.1 hx
  exact rdv_bd _
theorem same_loop (k : Krn) (hk : k.ops.length ≤ 9223372036854775807) : ∀ (m i : Nat), i + m = k.ops.length → lp (roundelayref13_Same_L0 k k) i = some (.go (k.ops.length : Int))
  | 0, i, h => by
    have hi : i = k.ops.length := by omega
    subst hi
    refine lp_brk ?_
    unfold roundelayref13_Same_L0
    exact br_F (by unfold ln; omega)
  | m + 1, i, h => by
    refine lp_step ?_ (same_loop k hk m (i + 1) (by omega))
    unfold roundelayref13_Same_L0
    rw [br_T (by unfold ln; omega), ck_IX (by omega) (by unfold ln; omega), ck_IX (by omega) (by unfold ln; omega), ck_IR (by omega) (by omega)]
    simp
theorem same_refl (k : Krn) (hk : k.ops.length ≤ 9223372036854775807) : roundelayref13_Same_m k k = some true := by
  have := same_loop k hk k.ops.length 0 (by omega)
  unfold roundelayref13_Same_m
  rw [show (0 : Int) = ((0 : Nat) : Int) from rfl, this]
  simp

/-! ### the laws -/
theorem krn_InR {w : World} {v : Value} {k : Krn} (h : KrnRep w v k) : k.InR := ⟨h.pace, h.stages, h.rops, by have := h.len; unfold maxLen at this; omega⟩
theorem CodePuts_true (k : Krn) {w : World} {v : Value} (h' : KrnRep w v k) : roundelaylaw_CodePuts_m k = some true := by
  have h := krn_InR h'
  unfold roundelaylaw_CodePuts_m
  rw [code_Put_s]
  by_cases hk : 16 < k.ops.length
  · rw [if_pos hk, bd_ret, br_T (by unfold ln; omega)]; rfl
  · rw [if_neg hk, bd_ret, br_F (by unfold ln; omega), Bytes_s k (by omega) h, bd_ret]; simp
theorem CodeGets_true (b : List UInt8) (_ : b.length ≤ maxLen) : roundelaylaw_CodeGets_m b = some true := by
  unfold roundelaylaw_CodeGets_m
  by_cases h : okBytes b
  · have hl := (getK_InR b h).1.len
    rw [(code_Get_s b).1 h, (ref_Get_s b).1 h, bd_ret, bd_ret]
    simp [same_refl _ hl]
  · rw [(code_Get_s b).2 h, (ref_Get_s b).2 h, bd_ret, bd_ret]
    simp [same_refl ⟨0, 0, []⟩ (by simp)]
theorem CodeThere_true (b : List UInt8) (_ : b.length ≤ maxLen) : roundelaykeep_CodeThere_m b = some true := by
  unfold roundelaykeep_CodeThere_m
  rw [code_Put_s, if_neg (by simp), bd_ret]
  have hl : ln (bytesK ⟨0, 0, []⟩) = 24 := by unfold ln; rw [bytesK_len]; rfl
  rw [hl]
  by_cases h : okBytes b
  · have hg := getK_InR b h
    rw [(code_Get_s b).1 h, bd_ret, code_Put_s, if_neg (by have := hg.2; simp only; omega), bytes_getK h]
    simp
  · rw [(code_Get_s b).2 h, bd_ret]
    simp [same_refl ⟨0, 0, []⟩ (by simp)]
theorem CodeBack_true (k : Krn) (cut : Int) {w : World} {v : Value} (h' : KrnRep w v k) (hc : 0 ≤ cut ∧ cut ≤ 65535) : roundelaykeep_CodeBack_m k cut = some true := by
  have h := krn_InR h'
  unfold roundelaykeep_CodeBack_m
  rw [code_Put_s]
  by_cases hk : 16 < k.ops.length
  · rw [if_pos hk, bd_ret]; simp [ln]; omega
  · obtain ⟨hok, hget⟩ := ok_bytes h (by omega)
    have hl := bytesK_len k
    have hlen : (0 : Int) < ln (bytesK k) := by unfold ln; omega
    rw [if_neg hk, bd_ret, wrap_i64 (by omega) (by omega)]
    simp only [bne_self_eq_false, br_false]
    rw [(code_Get_s _).1 hok, bd_ret, hget, code_Put_s, if_neg hk, bd_ret]
    have hs := same_refl k h.len
    by_cases hcut : cut < ln (bytesK k)
    · have hnot : ¬ okBytes (sub (bytesK k) 0 cut) := by
        rintro ⟨g1, g2, g3, g4⟩
        have e : sub (bytesK k) 0 cut = (bytesK k).take cut.toNat := by simp [sub]
        have hlen2 : ((bytesK k).take cut.toNat).length = cut.toNat := by rw [List.length_take]; unfold ln at hcut; omega
        rw [e] at g1 g4 g2 g3
        rw [hlen2] at g1 g4
        have e2 : numAt ((bytesK k).take cut.toNat) 2 = numAt (bytesK k) 2 := by
          unfold numAt
          rw [List.drop_take, List.take_take, Nat.min_eq_left (by omega)]
        rw [e2] at g4
        have := hok.2.2.2
        unfold ln at hcut
        omega
      rw [br_T hcut, ck_SX (by omega) (by omega) (by omega), (code_Get_s _).2 hnot, bd_ret]
      simp [hlen, hs]
    · rw [br_F hcut]
      simp [hlen, hs]
end Go.Rd
