/- What is known for good; calls that are handed memory, and hand it back. -/
import Derived.Test.YtaimbkndebaaiaaVec
namespace Go.Rd
open Go.RowKit
set_option linter.unusedVariables false
set_option linter.unusedSimpArgs false

/-- All that the one knows holds in the other. -/
def Le (k w : World) : Prop := ∀ a v, k.cell? a = some v → w.cell? a = some v
theorem Le.refl (w : World) : Le w w := fun _ _ h => h
theorem Le.trans {a b c : World} (h : Le a b) (k : Le b c) : Le a c := fun x v hx => k x v (h x v hx)
theorem Grow.le {w w' : World} (h : Grow w w') : Le w w' := fun a u hu => by rw [h.cell (World.block_lt_of_cell? w a hu)]; exact hu
theorem Arr.le {w w' : World} {v : Value} {sz : Nat} {rows : List (List Value)} (h : Arr w v sz rows) (k : Le w w') : Arr w' v sz rows := h.mono k

/-- Memory that is known for good: k knows what k0 knew, and of blocks from B on, or in M, what the world holds. -/
def kn (M : Nat → Prop) (B : Nat) (k0 k : World) : Res where
  foot := fun b => (M b ∨ B ≤ b) ∧ ∃ (a : Addr) (v : Value), a.block = b ∧ k.cell? a = some v
  holds := fun w => Le k0 k ∧ (∀ (a : Addr) (v : Value), ¬ (M a.block ∨ B ≤ a.block) → k.cell? a = some v → k0.cell? a = some v) ∧ ∀ (a : Addr) (v : Value), (M a.block ∨ B ≤ a.block) → k.cell? a = some v → w.cell? a = some v
  stable := fun w w' ⟨h1, h2, h3⟩ hk => ⟨h1, h2, fun a v ha hv => by
    rw [World.cell?_of_block (w := w) (w' := w') (hk a.block ⟨ha, a, v, rfl, hv⟩)]
    exact h3 a v ha hv⟩

/-- k0 knows of what was there, and nothing of what is handed over. -/
def Base (M : Nat → Prop) (k w : World) : Prop := ∀ a v, k.cell? a = some v → w.cell? a = some v ∧ ¬ M a.block

section
variable {M : Nat → Prop} {w0 k0 k w : World} {H : List Res}

theorem Own.le (j : Nat) (hj : H[j]? = some (kn M w0.heap.size k0 k)) (hb : Base M k0 w0) (h : Own M w0 H w) : Le k w := fun a v hv => by
  obtain ⟨h1, h2, h3⟩ := h.at j hj
  by_cases hm : M a.block ∨ w0.heap.size ≤ a.block
  · exact h3 a v hm hv
  · obtain ⟨hc, hM⟩ := hb a v (h2 a v hm hv)
    rw [World.cell?_of_block (w := w0) (w' := w) (h.1.block a.block (by omega) hM)]
    exact hc

theorem AllOwn.sub {B : Nat → Prop} : ∀ {H' H : List Res}, List.Sublist H' H → AllOwn B w H → AllOwn B w H'
  | _, _, .slnil, h => h
  | _, _, .cons _ s, ⟨_, h⟩ => AllOwn.sub s h
  | _, _, .cons_cons _ s, ⟨⟨h1, h2, h3⟩, h4⟩ => ⟨⟨h1, h2, fun t ht => h3 t (s.subset ht)⟩, AllOwn.sub s h4⟩
theorem Own.sub {H' : List Res} (s : List.Sublist H' H) (h : Own M w0 H w) : Own M w0 H' w := ⟨h.1, h.2.sub s⟩

theorem AllOwn.perm {B : Nat → Prop} {H H' : List Res} (p : List.Perm H H') : AllOwn B w H → AllOwn B w H' := by
  induction p with
  | nil => exact id
  | cons r p ih => rintro ⟨⟨h1, h2, h3⟩, h4⟩; exact ⟨⟨h1, h2, fun s hs => h3 s (p.mem_iff.2 hs)⟩, ih h4⟩
  | swap r s l =>
    rintro ⟨⟨h1, h2, h3⟩, ⟨h4, h5, h6⟩, h7⟩
    refine ⟨⟨h4, h5, fun t ht => ?_⟩, ⟨h1, h2, fun t ht => h3 t (by simp [ht])⟩, h7⟩
    rcases List.mem_cons.1 ht with rfl | ht
    · exact fun b hb hb' => h3 _ (by simp) b hb' hb
    · exact h6 t ht
  | trans _ _ a b => exact fun h => b (a h)
theorem Own.perm {H' : List Res} (p : List.Perm H H') (h : Own M w0 H w) : Own M w0 H' w := ⟨h.1, h.2.perm p⟩

theorem perm_front : ∀ {H : List Res} {j : Nat} {r : Res}, H[j]? = some r → List.Perm H (r :: H.eraseIdx j)
  | s :: H, 0, r, h => by simp at h; subst h; exact List.Perm.refl _
  | s :: H, j + 1, r, h => by
    have := perm_front (H := H) (j := j) (by simpa using h)
    exact (this.cons s).trans (List.Perm.swap ..)

/-- Resource number j comes to the front. -/
theorem Own.front (j : Nat) {r : Res} (hj : H[j]? = some r) (h : Own M w0 H w) : Own M w0 (r :: H.eraseIdx j) w := by
  exact h.perm (perm_front hj)

/-- A start with what is known, and what is handed over. -/
theorem Own.startK {R : List Res} (hb : Base M k w0) (h : Own M w0 R w0) : Own M w0 (kn M w0.heap.size k k :: R) w0 := by
  have none : ∀ b, ¬ (kn M w0.heap.size k k).foot b := by
    rintro b ⟨hm, a, v, rfl, hv⟩
    obtain ⟨h1, h2⟩ := hb a v hv
    rcases hm with hm | hm
    · exact h2 hm
    · have := World.block_lt_of_cell? w0 a h1; omega
  refine ⟨h.1, ⟨⟨Le.refl _, fun _ _ _ h => h, fun a v _ hv => (hb a v hv).1⟩, fun b hb' => absurd hb' (none b), fun s hs b hb' => absurd hb' (none b)⟩, h.2⟩

open Classical in
/-- What is known, and a resource's blocks beside. -/
noncomputable def joinW (F : Nat → Prop) (k w : World) : World :=
  { w with heap := (Array.range (max k.heap.size w.heap.size)).map fun b => if F b then (w.heap[b]?).getD (.cells #[] 0 (0, 0)) else (k.heap[b]?).getD (.cells #[] 0 (0, 0)) }

theorem joinW_yes {F : Nat → Prop} {b : Nat} (hb : F b) (hlt : b < w.heap.size) : (joinW F k w).heap[b]? = w.heap[b]? := by
  have h1 : b < max k.heap.size w.heap.size := by omega
  simp [joinW, Array.getElem?_range, h1, hb, Array.getElem?_eq_getElem hlt]
theorem joinW_no {F : Nat → Prop} {a : Addr} (hb : ¬ F a.block) : (joinW F k w).cell? a = k.cell? a := by
  by_cases hlt : a.block < k.heap.size
  · have h1 : a.block < max k.heap.size w.heap.size := by omega
    refine World.cell?_of_block (w := k) ?_
    simp [joinW, Array.getElem?_range, h1, hb, Array.getElem?_eq_getElem hlt]
  · have hk : k.cell? a = none := by
      simp [World.cell?, Array.getElem?_eq_none (Nat.le_of_not_lt hlt)]
    rw [hk]
    by_cases h1 : a.block < max k.heap.size w.heap.size
    · simp [joinW, World.cell?, Array.getElem?_range, h1, hb, Array.getElem?_eq_none (Nat.le_of_not_lt hlt)]
    · simp [joinW, World.cell?, Array.getElem?_range, h1]

/-- Resource number j is known from now on. -/
theorem Own.freeze {R : List Res} {r : Res} (h : Own M w0 (kn M w0.heap.size k0 k :: r :: R) w) (hb : Base M k0 w0) : ∃ k', Le k k' ∧ r.holds k' ∧ Own M w0 (kn M w0.heap.size k0 k' :: R) w := by
  obtain ⟨hf, ⟨⟨h1, h2, h3⟩, hkf, hkd⟩, ⟨hr, hrf, hrd⟩, hR⟩ := h
  have hdis : ∀ b, r.foot b → ¬ (kn M w0.heap.size k0 k).foot b := fun b hb hk => hkd r (by simp) b hk hb
  have hyes : ∀ b, r.foot b → (joinW r.foot k w).heap[b]? = w.heap[b]? := fun b hb => joinW_yes hb (hrf b hb).2
  have hle : Le k (joinW r.foot k w) := fun a v hv => by
    by_cases hF : r.foot a.block
    · exact absurd ⟨(hrf a.block hF).1, a, v, rfl, hv⟩ (hdis a.block hF)
    · rw [joinW_no hF]; exact hv
  refine ⟨joinW r.foot k w, hle, r.stable w _ hr hyes, hf, ⟨⟨h1.trans hle, fun a v hn hv => ?_, fun a v hm hv => ?_⟩, fun b hb => ?_, fun s hs b hb => ?_⟩, hR⟩
  · by_cases hF : r.foot a.block
    · exact absurd (hrf a.block hF).1 hn
    · rw [joinW_no hF] at hv; exact h2 a v hn hv
  · by_cases hF : r.foot a.block
    · rw [World.cell?_of_block (w := w) (hyes a.block hF)] at hv; exact hv
    · rw [joinW_no hF] at hv; exact h3 a v hm hv
  · obtain ⟨hm, a, v, rfl, hv⟩ := hb
    by_cases hF : r.foot a.block
    · exact ⟨(hrf _ hF).1, (hrf _ hF).2⟩
    · rw [joinW_no hF] at hv; exact hkf a.block ⟨hm, a, v, rfl, hv⟩
  · obtain ⟨hm, a, v, rfl, hv⟩ := hb
    by_cases hF : r.foot a.block
    · exact hrd s hs _ hF
    · rw [joinW_no hF] at hv
      exact hkd s (List.mem_cons_of_mem _ hs) a.block ⟨hm, a, v, rfl, hv⟩

theorem AllOwn.append {B : Nat → Prop} {w : World} : ∀ {A C : List Res}, AllOwn B w (A ++ C) ↔ (AllOwn B w A ∧ AllOwn B w C ∧ ∀ r ∈ A, ∀ s ∈ C, ∀ b, r.foot b → ¬ s.foot b)
  | [], C => by simp [AllOwn]
  | r :: A, C => by
    simp only [List.cons_append, AllOwn, AllOwn.append (A := A) (C := C), List.mem_append, List.mem_cons]
    constructor
    · rintro ⟨⟨h1, h2, h3⟩, h4, h5, h6⟩
      exact ⟨⟨⟨h1, h2, fun s hs => h3 s (.inl hs)⟩, h4⟩, h5, fun q hq s hs => by
        rcases hq with rfl | hq
        · exact h3 s (.inr hs)
        · exact h6 q hq s hs⟩
    · rintro ⟨⟨⟨h1, h2, h3⟩, h4⟩, h5, h6⟩
      exact ⟨⟨h1, h2, fun s hs => hs.elim (h3 s) (h6 r (.inl rfl) s)⟩, h4, h5, fun q hq => h6 q (.inr hq)⟩

theorem AllOwn.mine {B B' : Nat → Prop} {w : World} : ∀ {R : List Res}, AllOwn B w R → (∀ r ∈ R, ∀ b, r.foot b → B' b) → AllOwn B' w R
  | [], _, _ => trivial
  | r :: R, ⟨⟨h1, h2, h3⟩, h4⟩, h => ⟨⟨h1, fun b hb => ⟨h r (by simp) b hb, (h2 b hb).2⟩, h3⟩, h4.mine fun s hs => h s (List.mem_cons_of_mem _ hs)⟩

/-- The blocks of what is handed over. -/
def feet (R : List Res) : Nat → Prop := fun b => ∃ r ∈ R, r.foot b

theorem Own.lend {R H2 : List Res} (h : Own M w0 (kn M w0.heap.size k0 k :: (R ++ H2)) w) (hb : Base M k0 w0) : Base (feet R) k w ∧ Own (feet R) w R w := by
  have hle := Own.le 0 rfl hb h
  obtain ⟨hf, ⟨⟨h1, h2, h3⟩, hkf, hkd⟩, hR⟩ := h
  obtain ⟨hA, hC, hx⟩ := AllOwn.append.1 hR
  refine ⟨fun a v hv => ⟨hle a v hv, ?_⟩, Frame.refl _, hA.mine fun r hr b hb => .inl ⟨r, hr, hb⟩⟩
  rintro ⟨r, hr, hrb⟩
  exact hkd r (by simp [hr]) a.block ⟨(hA.lt r hr _ hrb).1, a, v, rfl, hv⟩ hrb

theorem Own.back {R R' H2 : List Res} {k' w' : World} (h : Own M w0 (kn M w0.heap.size k0 k :: (R ++ H2)) w) (hb : Base M k0 w0) (h' : Own (feet R) w (kn (feet R) w.heap.size k k' :: R') w') :
    Own M w0 (kn M w0.heap.size k0 k' :: (R' ++ H2)) w' ∧ Le k k' := by
  have hle := Own.le 0 rfl hb h
  obtain ⟨hf, ⟨⟨h1, h2, h3⟩, hkf, hkd⟩, hR⟩ := h
  obtain ⟨hA, hC, hx⟩ := AllOwn.append.1 hR
  obtain ⟨hf', ⟨⟨g1, g2, g3⟩, gkf, gkd⟩, hR'⟩ := h'
  have hmine : ∀ b, feet R b → Mine M w0 b := fun b ⟨r, hr, hrb⟩ => (hA.lt r hr b hrb).1
  have hmine' : ∀ b, Mine (feet R) w b → Mine M w0 b := fun b hm => hm.elim (hmine b) fun h => .inr (Nat.le_trans hf.size h)
  have hsame : ∀ b, b < w.heap.size → ¬ feet R b → w'.heap[b]? = w.heap[b]? := hf'.block
  have hapart : ∀ s ∈ H2, ∀ b, s.foot b → b < w.heap.size ∧ ¬ feet R b := fun s hs b hsb => ⟨(hC.lt s hs b hsb).2, fun ⟨r, hr, hrb⟩ => hx r hr s hs b hrb hsb⟩
  refine ⟨⟨hf.trans ⟨hf'.os, hf'.tape, hf'.output, hf'.size, fun b hb hm => hsame b hb fun hF => hm (hmine b hF)⟩, ⟨⟨h1.trans g1, fun a v hn hv => ?_, fun a v hm hv => ?_⟩, fun b hb => ?_, fun s hs b hb => ?_⟩, AllOwn.append.2 ⟨hR'.mine fun r hr b hrb => hmine' b (hR'.lt r hr b hrb).1, ?_, fun r hr s hs b hrb hsb => ?_⟩⟩, g1⟩
  · have hn' : ¬ (feet R a.block ∨ w.heap.size ≤ a.block) := fun h => hn (hmine' a.block h)
    exact h2 a v hn (g2 a v hn' hv)
  · by_cases hq : feet R a.block ∨ w.heap.size ≤ a.block
    · exact g3 a v hq hv
    · have := hle a v (g2 a v hq hv)
      rw [World.cell?_of_block (w := w) (hsame a.block (by omega) fun hF => hq (.inl hF))]
      exact this
  · obtain ⟨hm, a, v, rfl, hv⟩ := hb
    refine ⟨hm, ?_⟩
    by_cases hq : feet R a.block ∨ w.heap.size ≤ a.block
    · exact (gkf a.block ⟨hq, a, v, rfl, hv⟩).2
    · have := hf'.size; omega
  · obtain ⟨hm, a, v, rfl, hv⟩ := hb
    by_cases hq : feet R a.block ∨ w.heap.size ≤ a.block
    · rcases List.mem_append.1 hs with hs | hs
      · exact gkd s hs a.block ⟨hq, a, v, rfl, hv⟩
      · intro hsb
        obtain ⟨x1, x2⟩ := hapart s hs a.block hsb
        rcases hq with hq | hq
        · exact x2 hq
        · omega
    · rcases List.mem_append.1 hs with hs | hs
      · intro hsb
        exact hq (hR'.lt s hs a.block hsb).1
      · exact hkd s (by simp [hs]) a.block ⟨hm, a, v, rfl, g2 a v hq hv⟩
  · exact hC.change hf'.size fun s hs b hsb => hsame b (hapart s hs b hsb).1 (hapart s hs b hsb).2
  · obtain ⟨x1, x2⟩ := hapart s hs b hsb
    rcases (hR'.lt r hr b hrb).1 with hq | hq
    · exact x2 hq
    · omega
end

section
variable {P : Program} {n : Nat} {σ : Env} {M : Nat → Prop} {w0 k0 k : World} {H : List Res} {d : Option Tmp} {T U E : TypeId} {pos : String} {after : Array Edge} {gd : Option (Nat × Bool)} {x y : Operand} {g g' : Bool} {v yv : Value}
  {K : Act → World → Prop} {Q : Exit → Act → World → Prop}

theorem WK.conseq {C C' : World → Prop} (h : ∀ w, C w → C' w) (kk : WK n K σ C') : WK n K σ C := fun a w ha hw => kk a w ha (h w hw)
theorem WK.front (j : Nat) {r : Res} (hj : H[j]? = some r) (kk : WK n K σ (Own M w0 (r :: H.eraseIdx j))) : WK n K σ (Own M w0 H) := WK.conseq (fun w hw => hw.front j hj) kk
theorem WK.freeze {r : Res} (hb : Base M k0 w0) (kk : ∀ k', Le k k' → r.holds k' → WK n K σ (Own M w0 (kn M w0.heap.size k0 k' :: H))) : WK n K σ (Own M w0 (kn M w0.heap.size k0 k :: r :: H)) := fun a w ha hw => by
  obtain ⟨k', h1, h2, h3⟩ := hw.freeze hb
  exact kk k' h1 h2 a w ha h3

/-- A call that is handed R, and hands back what X says. -/
theorem EV.callR {X : Type} {R H2 : List Res} {f : FuncId} {xs : List Operand} {vs : List Value} {ats : Array TypeId} (G : X → Value) (R' : X → List Res) (kx : X → World) (F : X → Prop) (hb : Base M k0 w0) (hn : ∀ dd, d = some dd → dd < n) (hf : Enters P f) (hv : EvAll σ xs vs)
    (hc : ∀ M' w, Base M' k w → Own M' w R w → Calls P f vs.toArray w (fun e w' => ∃ X, e = .returned (G X) ∧ Own M' w (kn M' w.heap.size k (kx X) :: R' X) w' ∧ F X))
    (kk : ∀ X, F X → Le k (kx X) → WK n K ((match d with | some dd => [(dd, (true, G X))] | none => []) ++ σ) (Own M w0 (kn M w0.heap.size k0 (kx X) :: (R' X ++ H2)))) :
    EV P n ⟨d, .call ⟨.value (.func f), xs.toArray, ats⟩, T, pos, after, gd⟩ σ (Own M w0 (kn M w0.heap.size k0 k :: (R ++ H2))) K Q := fun a w ha hw => by
  refine .inl ?_
  have hm := hv.map ha
  have hrun : (execOp a.eval ⟨d, .call ⟨.value (.func f), xs.toArray, ats⟩, T, pos, after, gd⟩).run P w = .ok (.enter f vs.toArray) w := by
    simp [execOp, resolve, Deferred.ofValue, Act.eval, invoke, run_callFunc hf, hm]
  unfold Oper.wp
  rw [hrun]
  obtain ⟨l1, l2⟩ := hw.lend hb
  refine (hc _ w l1 l2).mono ?_
  rintro e w'' ⟨u, rfl, hown, hF⟩
  obtain ⟨b1, b2⟩ := hw.back hb hown
  refine kk u hF b2 _ _ ?_ b1
  cases d with
  | none => exact ha
  | some dd => exact ha.put (hn dd rfl) true _

/-- .. of a function that is a value, with what it has caught. -/
theorem EV.callRV {X : Type} {R H2 : List Res} {f : FuncId} {xs : List Operand} {vs cs : List Value} {ats : Array TypeId} (G : X → Value) (R' : X → List Res) (kx : X → World) (F : X → Prop) (hb : Base M k0 w0) (hn : ∀ dd, d = some dd → dd < n) (hf : Enters P f) (hx : σ.ev x = some (g, .func (.func f) #[] cs.toArray)) (hg : g = true) (hv : EvAll σ xs vs)
    (hc : ∀ M' w, Base M' k w → Own M' w R w → Calls P f (vs ++ cs).toArray w (fun e w' => ∃ X, e = .returned (G X) ∧ Own M' w (kn M' w.heap.size k (kx X) :: R' X) w' ∧ F X))
    (kk : ∀ X, F X → Le k (kx X) → WK n K ((match d with | some dd => [(dd, (true, G X))] | none => []) ++ σ) (Own M w0 (kn M w0.heap.size k0 (kx X) :: (R' X ++ H2)))) :
    EV P n ⟨d, .call ⟨.value x, xs.toArray, ats⟩, T, pos, after, gd⟩ σ (Own M w0 (kn M w0.heap.size k0 k :: (R ++ H2))) K Q := fun a w ha hw => by
  refine .inl ?_
  have hm := hv.map ha
  have hrun : (execOp a.eval ⟨d, .call ⟨.value x, xs.toArray, ats⟩, T, pos, after, gd⟩).run P w = .ok (.enter f (vs ++ cs).toArray) w := by
    simp [execOp, resolve, Deferred.ofValue, ha.ev hx hg, invoke, run_callFunc hf, hm]
  unfold Oper.wp
  rw [hrun]
  obtain ⟨l1, l2⟩ := hw.lend hb
  refine (hc _ w l1 l2).mono ?_
  rintro e w'' ⟨u, rfl, hown, hF⟩
  obtain ⟨b1, b2⟩ := hw.back hb hown
  refine kk u hF b2 _ _ ?_ b1
  cases d with
  | none => exact ha
  | some dd => exact ha.put (hn dd rfl) true _

theorem QV.makeFunc {C : World → Prop} {f : FuncId} {xs : List Operand} {vs : List Value} (hv : EvAll σ xs vs) : QV P ⟨d, .makeFunc (.func f) #[] xs.toArray, T, pos, after, gd⟩ σ C (.func (.func f) #[] vs.toArray) := .of_run fun n a ha w hw => by
  have hm := hv.map ha
  simp [execOp, Instr.makeFunc, hm]

/-- One may forget what has come to be known. -/
theorem Own.forget {M : Nat → Prop} {w0 k0 k k' w : World} {H : List Res} (hl : Le k k') (h0 : Le k0 k) (h : Own M w0 (kn M w0.heap.size k0 k' :: H) w) : Own M w0 (kn M w0.heap.size k0 k :: H) w := by
  obtain ⟨hf, ⟨⟨h1, h2, h3⟩, hb, hd⟩, hr⟩ := h
  have hsub : ∀ b, (kn M w0.heap.size k0 k).foot b → (kn M w0.heap.size k0 k').foot b := fun b ⟨hm, a, v, he, hv⟩ => ⟨hm, a, v, he, hl a v hv⟩
  exact ⟨hf, ⟨⟨h0, fun a v hn hv => h2 a v hn (hl a v hv), fun a v hm hv => h3 a v hm (hl a v hv)⟩, fun b hb' => hb b (hsub b hb'), fun s hs b hb' => hd s hs b (hsub b hb')⟩, hr⟩

/-! ### Resources put into another order, some left out -/
def pickL (js : List Nat) (H : List Res) : List Res := js.filterMap (H[·]?)

theorem AllOwn.apart {B : Nat → Prop} {w : World} : ∀ {H : List Res} {i j : Nat} {r s : Res}, AllOwn B w H → H[i]? = some r → H[j]? = some s → i ≠ j → ∀ b, r.foot b → ¬ s.foot b
  | [], _, _, _, _, _, h, _, _ => by simp at h
  | q :: H, 0, 0, _, _, _, _, _, h => absurd rfl h
  | q :: H, 0, j + 1, r, s, ⟨⟨_, _, h3⟩, _⟩, hi, hj, _ => by
    simp at hi; subst hi
    exact h3 s (List.mem_of_getElem? (by simpa using hj))
  | q :: H, i + 1, 0, r, s, ⟨⟨_, _, h3⟩, _⟩, hi, hj, _ => by
    simp at hj; subst hj
    exact fun b hr hs => h3 r (List.mem_of_getElem? (by simpa using hi)) b hs hr
  | q :: H, i + 1, j + 1, r, s, ⟨_, h4⟩, hi, hj, hne => h4.apart (by simpa using hi) (by simpa using hj) (by omega)

theorem AllOwn.all {B : Nat → Prop} {w : World} : ∀ {H : List Res} {r : Res}, AllOwn B w H → r ∈ H → r.holds w ∧ ∀ b, r.foot b → B b ∧ b < w.heap.size
  | q :: H, r, ⟨⟨h1, h2, _⟩, h4⟩, hr => by
    rcases List.mem_cons.1 hr with rfl | hr
    · exact ⟨h1, h2⟩
    · exact h4.all hr

theorem AllOwn.pick {B : Nat → Prop} {w : World} {H : List Res} (h : AllOwn B w H) : ∀ (js : List Nat), js.Nodup → AllOwn B w (pickL js H)
  | [], _ => trivial
  | j :: js, hn => by
    have hrest := h.pick js (List.nodup_cons.1 hn).2
    unfold pickL at *
    rw [List.filterMap_cons]
    split
    · exact hrest
    · rename_i r hr
      refine ⟨⟨(h.all (List.mem_of_getElem? hr)).1, (h.all (List.mem_of_getElem? hr)).2, fun s hs => ?_⟩, hrest⟩
      obtain ⟨i, hi, his⟩ := List.mem_filterMap.1 hs
      exact h.apart hr his (fun he => (List.nodup_cons.1 hn).1 (he ▸ hi))
theorem Own.pick (js : List Nat) (hn : js.Nodup) {w : World} (h : Own M w0 H w) : Own M w0 (pickL js H) w := ⟨h.1, h.2.pick js hn⟩
theorem WK.pick (js : List Nat) (hn : js.Nodup) (kk : WK n K σ (Own M w0 (pickL js H))) : WK n K σ (Own M w0 H) := WK.conseq (fun w hw => hw.pick js hn) kk

/-! ### Rows by their data -/
theorem Own.blkArr (j : Nat) {b sz : Nat} {cells : List Value} {rows : List (List Value)} (hj : H[j]? = some (blk b cells E)) (hf : rows.flatten = cells) (hs : ∀ r ∈ rows, r.length = sz) :
    ∀ w, Own M w0 H w → Arr w (blkSlice b rows.length rows.length) sz rows := fun w hw =>
  ⟨⟨_, _, rfl, fun _ => rfl, Nat.le_refl _⟩, fun i r p hr hp => by
    obtain ⟨a, n, c', he, h0, h1, rfl⟩ := hp
    simp only [blkSlice, Value.slice.injEq, Option.some.injEq] at he
    obtain ⟨rfl, rfl, rfl⟩ := he
    rw [Int.toNat_natCast]
    exact (Own.cellsBlk j hj w hw).sub (i * sz) r.length (by rw [← hf]; exact drop_flatten hs hr)⟩
theorem Own.vecArr (j : Nat) {sz : Nat} {rows : List (List Value)} (hj : H[j]? = some (vec v E sz rows)) : ∀ w, Own M w0 H w → Arr w v sz rows := fun w hw => vec_arr (hw.at j hj)

theorem Own.vecCells {α : Type} {enc : α → List Value} {xs : List α} {sz : Nat} {i : Int} {p : Addr} (j : Nat) (dft : α) (hj : H[j]? = some (vec v E sz (xs.map enc))) (hp : ElemP v i sz p) (h1 : i < xs.length) :
    ∀ w, Own M w0 H w → CellsAt w p (enc (xs.getD i.toNat dft)) 0 := fun w hw => by
  have h : Arr w v sz (xs.map enc) := vec_arr (hw.at j hj)
  have h0 : 0 ≤ i := by obtain ⟨_, _, _, _, h0, _⟩ := hp; exact h0
  refine h.row i.toNat _ p ?_ (by rwa [Int.toNat_of_nonneg h0])
  have hlt : i.toNat < xs.length := by omega
  simp [List.getD_eq_getElem?_getD, List.getElem?_eq_getElem hlt]

/-- append, by the data: xs, then ys, are zs. -/
theorem EV.appendL {α : Type} {enc : α → List Value} {xs ys : List α} (zs : List α) (k : Nat) {dd sz bytes : Nat} (hn : dd < n) (hV : VecT P U E sz bytes) (hk : H[k]? = some (vec v E sz (xs.map enc))) (hx : σ.ev x = some (g, v)) (hg : g = true) (hy : σ.ev y = some (g', yv)) (hg' : g' = true)
    (hnew : ∀ w, Own M w0 H w → Arr w yv sz (ys.map enc)) (hlen : ∀ u, (enc u).length = sz) (hone : ∀ u ∈ ys, ∀ c ∈ enc u, c.oneCell' = true) (hz : zs = xs ++ ys) (h63 : zs.length ≤ maxLen) (hby : zs.length * bytes ≤ 140737488355328)
    (kk : ∀ u, SliceLen u zs.length → WK n K ((dd, (true, u)) :: σ) (Own M w0 (H.set k (vec u E sz (zs.map enc))))) : EV P n ⟨some dd, .call ⟨.builtin .append, #[x, y], #[U, U]⟩, T, pos, after, gd⟩ σ (Own M w0 H) K Q := by
  subst hz
  rw [List.length_append] at h63 hby
  refine EV.append k hn hV hk hx hg hy hg' hnew ?_ ?_ (by simpa using h63) (by simpa using hby) fun u a w ha hw => ?_
  · intro r hr
    obtain ⟨u, _, rfl⟩ := List.mem_map.1 hr
    exact hlen u
  · intro r hr
    obtain ⟨u, hu, rfl⟩ := List.mem_map.1 hr
    exact hone u hu
  · have hlt : k < H.length := (List.getElem?_eq_some_iff.1 hk).1
    have hl := (vec_arr (v := u) (E := E) (sz := sz) (rows := xs.map enc ++ ys.map enc) (hw.at k (by simp [hlt]))).len
    rw [← List.map_append] at hl hw
    rw [List.length_map] at hl
    exact kk u hl a w ha hw

/-- A nil slice is one of the call's own that grows. -/
theorem vec_nil {w : World} {sz : Nat} {α : Type} {enc : α → List Value} : (vec (.slice none 0 0) E sz (([] : List α).map enc)).holds w := ⟨⟨by simp, .inl ⟨rfl, rfl⟩⟩, by simp⟩
theorem Own.vecNil {w : World} (h : Own M w0 H w) {E : TypeId} {sz : Nat} {α : Type} {enc : α → List Value} : Own M w0 (vec (.slice none 0 0) E sz (([] : List α).map enc) :: H) w :=
  ⟨h.1, ⟨vec_nil, fun b ⟨_, _, h⟩ => by simp at h, fun s _ b ⟨_, _, h⟩ => by simp at h⟩, h.2⟩
theorem WK.vecNil (E : TypeId) (sz : Nat) {α : Type} (enc : α → List Value) (kk : WK n K σ (Own M w0 (vec (.slice none 0 0) E sz (([] : List α).map enc) :: H))) : WK n K σ (Own M w0 H) := WK.conseq (fun w hw => hw.vecNil) kk

/-! ### Loops whose memory goes with the ghost -/
theorem WC.loopH {Γ : Type} (τ : Env) (S : Γ → Env) (R : Γ → List Res) {H2 : List Res} (I : Γ → Prop) (μ : Γ → Nat) (g₀ : Γ) {c : Code} (h₀ : I g₀) (hs : Sub σ (S g₀ ++ τ)) (hd : ∀ w, Own M w0 H w → Own M w0 (R g₀ ++ H2) w)
    (round : ∀ g, I g → WK n (c.wp P (Exit.then (fun a' w' => ∃ g', I g' ∧ μ g' < μ g ∧ Has n a' (S g' ++ τ) ∧ Own M w0 (R g' ++ H2) w') Q)) (S g ++ τ) (Own M w0 (R g ++ H2))) : WK n ((Code.loop c).wp P Q) σ (Own M w0 H) :=
  WC.loop (fun g => S g ++ τ) (fun g => Own M w0 (R g ++ H2)) I μ g₀ h₀ hs hd round
theorem WQ.againH {Γ : Type} {S : Γ → Env} {R : Γ → List Res} {H2 : List Res} {I : Γ → Prop} {μ : Γ → Nat} {m : Nat} {τ : Env} (g' : Γ) (hI : I g') (hm : μ g' < m) (hs : Sub σ (S g' ++ τ)) (hd : ∀ w, Own M w0 H w → Own M w0 (R g' ++ H2) w) :
    WK n (Exit.then (fun a' w' => ∃ g', I g' ∧ μ g' < m ∧ Has n a' (S g' ++ τ) ∧ Own M w0 (R g' ++ H2) w') Q .normal) σ (Own M w0 H) := fun a w ha hw => ⟨g', hI, hm, ha.sub hs, hd w hw⟩

theorem WC.loopH1 {Γ0 : Type} (τ : Env) (S : Γ0 → Env) (R : Γ0 → List Res) {H2 : List Res} (I : Γ0 → Prop) (μ : Γ0 → Nat) (i0 : Γ0) {c : Code} (h₀ : I i0) (hs : Sub σ (S i0 ++ τ)) (hd : ∀ w, Own M w0 H w → Own M w0 (R i0 ++ H2) w)
    (round : ∀ g0, I g0 → WK n (c.wp P (Exit.then (fun a' w' => ∃ g0', I g0' ∧ μ g0' < μ g0 ∧ Has n a' (S g0' ++ τ) ∧ Own M w0 (R g0' ++ H2) w') Q)) (S g0 ++ τ) (Own M w0 (R g0 ++ H2))) : WK n ((Code.loop c).wp P Q) σ (Own M w0 H) :=
  WC.loopH (Γ := Γ0) τ (fun g => S g) (fun g => R g) (fun g => I g) (fun g => μ g) i0 h₀ hs hd fun g hg a w ha hw => by
    refine wp_mono (round g hg a w ha hw) fun e a' w' h => ?_
    cases e <;> first | exact h | (obtain ⟨g0, h1, h2, h3, h4⟩ := h; exact ⟨g0, h1, h2, h3, h4⟩)
theorem WQ.againH1 {Γ0 : Type} {S : Γ0 → Env} {R : Γ0 → List Res} {H2 : List Res} {I : Γ0 → Prop} {μ : Γ0 → Nat} {m : Nat} {τ : Env} (i0 : Γ0) (hI : I i0) (hm : μ i0 < m) (hs : Sub σ (S i0 ++ τ)) (hd : ∀ w, Own M w0 H w → Own M w0 (R i0 ++ H2) w) :
    WK n (Exit.then (fun a' w' => ∃ g0', I g0' ∧ μ g0' < m ∧ Has n a' (S g0' ++ τ) ∧ Own M w0 (R g0' ++ H2) w') Q .normal) σ (Own M w0 H) := fun a w ha hw => ⟨i0, hI, hm, ha.sub hs, hd w hw⟩

theorem WC.loopH2 {Γ0 : Type} {Γ1 : Type} (τ : Env) (S : Γ0 → Γ1 → Env) (R : Γ0 → Γ1 → List Res) {H2 : List Res} (I : Γ0 → Γ1 → Prop) (μ : Γ0 → Γ1 → Nat) (i0 : Γ0) (i1 : Γ1) {c : Code} (h₀ : I i0 i1) (hs : Sub σ (S i0 i1 ++ τ)) (hd : ∀ w, Own M w0 H w → Own M w0 (R i0 i1 ++ H2) w)
    (round : ∀ g0 g1, I g0 g1 → WK n (c.wp P (Exit.then (fun a' w' => ∃ g0' g1', I g0' g1' ∧ μ g0' g1' < μ g0 g1 ∧ Has n a' (S g0' g1' ++ τ) ∧ Own M w0 (R g0' g1' ++ H2) w') Q)) (S g0 g1 ++ τ) (Own M w0 (R g0 g1 ++ H2))) : WK n ((Code.loop c).wp P Q) σ (Own M w0 H) :=
  WC.loopH (Γ := Γ0 × Γ1) τ (fun g => S g.1 g.2) (fun g => R g.1 g.2) (fun g => I g.1 g.2) (fun g => μ g.1 g.2) (i0, i1) h₀ hs hd fun g hg a w ha hw => by
    refine wp_mono (round g.1 g.2 hg a w ha hw) fun e a' w' h => ?_
    cases e <;> first | exact h | (obtain ⟨g0, g1, h1, h2, h3, h4⟩ := h; exact ⟨(g0, g1), h1, h2, h3, h4⟩)
theorem WQ.againH2 {Γ0 : Type} {Γ1 : Type} {S : Γ0 → Γ1 → Env} {R : Γ0 → Γ1 → List Res} {H2 : List Res} {I : Γ0 → Γ1 → Prop} {μ : Γ0 → Γ1 → Nat} {m : Nat} {τ : Env} (i0 : Γ0) (i1 : Γ1) (hI : I i0 i1) (hm : μ i0 i1 < m) (hs : Sub σ (S i0 i1 ++ τ)) (hd : ∀ w, Own M w0 H w → Own M w0 (R i0 i1 ++ H2) w) :
    WK n (Exit.then (fun a' w' => ∃ g0' g1', I g0' g1' ∧ μ g0' g1' < m ∧ Has n a' (S g0' g1' ++ τ) ∧ Own M w0 (R g0' g1' ++ H2) w') Q .normal) σ (Own M w0 H) := fun a w ha hw => ⟨i0, i1, hI, hm, ha.sub hs, hd w hw⟩

theorem WC.loopH3 {Γ0 : Type} {Γ1 : Type} {Γ2 : Type} (τ : Env) (S : Γ0 → Γ1 → Γ2 → Env) (R : Γ0 → Γ1 → Γ2 → List Res) {H2 : List Res} (I : Γ0 → Γ1 → Γ2 → Prop) (μ : Γ0 → Γ1 → Γ2 → Nat) (i0 : Γ0) (i1 : Γ1) (i2 : Γ2) {c : Code} (h₀ : I i0 i1 i2) (hs : Sub σ (S i0 i1 i2 ++ τ)) (hd : ∀ w, Own M w0 H w → Own M w0 (R i0 i1 i2 ++ H2) w)
    (round : ∀ g0 g1 g2, I g0 g1 g2 → WK n (c.wp P (Exit.then (fun a' w' => ∃ g0' g1' g2', I g0' g1' g2' ∧ μ g0' g1' g2' < μ g0 g1 g2 ∧ Has n a' (S g0' g1' g2' ++ τ) ∧ Own M w0 (R g0' g1' g2' ++ H2) w') Q)) (S g0 g1 g2 ++ τ) (Own M w0 (R g0 g1 g2 ++ H2))) : WK n ((Code.loop c).wp P Q) σ (Own M w0 H) :=
  WC.loopH (Γ := Γ0 × Γ1 × Γ2) τ (fun g => S g.1 g.2.1 g.2.2) (fun g => R g.1 g.2.1 g.2.2) (fun g => I g.1 g.2.1 g.2.2) (fun g => μ g.1 g.2.1 g.2.2) (i0, i1, i2) h₀ hs hd fun g hg a w ha hw => by
    refine wp_mono (round g.1 g.2.1 g.2.2 hg a w ha hw) fun e a' w' h => ?_
    cases e <;> first | exact h | (obtain ⟨g0, g1, g2, h1, h2, h3, h4⟩ := h; exact ⟨(g0, g1, g2), h1, h2, h3, h4⟩)
theorem WQ.againH3 {Γ0 : Type} {Γ1 : Type} {Γ2 : Type} {S : Γ0 → Γ1 → Γ2 → Env} {R : Γ0 → Γ1 → Γ2 → List Res} {H2 : List Res} {I : Γ0 → Γ1 → Γ2 → Prop} {μ : Γ0 → Γ1 → Γ2 → Nat} {m : Nat} {τ : Env} (i0 : Γ0) (i1 : Γ1) (i2 : Γ2) (hI : I i0 i1 i2) (hm : μ i0 i1 i2 < m) (hs : Sub σ (S i0 i1 i2 ++ τ)) (hd : ∀ w, Own M w0 H w → Own M w0 (R i0 i1 i2 ++ H2) w) :
    WK n (Exit.then (fun a' w' => ∃ g0' g1' g2', I g0' g1' g2' ∧ μ g0' g1' g2' < m ∧ Has n a' (S g0' g1' g2' ++ τ) ∧ Own M w0 (R g0' g1' g2' ++ H2) w') Q .normal) σ (Own M w0 H) := fun a w ha hw => ⟨i0, i1, i2, hI, hm, ha.sub hs, hd w hw⟩

theorem WC.loopH4 {Γ0 : Type} {Γ1 : Type} {Γ2 : Type} {Γ3 : Type} (τ : Env) (S : Γ0 → Γ1 → Γ2 → Γ3 → Env) (R : Γ0 → Γ1 → Γ2 → Γ3 → List Res) {H2 : List Res} (I : Γ0 → Γ1 → Γ2 → Γ3 → Prop) (μ : Γ0 → Γ1 → Γ2 → Γ3 → Nat) (i0 : Γ0) (i1 : Γ1) (i2 : Γ2) (i3 : Γ3) {c : Code} (h₀ : I i0 i1 i2 i3) (hs : Sub σ (S i0 i1 i2 i3 ++ τ)) (hd : ∀ w, Own M w0 H w → Own M w0 (R i0 i1 i2 i3 ++ H2) w)
    (round : ∀ g0 g1 g2 g3, I g0 g1 g2 g3 → WK n (c.wp P (Exit.then (fun a' w' => ∃ g0' g1' g2' g3', I g0' g1' g2' g3' ∧ μ g0' g1' g2' g3' < μ g0 g1 g2 g3 ∧ Has n a' (S g0' g1' g2' g3' ++ τ) ∧ Own M w0 (R g0' g1' g2' g3' ++ H2) w') Q)) (S g0 g1 g2 g3 ++ τ) (Own M w0 (R g0 g1 g2 g3 ++ H2))) : WK n ((Code.loop c).wp P Q) σ (Own M w0 H) :=
  WC.loopH (Γ := Γ0 × Γ1 × Γ2 × Γ3) τ (fun g => S g.1 g.2.1 g.2.2.1 g.2.2.2) (fun g => R g.1 g.2.1 g.2.2.1 g.2.2.2) (fun g => I g.1 g.2.1 g.2.2.1 g.2.2.2) (fun g => μ g.1 g.2.1 g.2.2.1 g.2.2.2) (i0, i1, i2, i3) h₀ hs hd fun g hg a w ha hw => by
    refine wp_mono (round g.1 g.2.1 g.2.2.1 g.2.2.2 hg a w ha hw) fun e a' w' h => ?_
    cases e <;> first | exact h | (obtain ⟨g0, g1, g2, g3, h1, h2, h3, h4⟩ := h; exact ⟨(g0, g1, g2, g3), h1, h2, h3, h4⟩)
theorem WQ.againH4 {Γ0 : Type} {Γ1 : Type} {Γ2 : Type} {Γ3 : Type} {S : Γ0 → Γ1 → Γ2 → Γ3 → Env} {R : Γ0 → Γ1 → Γ2 → Γ3 → List Res} {H2 : List Res} {I : Γ0 → Γ1 → Γ2 → Γ3 → Prop} {μ : Γ0 → Γ1 → Γ2 → Γ3 → Nat} {m : Nat} {τ : Env} (i0 : Γ0) (i1 : Γ1) (i2 : Γ2) (i3 : Γ3) (hI : I i0 i1 i2 i3) (hm : μ i0 i1 i2 i3 < m) (hs : Sub σ (S i0 i1 i2 i3 ++ τ)) (hd : ∀ w, Own M w0 H w → Own M w0 (R i0 i1 i2 i3 ++ H2) w) :
    WK n (Exit.then (fun a' w' => ∃ g0' g1' g2' g3', I g0' g1' g2' g3' ∧ μ g0' g1' g2' g3' < m ∧ Has n a' (S g0' g1' g2' g3' ++ τ) ∧ Own M w0 (R g0' g1' g2' g3' ++ H2) w') Q .normal) σ (Own M w0 H) := fun a w ha hw => ⟨i0, i1, i2, i3, hI, hm, ha.sub hs, hd w hw⟩

theorem WC.loopH5 {Γ0 : Type} {Γ1 : Type} {Γ2 : Type} {Γ3 : Type} {Γ4 : Type} (τ : Env) (S : Γ0 → Γ1 → Γ2 → Γ3 → Γ4 → Env) (R : Γ0 → Γ1 → Γ2 → Γ3 → Γ4 → List Res) {H2 : List Res} (I : Γ0 → Γ1 → Γ2 → Γ3 → Γ4 → Prop) (μ : Γ0 → Γ1 → Γ2 → Γ3 → Γ4 → Nat) (i0 : Γ0) (i1 : Γ1) (i2 : Γ2) (i3 : Γ3) (i4 : Γ4) {c : Code} (h₀ : I i0 i1 i2 i3 i4) (hs : Sub σ (S i0 i1 i2 i3 i4 ++ τ)) (hd : ∀ w, Own M w0 H w → Own M w0 (R i0 i1 i2 i3 i4 ++ H2) w)
    (round : ∀ g0 g1 g2 g3 g4, I g0 g1 g2 g3 g4 → WK n (c.wp P (Exit.then (fun a' w' => ∃ g0' g1' g2' g3' g4', I g0' g1' g2' g3' g4' ∧ μ g0' g1' g2' g3' g4' < μ g0 g1 g2 g3 g4 ∧ Has n a' (S g0' g1' g2' g3' g4' ++ τ) ∧ Own M w0 (R g0' g1' g2' g3' g4' ++ H2) w') Q)) (S g0 g1 g2 g3 g4 ++ τ) (Own M w0 (R g0 g1 g2 g3 g4 ++ H2))) : WK n ((Code.loop c).wp P Q) σ (Own M w0 H) :=
  WC.loopH (Γ := Γ0 × Γ1 × Γ2 × Γ3 × Γ4) τ (fun g => S g.1 g.2.1 g.2.2.1 g.2.2.2.1 g.2.2.2.2) (fun g => R g.1 g.2.1 g.2.2.1 g.2.2.2.1 g.2.2.2.2) (fun g => I g.1 g.2.1 g.2.2.1 g.2.2.2.1 g.2.2.2.2) (fun g => μ g.1 g.2.1 g.2.2.1 g.2.2.2.1 g.2.2.2.2) (i0, i1, i2, i3, i4) h₀ hs hd fun g hg a w ha hw => by
    refine wp_mono (round g.1 g.2.1 g.2.2.1 g.2.2.2.1 g.2.2.2.2 hg a w ha hw) fun e a' w' h => ?_
    cases e <;> first | exact h | (obtain ⟨g0, g1, g2, g3, g4, h1, h2, h3, h4⟩ := h; exact ⟨(g0, g1, g2, g3, g4), h1, h2, h3, h4⟩)
theorem WQ.againH5 {Γ0 : Type} {Γ1 : Type} {Γ2 : Type} {Γ3 : Type} {Γ4 : Type} {S : Γ0 → Γ1 → Γ2 → Γ3 → Γ4 → Env} {R : Γ0 → Γ1 → Γ2 → Γ3 → Γ4 → List Res} {H2 : List Res} {I : Γ0 → Γ1 → Γ2 → Γ3 → Γ4 → Prop} {μ : Γ0 → Γ1 → Γ2 → Γ3 → Γ4 → Nat} {m : Nat} {τ : Env} (i0 : Γ0) (i1 : Γ1) (i2 : Γ2) (i3 : Γ3) (i4 : Γ4) (hI : I i0 i1 i2 i3 i4) (hm : μ i0 i1 i2 i3 i4 < m) (hs : Sub σ (S i0 i1 i2 i3 i4 ++ τ)) (hd : ∀ w, Own M w0 H w → Own M w0 (R i0 i1 i2 i3 i4 ++ H2) w) :
    WK n (Exit.then (fun a' w' => ∃ g0' g1' g2' g3' g4', I g0' g1' g2' g3' g4' ∧ μ g0' g1' g2' g3' g4' < m ∧ Has n a' (S g0' g1' g2' g3' g4' ++ τ) ∧ Own M w0 (R g0' g1' g2' g3' g4' ++ H2) w') Q .normal) σ (Own M w0 H) := fun a w ha hw => ⟨i0, i1, i2, i3, i4, hI, hm, ha.sub hs, hd w hw⟩

/-! ### Reading what is known -/
theorem Own.kcells (j : Nat) (hj : H[j]? = some (kn M w0.heap.size k0 k)) (hb : Base M k0 w0) {p : Addr} {l : List Value} (h : CellsAt k p l 0) : ∀ w, Own M w0 H w → CellsAt w p l 0 := fun w hw => h.mono (Own.le j hj hb hw)
theorem Own.kcell (j : Nat) (hj : H[j]? = some (kn M w0.heap.size k0 k)) (hb : Base M k0 w0) {p : Addr} {v : Value} (h : k.cell? p = some v) : ∀ w, Own M w0 H w → w.cell? p = some v := fun w hw => Own.le j hj hb hw _ _ h
theorem Own.karr (j : Nat) (hj : H[j]? = some (kn M w0.heap.size k0 k)) (hb : Base M k0 w0) {v : Value} {sz : Nat} {rows : List (List Value)} (h : Arr k v sz rows) : ∀ w, Own M w0 H w → Arr w v sz rows := fun w hw => h.le (Own.le j hj hb hw)
theorem Own.kgrow {w : World} (hM : ∀ b, ¬ M b) (h : Own M w0 H w) : Grow w0 w := ⟨h.1.os, h.1.tape, h.1.output, h.1.size, fun b hb => h.1.block b hb (hM b)⟩

theorem filled1 {v z : Value} {m : Nat} (h : SliceLen v m) : filled 1 1 [z] [(0, v)] = some [v].toArray := by
  obtain ⟨a, c, rfl, _⟩ := h
  simp [filled, Instr.fill, Value.cells]
  have e : (Array.range 1 : Array Nat) = #[0] := by decide
  rw [e]
  apply Array.ext' ; simp
theorem QV.eqv {C : World → Prop} {o : Oper} {v v' : Value} (h : v = v') (q : QV P o σ C v) : QV P o σ C v' := h ▸ q
theorem SliceLen.cells {v : Value} {m : Nat} (h : SliceLen v m) : v.cells = [v].toArray := by
  obtain ⟨a, c, rfl, _⟩ := h
  rfl
/-! ### nil, the empty row, a row that was built -/
def isNilS : Value → Bool
  | .slice none _ _ => true
  | _ => false
theorem run_eqNilS {w : World} (e : Nat) {a : Option Addr} {l c : Nat} (h : P.underlying U = some (.slice E)) : (Op.equalIn (e + 1) U (.slice a l c) (.slice none 0 0)).run P w = .ok a.isNone w := by
  cases a <;> simp [Op.equalIn, run_underlying h]
theorem isNilS_eq {a : Option Addr} {l c : Nat} : isNilS (.slice a l c) = a.isNone := by cases a <;> rfl
theorem QV.eqlNil {C : World → Prop} {z : TypeId} {m : Nat} (hU : P.underlying U = some (.slice E)) (hx : σ.ev x = some (g, v)) (hg : g = true) (hl : SliceLen v m) :
    QV P ⟨d, .binOp .eql U x (.const (.slice none 0 0)) z, T, pos, after, gd⟩ σ C (.bool (isNilS v)) := .of_run fun n a ha w hw => by
  obtain ⟨b, c, rfl, _⟩ := hl
  have e1 := ha.ev hx hg
  have e2 : a.eval (.const (.slice none 0 0)) = .slice none 0 0 := rfl
  have e3 : (eqGuard .eql U x (.const (.slice none 0 0)) (.slice b m c) (.slice none 0 0)).run P w = .ok () w := by simp [eqGuard]
  have e4 : (binOp .eql U (.slice b m c) (.slice none 0 0)).run P w = .ok (.bool b.isNone) w := by
    simp only [binOp]
    simp [Op.equal, Op.maxDepth, run_eqNilS (P := P) (w := w) 9999 hU]
  simp only [execOp, e1, e2, Sem.run_bind, e3, e4, Result.andThen_ok, Sem.run_pure, isNilS_eq]
theorem isNilS_len {m : Nat} (h : SliceLen v m) (hn : isNilS v = true) : m = 0 := by
  obtain ⟨a, c, rfl, h, _⟩ := h
  rw [isNilS_eq] at hn
  cases a with
  | none =>
    rcases Nat.eq_zero_or_pos m with h0 | h0
    · exact h0
    · exact absurd (h h0) (by simp)
  | some a => simp at hn

theorem EV.buildSlice0 {dd sz : Nat} {zc : List Value} (hn : dd < n) (hb : SliceZ P T E sz zc) (k : ∀ b, WK n K ((dd, (true, blkSlice b 0 0)) :: σ) (Own M w0 (blk b [] E :: H))) : EV P n ⟨some dd, .buildSlice T 0 #[], U, pos, after, gd⟩ σ (Own M w0 H) K Q := fun a w ha hw => by
  refine .inl ?_
  obtain ⟨hu, hb1⟩ := hb
  obtain ⟨i, hi, hb2⟩ := Option.map_eq_some_iff.1 hb1
  have hrun : (execOp a.eval ⟨some dd, .buildSlice T 0 #[], U, pos, after, gd⟩).run P w = .ok (.value (blkSlice w.heap.size 0 0)) (w.alloc (.cells #[] E)) := by
    simp [execOp, Instr.buildSlice, run_underlying hu, sizeOf, typeInfo, hi, blkSlice, newRow, newObj, Sem.run, Instr.fill]
    congr 2
    apply Array.ext' ; simp
  unfold Oper.wp
  rw [hrun]
  show K (a.put (some dd) _) _
  refine k w.heap.size _ _ (ha.put hn true _) (hw.push (w' := w.alloc (.cells #[] E)) ?_ (blk w.heap.size [] E) ?_ ?_)
  · exact Grow.alloc _
  · exact heap_alloc_new w _
  · intro b hb
    subst hb
    simp

/-- A row that was built is one that grows. -/
theorem Own.blkVec {w : World} {b sz : Nat} {cells : List Value} {α : Type} (enc : α → List Value) (xs : List α) (h : Own M w0 (blk b cells E :: H) w) (hf : (xs.map enc).flatten = cells) (hs : ∀ u, (enc u).length = sz) (hm : xs.length ≤ maxLen) :
    Own M w0 (vec (blkSlice b xs.length xs.length) E sz (xs.map enc) :: H) w := by
  have hl : ∀ r ∈ xs.map enc, r.length = sz := fun r hr => by
    obtain ⟨u, _, rfl⟩ := List.mem_map.1 hr
    exact hs u
  have hlen := flatten_len hl
  rw [List.length_map] at hlen
  obtain ⟨h0, ⟨⟨h1, h2, h3⟩, h4⟩⟩ := h
  have foot : ∀ x, (vec (blkSlice b xs.length xs.length) E sz (xs.map enc)).foot x → x = b := fun x ⟨n, c, he⟩ => by
    simp only [blkSlice, Value.slice.injEq, Option.some.injEq, Addr.mk.injEq] at he
    exact he.1.1.symm
  refine ⟨h0, ⟨⟨⟨by rw [List.length_map]; exact hlen, .inr ⟨b, xs.length, cells.toArray, by simp [blkSlice], Nat.zero_le _, h1, by simp, hm, by simp [← hf, hlen], ?_⟩⟩, hl⟩, fun x hx => h2 x (foot x hx), fun s hs x hx => h3 s hs x (foot x hx)⟩, h4⟩
  rw [List.length_map, ← hlen, hf]
  simp
theorem WK.blkVec {b sz : Nat} {cells : List Value} {α : Type} (enc : α → List Value) (xs : List α) (hf : (xs.map enc).flatten = cells) (hs : ∀ u, (enc u).length = sz) (hm : xs.length ≤ maxLen)
    (kk : WK n K σ (Own M w0 (vec (blkSlice b xs.length xs.length) E sz (xs.map enc) :: H))) : WK n K σ (Own M w0 (blk b cells E :: H)) := WK.conseq (fun w hw => hw.blkVec enc xs hf hs hm) kk
theorem rows_len {α : Type} {enc : α → List Value} {sz : Nat} {ys : List α} (h : ∀ u, (enc u).length = sz) : ∀ r ∈ ys.map enc, r.length = sz := fun r hr => by
  obtain ⟨u, _, rfl⟩ := List.mem_map.1 hr
  exact h u
end
end Go.Rd
