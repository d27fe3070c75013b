/- Texts that the law stands on: part 2. -/
import Derived.Test.YtaimbkndebaaiabZLschedMakes1
import Derived.Laws.OwnMore
import Derived.MapKept
section
namespace Go.Rd
open Go.RowKit
set_option linter.unusedVariables false
set_option linter.unusedSimpArgs false
section
variable {P : Program} {n : Nat} {Q : Exit → Act → World → Prop} {σ : Env} {M : Nat → Prop} {w0 : World} {H : List Res} {id : Nat}

theorem WC.bloop {Γ : Type} (τ : Env) (S : Γ → Env) (R : Γ → List Res) {H2 : List Res} (I : Γ → Nat → Prop) (J : Γ → Prop) (g₀ : Γ) (n₀ : Nat) {c : Code} (h₀ : I g₀ n₀) (hs : Sub σ (S g₀ ++ τ)) (hd : ∀ w, Own M w0 H w → Own M w0 (R g₀ ++ H2) w)
    (rest : ∀ g, J g → WK n (Q .normal) (S g ++ τ) (Own M w0 (R g ++ H2)))
    (round : ∀ g m, I g m → WK n (c.wp P (Exit.then (fun a' w' => ∃ g' m', I g' m' ∧ m' < m ∧ Has n a' (S g' ++ τ) ∧ Own M w0 (R g' ++ H2) w') (Exit.inBlock id (Exit.then (fun a' w' => ∃ g', J g' ∧ Has n a' (S g' ++ τ) ∧ Own M w0 (R g' ++ H2) w') Q)))) (S g ++ τ) (Own M w0 (R g ++ H2))) :
    WK n ((Code.block id (Code.loop c)).wp P Q) σ (Own M w0 H) := by
  refine WC.block ?_
  have hl : WK n ((Code.loop c).wp P (Exit.inBlock id (Exit.then (fun a' w' => ∃ g', J g' ∧ Has n a' (S g' ++ τ) ∧ Own M w0 (R g' ++ H2) w') Q))) σ (Own M w0 H) :=
    WC.loop (Γ := Γ × Nat) (fun g => S g.1 ++ τ) (fun g => Own M w0 (R g.1 ++ H2)) (fun g => I g.1 g.2) (fun g => g.2) (g₀, n₀) h₀ hs hd fun g hg a w ha hw => by
      refine wp_mono (round g.1 g.2 hg a w ha hw) fun e a' w' h => ?_
      cases e <;> first | exact h | (obtain ⟨g', m', h1, h2, h3, h4⟩ := h; exact ⟨(g', m'), h1, h2, h3, h4⟩)
  have key : ∀ a w, Exit.then (fun a' w' => ∃ g', J g' ∧ Has n a' (S g' ++ τ) ∧ Own M w0 (R g' ++ H2) w') Q .normal a w → Q .normal a w := fun a w ⟨g', h1, h2, h3⟩ => rest g' h1 a w h2 h3
  intro a w ha hw
  refine wp_mono (hl a w ha hw) fun e a' w' h => ?_
  cases e with
  | exit j =>
    simp only [Exit.inBlock] at h ⊢
    split at h
    · rename_i hj; rw [if_pos hj]; exact key _ _ h
    · rename_i hj; rw [if_neg hj]; exact h
  | normal => exact key _ _ h
  | _ => exact h
theorem WC.joint {Γ : Type} (τ : Env) (S : Γ → Env) (R : Γ → List Res) {H2 : List Res} (J : Γ → Prop) {x y : Code} (hτ : Sub σ τ) (hd : ∀ w, Own M w0 H w → Own M w0 H2 w)
    (rest : ∀ g, J g → WK n (y.wp P Q) (S g ++ τ) (Own M w0 (R g ++ H2)))
    (hx : WK n (x.wp P (Exit.then (fun a' w' => ∃ g', J g' ∧ Has n a' (S g' ++ τ) ∧ Own M w0 (R g' ++ H2) w') Q)) σ (Own M w0 H)) : WK n (x.wp P (Exit.then (y.wp P Q) Q)) σ (Own M w0 H) := by
  intro a w ha hw
  refine wp_mono (hx a w ha hw) fun e a' w' h => ?_
  cases e with
  | normal => obtain ⟨g', h1, h2, h3⟩ := h; exact rest g' h1 a' w' h2 h3
  | _ => exact h

theorem WC.bloop0  (τ : Env) (S : Env) (R : List Res) {H2 : List Res} (I : Nat → Prop) (J : Prop)  (n₀ : Nat) {c : Code} (h₀ : I n₀) (hs : Sub σ (S ++ τ)) (hd : ∀ w, Own M w0 H w → Own M w0 (R ++ H2) w)
    (rest : J → WK n (Q .normal) (S ++ τ) (Own M w0 (R ++ H2)))
    (round : ∀  m, I m → WK n (c.wp P (Exit.then (fun a' w' => ∃  m', I m' ∧ m' < m ∧ Has n a' (S ++ τ) ∧ Own M w0 (R ++ H2) w') (Exit.inBlock id (Exit.then (fun a' w' => J ∧ Has n a' (S ++ τ) ∧ Own M w0 (R ++ H2) w') Q)))) (S ++ τ) (Own M w0 (R ++ H2))) :
    WK n ((Code.block id (Code.loop c)).wp P Q) σ (Own M w0 H) :=
  WC.bloop (Γ := Unit) τ (fun g => S) (fun g => R) (fun g m => I m) (fun g => J) () n₀ h₀ hs hd (fun g h => rest h) fun g m hg a w ha hw => by
    refine wp_mono (round m hg a w ha hw) fun e a' w' h => ?_
    have key : ∀ a w, (fun a' w' => J ∧ Has n a' (S ++ τ) ∧ Own M w0 (R ++ H2) w') a w → (fun a' w' => ∃ g' : Unit, J ∧ Has n a' (S ++ τ) ∧ Own M w0 (R ++ H2) w') a w := fun a w ⟨h1, h2, h3⟩ => ⟨(), h1, h2, h3⟩
    cases e with
    | normal => obtain ⟨m', h1, h2, h3, h4⟩ := h; exact ⟨(), m', h1, h2, h3, h4⟩
    | exit j =>
      simp only [Exit.then, Exit.inBlock] at h ⊢
      split at h
      · rename_i hj; rw [if_pos hj]; exact key _ _ h
      · rename_i hj; rw [if_neg hj]; exact h
    | _ => exact h
theorem WQ.again0  {S : Env} {R : List Res} {H2 : List Res} {I : Nat → Prop} {m : Nat} {τ : Env}  (m' : Nat) (hI : I m') (hm : m' < m) (hs : Sub σ (S ++ τ)) (hd : ∀ w, Own M w0 H w → Own M w0 (R ++ H2) w) :
    WK n (Exit.then (fun a' w' => ∃  m', I m' ∧ m' < m ∧ Has n a' (S ++ τ) ∧ Own M w0 (R ++ H2) w') Q .normal) σ (Own M w0 H) := fun a w ha hw => ⟨m', hI, hm, ha.sub hs, hd w hw⟩
theorem WQ.out0  {S : Env} {R : List Res} {H2 : List Res} {J : Prop} {τ : Env}  (hJ : J) (hs : Sub σ (S ++ τ)) (hd : ∀ w, Own M w0 H w → Own M w0 (R ++ H2) w) :
    WK n (Exit.then (fun a' w' => J ∧ Has n a' (S ++ τ) ∧ Own M w0 (R ++ H2) w') Q .normal) σ (Own M w0 H) := fun a w ha hw => ⟨hJ, ha.sub hs, hd w hw⟩
theorem WC.joint0  (τ : Env) (S : Env) (R : List Res) {H2 : List Res} (J : Prop) {x y : Code} (hτ : Sub σ τ) (hd : ∀ w, Own M w0 H w → Own M w0 H2 w)
    (rest : J → WK n (y.wp P Q) (S ++ τ) (Own M w0 (R ++ H2)))
    (hx : WK n (x.wp P (Exit.then (fun a' w' => J ∧ Has n a' (S ++ τ) ∧ Own M w0 (R ++ H2) w') Q)) σ (Own M w0 H)) : WK n (x.wp P (Exit.then (y.wp P Q) Q)) σ (Own M w0 H) :=
  WC.joint (Γ := Unit) τ (fun g => S) (fun g => R) (fun g => J) hτ hd (fun g h => rest h) fun a w ha hw => by
    refine wp_mono (hx a w ha hw) fun e a' w' h => ?_
    cases e with
    | normal => obtain ⟨h1, h2, h3⟩ := h; exact ⟨(), h1, h2, h3⟩
    | _ => exact h
theorem WC.join0  (τ : Env) (S : Env) (R : List Res) {H2 : List Res} (J : Prop) {x y : Code} (hτ : Sub σ τ) (hd : ∀ w, Own M w0 H w → Own M w0 H2 w)
    (rest : J → WK n (y.wp P Q) (S ++ τ) (Own M w0 (R ++ H2)))
    (hx : WK n (x.wp P (Exit.then (fun a' w' => J ∧ Has n a' (S ++ τ) ∧ Own M w0 (R ++ H2) w') Q)) σ (Own M w0 H)) : WK n ((x.seq y).wp P Q) σ (Own M w0 H) := WC.seq (WC.joint0 τ S R J hτ hd rest hx)
theorem WC.bloop1 {Γ0 : Type} (τ : Env) (S : Γ0 → Env) (R : Γ0 → List Res) {H2 : List Res} (I : Γ0 → Nat → Prop) (J : Γ0 → Prop) (i0 : Γ0) (n₀ : Nat) {c : Code} (h₀ : I i0 n₀) (hs : Sub σ (S i0 ++ τ)) (hd : ∀ w, Own M w0 H w → Own M w0 (R i0 ++ H2) w)
    (rest : ∀ g0, J g0 → WK n (Q .normal) (S g0 ++ τ) (Own M w0 (R g0 ++ H2)))
    (round : ∀ g0 m, I g0 m → WK n (c.wp P (Exit.then (fun a' w' => ∃ g0' m', I g0' m' ∧ m' < m ∧ Has n a' (S g0' ++ τ) ∧ Own M w0 (R g0' ++ H2) w') (Exit.inBlock id (Exit.then (fun a' w' => ∃ g0', J g0' ∧ Has n a' (S g0' ++ τ) ∧ Own M w0 (R g0' ++ H2) w') Q)))) (S g0 ++ τ) (Own M w0 (R g0 ++ H2))) :
    WK n ((Code.block id (Code.loop c)).wp P Q) σ (Own M w0 H) :=
  WC.bloop (Γ := Γ0) τ (fun g => S g) (fun g => R g) (fun g m => I g m) (fun g => J g) i0 n₀ h₀ hs hd (fun g h => rest g h) fun g m hg a w ha hw => by
    refine wp_mono (round g m hg a w ha hw) fun e a' w' h => ?_
    have key : ∀ a w, (fun a' w' => ∃ g0', J g0' ∧ Has n a' (S g0' ++ τ) ∧ Own M w0 (R g0' ++ H2) w') a w → (fun a' w' => ∃ g' : Γ0, J g' ∧ Has n a' (S g' ++ τ) ∧ Own M w0 (R g' ++ H2) w') a w := fun a w ⟨g0', h1, h2, h3⟩ => ⟨g0', h1, h2, h3⟩
    cases e with
    | normal => obtain ⟨g0', m', h1, h2, h3, h4⟩ := h; exact ⟨g0', m', h1, h2, h3, h4⟩
    | exit j =>
      simp only [Exit.then, Exit.inBlock] at h ⊢
      split at h
      · rename_i hj; rw [if_pos hj]; exact key _ _ h
      · rename_i hj; rw [if_neg hj]; exact h
    | _ => exact h
theorem WQ.again1 {Γ0 : Type} {S : Γ0 → Env} {R : Γ0 → List Res} {H2 : List Res} {I : Γ0 → Nat → Prop} {m : Nat} {τ : Env} (i0 : Γ0) (m' : Nat) (hI : I i0 m') (hm : m' < m) (hs : Sub σ (S i0 ++ τ)) (hd : ∀ w, Own M w0 H w → Own M w0 (R i0 ++ H2) w) :
    WK n (Exit.then (fun a' w' => ∃ g0' m', I g0' m' ∧ m' < m ∧ Has n a' (S g0' ++ τ) ∧ Own M w0 (R g0' ++ H2) w') Q .normal) σ (Own M w0 H) := fun a w ha hw => ⟨i0, m', hI, hm, ha.sub hs, hd w hw⟩
theorem WQ.out1 {Γ0 : Type} {S : Γ0 → Env} {R : Γ0 → List Res} {H2 : List Res} {J : Γ0 → Prop} {τ : Env} (i0 : Γ0) (hJ : J i0) (hs : Sub σ (S i0 ++ τ)) (hd : ∀ w, Own M w0 H w → Own M w0 (R i0 ++ H2) w) :
    WK n (Exit.then (fun a' w' => ∃ g0', J g0' ∧ Has n a' (S g0' ++ τ) ∧ Own M w0 (R g0' ++ H2) w') Q .normal) σ (Own M w0 H) := fun a w ha hw => ⟨i0, hJ, ha.sub hs, hd w hw⟩
theorem WC.joint1 {Γ0 : Type} (τ : Env) (S : Γ0 → Env) (R : Γ0 → List Res) {H2 : List Res} (J : Γ0 → Prop) {x y : Code} (hτ : Sub σ τ) (hd : ∀ w, Own M w0 H w → Own M w0 H2 w)
    (rest : ∀ g0, J g0 → WK n (y.wp P Q) (S g0 ++ τ) (Own M w0 (R g0 ++ H2)))
    (hx : WK n (x.wp P (Exit.then (fun a' w' => ∃ g0', J g0' ∧ Has n a' (S g0' ++ τ) ∧ Own M w0 (R g0' ++ H2) w') Q)) σ (Own M w0 H)) : WK n (x.wp P (Exit.then (y.wp P Q) Q)) σ (Own M w0 H) :=
  WC.joint (Γ := Γ0) τ (fun g => S g) (fun g => R g) (fun g => J g) hτ hd (fun g h => rest g h) fun a w ha hw => by
    refine wp_mono (hx a w ha hw) fun e a' w' h => ?_
    cases e with
    | normal => obtain ⟨g0', h1, h2, h3⟩ := h; exact ⟨g0', h1, h2, h3⟩
    | _ => exact h
theorem WC.join1 {Γ0 : Type} (τ : Env) (S : Γ0 → Env) (R : Γ0 → List Res) {H2 : List Res} (J : Γ0 → Prop) {x y : Code} (hτ : Sub σ τ) (hd : ∀ w, Own M w0 H w → Own M w0 H2 w)
    (rest : ∀ g0, J g0 → WK n (y.wp P Q) (S g0 ++ τ) (Own M w0 (R g0 ++ H2)))
    (hx : WK n (x.wp P (Exit.then (fun a' w' => ∃ g0', J g0' ∧ Has n a' (S g0' ++ τ) ∧ Own M w0 (R g0' ++ H2) w') Q)) σ (Own M w0 H)) : WK n ((x.seq y).wp P Q) σ (Own M w0 H) := WC.seq (WC.joint1 τ S R J hτ hd rest hx)
theorem WC.bloop2 {Γ0 : Type} {Γ1 : Type} (τ : Env) (S : Γ0 → Γ1 → Env) (R : Γ0 → Γ1 → List Res) {H2 : List Res} (I : Γ0 → Γ1 → Nat → Prop) (J : Γ0 → Γ1 → Prop) (i0 : Γ0) (i1 : Γ1) (n₀ : Nat) {c : Code} (h₀ : I i0 i1 n₀) (hs : Sub σ (S i0 i1 ++ τ)) (hd : ∀ w, Own M w0 H w → Own M w0 (R i0 i1 ++ H2) w)
    (rest : ∀ g0 g1, J g0 g1 → WK n (Q .normal) (S g0 g1 ++ τ) (Own M w0 (R g0 g1 ++ H2)))
    (round : ∀ g0 g1 m, I g0 g1 m → WK n (c.wp P (Exit.then (fun a' w' => ∃ g0' g1' m', I g0' g1' m' ∧ m' < m ∧ Has n a' (S g0' g1' ++ τ) ∧ Own M w0 (R g0' g1' ++ H2) w') (Exit.inBlock id (Exit.then (fun a' w' => ∃ g0' g1', J g0' g1' ∧ Has n a' (S g0' g1' ++ τ) ∧ Own M w0 (R g0' g1' ++ H2) w') Q)))) (S g0 g1 ++ τ) (Own M w0 (R g0 g1 ++ H2))) :
    WK n ((Code.block id (Code.loop c)).wp P Q) σ (Own M w0 H) :=
  WC.bloop (Γ := Γ0 × Γ1) τ (fun g => S (g.1) (g.2)) (fun g => R (g.1) (g.2)) (fun g m => I (g.1) (g.2) m) (fun g => J (g.1) (g.2)) (i0, i1) n₀ h₀ hs hd (fun g h => rest (g.1) (g.2) h) fun g m hg a w ha hw => by
    refine wp_mono (round (g.1) (g.2) m hg a w ha hw) fun e a' w' h => ?_
    have key : ∀ a w, (fun a' w' => ∃ g0' g1', J g0' g1' ∧ Has n a' (S g0' g1' ++ τ) ∧ Own M w0 (R g0' g1' ++ H2) w') a w → (fun a' w' => ∃ g' : Γ0 × Γ1, J (g'.1) (g'.2) ∧ Has n a' (S (g'.1) (g'.2) ++ τ) ∧ Own M w0 (R (g'.1) (g'.2) ++ H2) w') a w := fun a w ⟨g0', g1', h1, h2, h3⟩ => ⟨(g0', g1'), h1, h2, h3⟩
    cases e with
    | normal => obtain ⟨g0', g1', m', h1, h2, h3, h4⟩ := h; exact ⟨(g0', g1'), m', h1, h2, h3, h4⟩
    | exit j =>
      simp only [Exit.then, Exit.inBlock] at h ⊢
      split at h
      · rename_i hj; rw [if_pos hj]; exact key _ _ h
      · rename_i hj; rw [if_neg hj]; exact h
    | _ => exact h
theorem WQ.again2 {Γ0 : Type} {Γ1 : Type} {S : Γ0 → Γ1 → Env} {R : Γ0 → Γ1 → List Res} {H2 : List Res} {I : Γ0 → Γ1 → Nat → Prop} {m : Nat} {τ : Env} (i0 : Γ0) (i1 : Γ1) (m' : Nat) (hI : I i0 i1 m') (hm : m' < m) (hs : Sub σ (S i0 i1 ++ τ)) (hd : ∀ w, Own M w0 H w → Own M w0 (R i0 i1 ++ H2) w) :
    WK n (Exit.then (fun a' w' => ∃ g0' g1' m', I g0' g1' m' ∧ m' < m ∧ Has n a' (S g0' g1' ++ τ) ∧ Own M w0 (R g0' g1' ++ H2) w') Q .normal) σ (Own M w0 H) := fun a w ha hw => ⟨i0, i1, m', hI, hm, ha.sub hs, hd w hw⟩
theorem WQ.out2 {Γ0 : Type} {Γ1 : Type} {S : Γ0 → Γ1 → Env} {R : Γ0 → Γ1 → List Res} {H2 : List Res} {J : Γ0 → Γ1 → Prop} {τ : Env} (i0 : Γ0) (i1 : Γ1) (hJ : J i0 i1) (hs : Sub σ (S i0 i1 ++ τ)) (hd : ∀ w, Own M w0 H w → Own M w0 (R i0 i1 ++ H2) w) :
    WK n (Exit.then (fun a' w' => ∃ g0' g1', J g0' g1' ∧ Has n a' (S g0' g1' ++ τ) ∧ Own M w0 (R g0' g1' ++ H2) w') Q .normal) σ (Own M w0 H) := fun a w ha hw => ⟨i0, i1, hJ, ha.sub hs, hd w hw⟩
theorem WC.joint2 {Γ0 : Type} {Γ1 : Type} (τ : Env) (S : Γ0 → Γ1 → Env) (R : Γ0 → Γ1 → List Res) {H2 : List Res} (J : Γ0 → Γ1 → Prop) {x y : Code} (hτ : Sub σ τ) (hd : ∀ w, Own M w0 H w → Own M w0 H2 w)
    (rest : ∀ g0 g1, J g0 g1 → WK n (y.wp P Q) (S g0 g1 ++ τ) (Own M w0 (R g0 g1 ++ H2)))
    (hx : WK n (x.wp P (Exit.then (fun a' w' => ∃ g0' g1', J g0' g1' ∧ Has n a' (S g0' g1' ++ τ) ∧ Own M w0 (R g0' g1' ++ H2) w') Q)) σ (Own M w0 H)) : WK n (x.wp P (Exit.then (y.wp P Q) Q)) σ (Own M w0 H) :=
  WC.joint (Γ := Γ0 × Γ1) τ (fun g => S (g.1) (g.2)) (fun g => R (g.1) (g.2)) (fun g => J (g.1) (g.2)) hτ hd (fun g h => rest (g.1) (g.2) h) fun a w ha hw => by
    refine wp_mono (hx a w ha hw) fun e a' w' h => ?_
    cases e with
    | normal => obtain ⟨g0', g1', h1, h2, h3⟩ := h; exact ⟨(g0', g1'), h1, h2, h3⟩
    | _ => exact h
theorem WC.join2 {Γ0 : Type} {Γ1 : Type} (τ : Env) (S : Γ0 → Γ1 → Env) (R : Γ0 → Γ1 → List Res) {H2 : List Res} (J : Γ0 → Γ1 → Prop) {x y : Code} (hτ : Sub σ τ) (hd : ∀ w, Own M w0 H w → Own M w0 H2 w)
    (rest : ∀ g0 g1, J g0 g1 → WK n (y.wp P Q) (S g0 g1 ++ τ) (Own M w0 (R g0 g1 ++ H2)))
    (hx : WK n (x.wp P (Exit.then (fun a' w' => ∃ g0' g1', J g0' g1' ∧ Has n a' (S g0' g1' ++ τ) ∧ Own M w0 (R g0' g1' ++ H2) w') Q)) σ (Own M w0 H)) : WK n ((x.seq y).wp P Q) σ (Own M w0 H) := WC.seq (WC.joint2 τ S R J hτ hd rest hx)
theorem WC.bloop3 {Γ0 : Type} {Γ1 : Type} {Γ2 : Type} (τ : Env) (S : Γ0 → Γ1 → Γ2 → Env) (R : Γ0 → Γ1 → Γ2 → List Res) {H2 : List Res} (I : Γ0 → Γ1 → Γ2 → Nat → Prop) (J : Γ0 → Γ1 → Γ2 → Prop) (i0 : Γ0) (i1 : Γ1) (i2 : Γ2) (n₀ : Nat) {c : Code} (h₀ : I i0 i1 i2 n₀) (hs : Sub σ (S i0 i1 i2 ++ τ)) (hd : ∀ w, Own M w0 H w → Own M w0 (R i0 i1 i2 ++ H2) w)
    (rest : ∀ g0 g1 g2, J g0 g1 g2 → WK n (Q .normal) (S g0 g1 g2 ++ τ) (Own M w0 (R g0 g1 g2 ++ H2)))
    (round : ∀ g0 g1 g2 m, I g0 g1 g2 m → WK n (c.wp P (Exit.then (fun a' w' => ∃ g0' g1' g2' m', I g0' g1' g2' m' ∧ m' < m ∧ Has n a' (S g0' g1' g2' ++ τ) ∧ Own M w0 (R g0' g1' g2' ++ H2) w') (Exit.inBlock id (Exit.then (fun a' w' => ∃ g0' g1' g2', J g0' g1' g2' ∧ Has n a' (S g0' g1' g2' ++ τ) ∧ Own M w0 (R g0' g1' g2' ++ H2) w') Q)))) (S g0 g1 g2 ++ τ) (Own M w0 (R g0 g1 g2 ++ H2))) :
    WK n ((Code.block id (Code.loop c)).wp P Q) σ (Own M w0 H) :=
  WC.bloop (Γ := Γ0 × Γ1 × Γ2) τ (fun g => S (g.1) (g.2.1) (g.2.2)) (fun g => R (g.1) (g.2.1) (g.2.2)) (fun g m => I (g.1) (g.2.1) (g.2.2) m) (fun g => J (g.1) (g.2.1) (g.2.2)) (i0, i1, i2) n₀ h₀ hs hd (fun g h => rest (g.1) (g.2.1) (g.2.2) h) fun g m hg a w ha hw => by
    refine wp_mono (round (g.1) (g.2.1) (g.2.2) m hg a w ha hw) fun e a' w' h => ?_
    have key : ∀ a w, (fun a' w' => ∃ g0' g1' g2', J g0' g1' g2' ∧ Has n a' (S g0' g1' g2' ++ τ) ∧ Own M w0 (R g0' g1' g2' ++ H2) w') a w → (fun a' w' => ∃ g' : Γ0 × Γ1 × Γ2, J (g'.1) (g'.2.1) (g'.2.2) ∧ Has n a' (S (g'.1) (g'.2.1) (g'.2.2) ++ τ) ∧ Own M w0 (R (g'.1) (g'.2.1) (g'.2.2) ++ H2) w') a w := fun a w ⟨g0', g1', g2', h1, h2, h3⟩ => ⟨(g0', g1', g2'), h1, h2, h3⟩
    cases e with
    | normal => obtain ⟨g0', g1', g2', m', h1, h2, h3, h4⟩ := h; exact ⟨(g0', g1', g2'), m', h1, h2, h3, h4⟩
    | exit j =>
      simp only [Exit.then, Exit.inBlock] at h ⊢
      split at h
      · rename_i hj; rw [if_pos hj]; exact key _ _ h
      · rename_i hj; rw [if_neg hj]; exact h
    | _ => exact h
theorem WQ.again3 {Γ0 : Type} {Γ1 : Type} {Γ2 : Type} {S : Γ0 → Γ1 → Γ2 → Env} {R : Γ0 → Γ1 → Γ2 → List Res} {H2 : List Res} {I : Γ0 → Γ1 → Γ2 → Nat → Prop} {m : Nat} {τ : Env} (i0 : Γ0) (i1 : Γ1) (i2 : Γ2) (m' : Nat) (hI : I i0 i1 i2 m') (hm : m' < m) (hs : Sub σ (S i0 i1 i2 ++ τ)) (hd : ∀ w, Own M w0 H w → Own M w0 (R i0 i1 i2 ++ H2) w) :
    WK n (Exit.then (fun a' w' => ∃ g0' g1' g2' m', I g0' g1' g2' m' ∧ m' < m ∧ Has n a' (S g0' g1' g2' ++ τ) ∧ Own M w0 (R g0' g1' g2' ++ H2) w') Q .normal) σ (Own M w0 H) := fun a w ha hw => ⟨i0, i1, i2, m', hI, hm, ha.sub hs, hd w hw⟩
theorem WQ.out3 {Γ0 : Type} {Γ1 : Type} {Γ2 : Type} {S : Γ0 → Γ1 → Γ2 → Env} {R : Γ0 → Γ1 → Γ2 → List Res} {H2 : List Res} {J : Γ0 → Γ1 → Γ2 → Prop} {τ : Env} (i0 : Γ0) (i1 : Γ1) (i2 : Γ2) (hJ : J i0 i1 i2) (hs : Sub σ (S i0 i1 i2 ++ τ)) (hd : ∀ w, Own M w0 H w → Own M w0 (R i0 i1 i2 ++ H2) w) :
    WK n (Exit.then (fun a' w' => ∃ g0' g1' g2', J g0' g1' g2' ∧ Has n a' (S g0' g1' g2' ++ τ) ∧ Own M w0 (R g0' g1' g2' ++ H2) w') Q .normal) σ (Own M w0 H) := fun a w ha hw => ⟨i0, i1, i2, hJ, ha.sub hs, hd w hw⟩
theorem WC.joint3 {Γ0 : Type} {Γ1 : Type} {Γ2 : Type} (τ : Env) (S : Γ0 → Γ1 → Γ2 → Env) (R : Γ0 → Γ1 → Γ2 → List Res) {H2 : List Res} (J : Γ0 → Γ1 → Γ2 → Prop) {x y : Code} (hτ : Sub σ τ) (hd : ∀ w, Own M w0 H w → Own M w0 H2 w)
    (rest : ∀ g0 g1 g2, J g0 g1 g2 → WK n (y.wp P Q) (S g0 g1 g2 ++ τ) (Own M w0 (R g0 g1 g2 ++ H2)))
    (hx : WK n (x.wp P (Exit.then (fun a' w' => ∃ g0' g1' g2', J g0' g1' g2' ∧ Has n a' (S g0' g1' g2' ++ τ) ∧ Own M w0 (R g0' g1' g2' ++ H2) w') Q)) σ (Own M w0 H)) : WK n (x.wp P (Exit.then (y.wp P Q) Q)) σ (Own M w0 H) :=
  WC.joint (Γ := Γ0 × Γ1 × Γ2) τ (fun g => S (g.1) (g.2.1) (g.2.2)) (fun g => R (g.1) (g.2.1) (g.2.2)) (fun g => J (g.1) (g.2.1) (g.2.2)) hτ hd (fun g h => rest (g.1) (g.2.1) (g.2.2) h) fun a w ha hw => by
    refine wp_mono (hx a w ha hw) fun e a' w' h => ?_
    cases e with
    | normal => obtain ⟨g0', g1', g2', h1, h2, h3⟩ := h; exact ⟨(g0', g1', g2'), h1, h2, h3⟩
    | _ => exact h
theorem WC.join3 {Γ0 : Type} {Γ1 : Type} {Γ2 : Type} (τ : Env) (S : Γ0 → Γ1 → Γ2 → Env) (R : Γ0 → Γ1 → Γ2 → List Res) {H2 : List Res} (J : Γ0 → Γ1 → Γ2 → Prop) {x y : Code} (hτ : Sub σ τ) (hd : ∀ w, Own M w0 H w → Own M w0 H2 w)
    (rest : ∀ g0 g1 g2, J g0 g1 g2 → WK n (y.wp P Q) (S g0 g1 g2 ++ τ) (Own M w0 (R g0 g1 g2 ++ H2)))
    (hx : WK n (x.wp P (Exit.then (fun a' w' => ∃ g0' g1' g2', J g0' g1' g2' ∧ Has n a' (S g0' g1' g2' ++ τ) ∧ Own M w0 (R g0' g1' g2' ++ H2) w') Q)) σ (Own M w0 H)) : WK n ((x.seq y).wp P Q) σ (Own M w0 H) := WC.seq (WC.joint3 τ S R J hτ hd rest hx)
theorem WC.bloop4 {Γ0 : Type} {Γ1 : Type} {Γ2 : Type} {Γ3 : Type} (τ : Env) (S : Γ0 → Γ1 → Γ2 → Γ3 → Env) (R : Γ0 → Γ1 → Γ2 → Γ3 → List Res) {H2 : List Res} (I : Γ0 → Γ1 → Γ2 → Γ3 → Nat → Prop) (J : Γ0 → Γ1 → Γ2 → Γ3 → Prop) (i0 : Γ0) (i1 : Γ1) (i2 : Γ2) (i3 : Γ3) (n₀ : Nat) {c : Code} (h₀ : I i0 i1 i2 i3 n₀) (hs : Sub σ (S i0 i1 i2 i3 ++ τ)) (hd : ∀ w, Own M w0 H w → Own M w0 (R i0 i1 i2 i3 ++ H2) w)
    (rest : ∀ g0 g1 g2 g3, J g0 g1 g2 g3 → WK n (Q .normal) (S g0 g1 g2 g3 ++ τ) (Own M w0 (R g0 g1 g2 g3 ++ H2)))
    (round : ∀ g0 g1 g2 g3 m, I g0 g1 g2 g3 m → WK n (c.wp P (Exit.then (fun a' w' => ∃ g0' g1' g2' g3' m', I g0' g1' g2' g3' m' ∧ m' < m ∧ Has n a' (S g0' g1' g2' g3' ++ τ) ∧ Own M w0 (R g0' g1' g2' g3' ++ H2) w') (Exit.inBlock id (Exit.then (fun a' w' => ∃ g0' g1' g2' g3', J g0' g1' g2' g3' ∧ Has n a' (S g0' g1' g2' g3' ++ τ) ∧ Own M w0 (R g0' g1' g2' g3' ++ H2) w') Q)))) (S g0 g1 g2 g3 ++ τ) (Own M w0 (R g0 g1 g2 g3 ++ H2))) :
    WK n ((Code.block id (Code.loop c)).wp P Q) σ (Own M w0 H) :=
  WC.bloop (Γ := Γ0 × Γ1 × Γ2 × Γ3) τ (fun g => S (g.1) (g.2.1) (g.2.2.1) (g.2.2.2)) (fun g => R (g.1) (g.2.1) (g.2.2.1) (g.2.2.2)) (fun g m => I (g.1) (g.2.1) (g.2.2.1) (g.2.2.2) m) (fun g => J (g.1) (g.2.1) (g.2.2.1) (g.2.2.2)) (i0, i1, i2, i3) n₀ h₀ hs hd (fun g h => rest (g.1) (g.2.1) (g.2.2.1) (g.2.2.2) h) fun g m hg a w ha hw => by
    refine wp_mono (round (g.1) (g.2.1) (g.2.2.1) (g.2.2.2) m hg a w ha hw) fun e a' w' h => ?_
    have key : ∀ a w, (fun a' w' => ∃ g0' g1' g2' g3', J g0' g1' g2' g3' ∧ Has n a' (S g0' g1' g2' g3' ++ τ) ∧ Own M w0 (R g0' g1' g2' g3' ++ H2) w') a w → (fun a' w' => ∃ g' : Γ0 × Γ1 × Γ2 × Γ3, J (g'.1) (g'.2.1) (g'.2.2.1) (g'.2.2.2) ∧ Has n a' (S (g'.1) (g'.2.1) (g'.2.2.1) (g'.2.2.2) ++ τ) ∧ Own M w0 (R (g'.1) (g'.2.1) (g'.2.2.1) (g'.2.2.2) ++ H2) w') a w := fun a w ⟨g0', g1', g2', g3', h1, h2, h3⟩ => ⟨(g0', g1', g2', g3'), h1, h2, h3⟩
    cases e with
    | normal => obtain ⟨g0', g1', g2', g3', m', h1, h2, h3, h4⟩ := h; exact ⟨(g0', g1', g2', g3'), m', h1, h2, h3, h4⟩
    | exit j =>
      simp only [Exit.then, Exit.inBlock] at h ⊢
      split at h
      · rename_i hj; rw [if_pos hj]; exact key _ _ h
      · rename_i hj; rw [if_neg hj]; exact h
    | _ => exact h
theorem WQ.again4 {Γ0 : Type} {Γ1 : Type} {Γ2 : Type} {Γ3 : Type} {S : Γ0 → Γ1 → Γ2 → Γ3 → Env} {R : Γ0 → Γ1 → Γ2 → Γ3 → List Res} {H2 : List Res} {I : Γ0 → Γ1 → Γ2 → Γ3 → Nat → Prop} {m : Nat} {τ : Env} (i0 : Γ0) (i1 : Γ1) (i2 : Γ2) (i3 : Γ3) (m' : Nat) (hI : I i0 i1 i2 i3 m') (hm : m' < m) (hs : Sub σ (S i0 i1 i2 i3 ++ τ)) (hd : ∀ w, Own M w0 H w → Own M w0 (R i0 i1 i2 i3 ++ H2) w) :
    WK n (Exit.then (fun a' w' => ∃ g0' g1' g2' g3' m', I g0' g1' g2' g3' m' ∧ m' < m ∧ Has n a' (S g0' g1' g2' g3' ++ τ) ∧ Own M w0 (R g0' g1' g2' g3' ++ H2) w') Q .normal) σ (Own M w0 H) := fun a w ha hw => ⟨i0, i1, i2, i3, m', hI, hm, ha.sub hs, hd w hw⟩
theorem WQ.out4 {Γ0 : Type} {Γ1 : Type} {Γ2 : Type} {Γ3 : Type} {S : Γ0 → Γ1 → Γ2 → Γ3 → Env} {R : Γ0 → Γ1 → Γ2 → Γ3 → List Res} {H2 : List Res} {J : Γ0 → Γ1 → Γ2 → Γ3 → Prop} {τ : Env} (i0 : Γ0) (i1 : Γ1) (i2 : Γ2) (i3 : Γ3) (hJ : J i0 i1 i2 i3) (hs : Sub σ (S i0 i1 i2 i3 ++ τ)) (hd : ∀ w, Own M w0 H w → Own M w0 (R i0 i1 i2 i3 ++ H2) w) :
    WK n (Exit.then (fun a' w' => ∃ g0' g1' g2' g3', J g0' g1' g2' g3' ∧ Has n a' (S g0' g1' g2' g3' ++ τ) ∧ Own M w0 (R g0' g1' g2' g3' ++ H2) w') Q .normal) σ (Own M w0 H) := fun a w ha hw => ⟨i0, i1, i2, i3, hJ, ha.sub hs, hd w hw⟩
theorem WC.joint4 {Γ0 : Type} {Γ1 : Type} {Γ2 : Type} {Γ3 : Type} (τ : Env) (S : Γ0 → Γ1 → Γ2 → Γ3 → Env) (R : Γ0 → Γ1 → Γ2 → Γ3 → List Res) {H2 : List Res} (J : Γ0 → Γ1 → Γ2 → Γ3 → Prop) {x y : Code} (hτ : Sub σ τ) (hd : ∀ w, Own M w0 H w → Own M w0 H2 w)
    (rest : ∀ g0 g1 g2 g3, J g0 g1 g2 g3 → WK n (y.wp P Q) (S g0 g1 g2 g3 ++ τ) (Own M w0 (R g0 g1 g2 g3 ++ H2)))
    (hx : WK n (x.wp P (Exit.then (fun a' w' => ∃ g0' g1' g2' g3', J g0' g1' g2' g3' ∧ Has n a' (S g0' g1' g2' g3' ++ τ) ∧ Own M w0 (R g0' g1' g2' g3' ++ H2) w') Q)) σ (Own M w0 H)) : WK n (x.wp P (Exit.then (y.wp P Q) Q)) σ (Own M w0 H) :=
  WC.joint (Γ := Γ0 × Γ1 × Γ2 × Γ3) τ (fun g => S (g.1) (g.2.1) (g.2.2.1) (g.2.2.2)) (fun g => R (g.1) (g.2.1) (g.2.2.1) (g.2.2.2)) (fun g => J (g.1) (g.2.1) (g.2.2.1) (g.2.2.2)) hτ hd (fun g h => rest (g.1) (g.2.1) (g.2.2.1) (g.2.2.2) h) fun a w ha hw => by
    refine wp_mono (hx a w ha hw) fun e a' w' h => ?_
    cases e with
    | normal => obtain ⟨g0', g1', g2', g3', h1, h2, h3⟩ := h; exact ⟨(g0', g1', g2', g3'), h1, h2, h3⟩
    | _ => exact h
theorem WC.join4 {Γ0 : Type} {Γ1 : Type} {Γ2 : Type} {Γ3 : Type} (τ : Env) (S : Γ0 → Γ1 → Γ2 → Γ3 → Env) (R : Γ0 → Γ1 → Γ2 → Γ3 → List Res) {H2 : List Res} (J : Γ0 → Γ1 → Γ2 → Γ3 → Prop) {x y : Code} (hτ : Sub σ τ) (hd : ∀ w, Own M w0 H w → Own M w0 H2 w)
    (rest : ∀ g0 g1 g2 g3, J g0 g1 g2 g3 → WK n (y.wp P Q) (S g0 g1 g2 g3 ++ τ) (Own M w0 (R g0 g1 g2 g3 ++ H2)))
    (hx : WK n (x.wp P (Exit.then (fun a' w' => ∃ g0' g1' g2' g3', J g0' g1' g2' g3' ∧ Has n a' (S g0' g1' g2' g3' ++ τ) ∧ Own M w0 (R g0' g1' g2' g3' ++ H2) w') Q)) σ (Own M w0 H)) : WK n ((x.seq y).wp P Q) σ (Own M w0 H) := WC.seq (WC.joint4 τ S R J hτ hd rest hx)
theorem WC.bloop5 {Γ0 : Type} {Γ1 : Type} {Γ2 : Type} {Γ3 : Type} {Γ4 : Type} (τ : Env) (S : Γ0 → Γ1 → Γ2 → Γ3 → Γ4 → Env) (R : Γ0 → Γ1 → Γ2 → Γ3 → Γ4 → List Res) {H2 : List Res} (I : Γ0 → Γ1 → Γ2 → Γ3 → Γ4 → Nat → Prop) (J : Γ0 → Γ1 → Γ2 → Γ3 → Γ4 → Prop) (i0 : Γ0) (i1 : Γ1) (i2 : Γ2) (i3 : Γ3) (i4 : Γ4) (n₀ : Nat) {c : Code} (h₀ : I i0 i1 i2 i3 i4 n₀) (hs : Sub σ (S i0 i1 i2 i3 i4 ++ τ)) (hd : ∀ w, Own M w0 H w → Own M w0 (R i0 i1 i2 i3 i4 ++ H2) w)
    (rest : ∀ g0 g1 g2 g3 g4, J g0 g1 g2 g3 g4 → WK n (Q .normal) (S g0 g1 g2 g3 g4 ++ τ) (Own M w0 (R g0 g1 g2 g3 g4 ++ H2)))
    (round : ∀ g0 g1 g2 g3 g4 m, I g0 g1 g2 g3 g4 m → WK n (c.wp P (Exit.then (fun a' w' => ∃ g0' g1' g2' g3' g4' m', I g0' g1' g2' g3' g4' m' ∧ m' < m ∧ Has n a' (S g0' g1' g2' g3' g4' ++ τ) ∧ Own M w0 (R g0' g1' g2' g3' g4' ++ H2) w') (Exit.inBlock id (Exit.then (fun a' w' => ∃ g0' g1' g2' g3' g4', J g0' g1' g2' g3' g4' ∧ Has n a' (S g0' g1' g2' g3' g4' ++ τ) ∧ Own M w0 (R g0' g1' g2' g3' g4' ++ H2) w') Q)))) (S g0 g1 g2 g3 g4 ++ τ) (Own M w0 (R g0 g1 g2 g3 g4 ++ H2))) :
    WK n ((Code.block id (Code.loop c)).wp P Q) σ (Own M w0 H) :=
  WC.bloop (Γ := Γ0 × Γ1 × Γ2 × Γ3 × Γ4) τ (fun g => S (g.1) (g.2.1) (g.2.2.1) (g.2.2.2.1) (g.2.2.2.2)) (fun g => R (g.1) (g.2.1) (g.2.2.1) (g.2.2.2.1) (g.2.2.2.2)) (fun g m => I (g.1) (g.2.1) (g.2.2.1) (g.2.2.2.1) (g.2.2.2.2) m) (fun g => J (g.1) (g.2.1) (g.2.2.1) (g.2.2.2.1) (g.2.2.2.2)) (i0, i1, i2, i3, i4) n₀ h₀ hs hd (fun g h => rest (g.1) (g.2.1) (g.2.2.1) (g.2.2.2.1) (g.2.2.2.2) h) fun g m hg a w ha hw => by
    refine wp_mono (round (g.1) (g.2.1) (g.2.2.1) (g.2.2.2.1) (g.2.2.2.2) m hg a w ha hw) fun e a' w' h => ?_
    have key : ∀ a w, (fun a' w' => ∃ g0' g1' g2' g3' g4', J g0' g1' g2' g3' g4' ∧ Has n a' (S g0' g1' g2' g3' g4' ++ τ) ∧ Own M w0 (R g0' g1' g2' g3' g4' ++ H2) w') a w → (fun a' w' => ∃ g' : Γ0 × Γ1 × Γ2 × Γ3 × Γ4, J (g'.1) (g'.2.1) (g'.2.2.1) (g'.2.2.2.1) (g'.2.2.2.2) ∧ Has n a' (S (g'.1) (g'.2.1) (g'.2.2.1) (g'.2.2.2.1) (g'.2.2.2.2) ++ τ) ∧ Own M w0 (R (g'.1) (g'.2.1) (g'.2.2.1) (g'.2.2.2.1) (g'.2.2.2.2) ++ H2) w') a w := fun a w ⟨g0', g1', g2', g3', g4', h1, h2, h3⟩ => ⟨(g0', g1', g2', g3', g4'), h1, h2, h3⟩
    cases e with
    | normal => obtain ⟨g0', g1', g2', g3', g4', m', h1, h2, h3, h4⟩ := h; exact ⟨(g0', g1', g2', g3', g4'), m', h1, h2, h3, h4⟩
    | exit j =>
      simp only [Exit.then, Exit.inBlock] at h ⊢
      split at h
      · rename_i hj; rw [if_pos hj]; exact key _ _ h
      · rename_i hj; rw [if_neg hj]; exact h
    | _ => exact h
theorem WQ.again5 {Γ0 : Type} {Γ1 : Type} {Γ2 : Type} {Γ3 : Type} {Γ4 : Type} {S : Γ0 → Γ1 → Γ2 → Γ3 → Γ4 → Env} {R : Γ0 → Γ1 → Γ2 → Γ3 → Γ4 → List Res} {H2 : List Res} {I : Γ0 → Γ1 → Γ2 → Γ3 → Γ4 → Nat → Prop} {m : Nat} {τ : Env} (i0 : Γ0) (i1 : Γ1) (i2 : Γ2) (i3 : Γ3) (i4 : Γ4) (m' : Nat) (hI : I i0 i1 i2 i3 i4 m') (hm : m' < m) (hs : Sub σ (S i0 i1 i2 i3 i4 ++ τ)) (hd : ∀ w, Own M w0 H w → Own M w0 (R i0 i1 i2 i3 i4 ++ H2) w) :
    WK n (Exit.then (fun a' w' => ∃ g0' g1' g2' g3' g4' m', I g0' g1' g2' g3' g4' m' ∧ m' < m ∧ Has n a' (S g0' g1' g2' g3' g4' ++ τ) ∧ Own M w0 (R g0' g1' g2' g3' g4' ++ H2) w') Q .normal) σ (Own M w0 H) := fun a w ha hw => ⟨i0, i1, i2, i3, i4, m', hI, hm, ha.sub hs, hd w hw⟩
theorem WQ.out5 {Γ0 : Type} {Γ1 : Type} {Γ2 : Type} {Γ3 : Type} {Γ4 : Type} {S : Γ0 → Γ1 → Γ2 → Γ3 → Γ4 → Env} {R : Γ0 → Γ1 → Γ2 → Γ3 → Γ4 → List Res} {H2 : List Res} {J : Γ0 → Γ1 → Γ2 → Γ3 → Γ4 → Prop} {τ : Env} (i0 : Γ0) (i1 : Γ1) (i2 : Γ2) (i3 : Γ3) (i4 : Γ4) (hJ : J i0 i1 i2 i3 i4) (hs : Sub σ (S i0 i1 i2 i3 i4 ++ τ)) (hd : ∀ w, Own M w0 H w → Own M w0 (R i0 i1 i2 i3 i4 ++ H2) w) :
    WK n (Exit.then (fun a' w' => ∃ g0' g1' g2' g3' g4', J g0' g1' g2' g3' g4' ∧ Has n a' (S g0' g1' g2' g3' g4' ++ τ) ∧ Own M w0 (R g0' g1' g2' g3' g4' ++ H2) w') Q .normal) σ (Own M w0 H) := fun a w ha hw => ⟨i0, i1, i2, i3, i4, hJ, ha.sub hs, hd w hw⟩
theorem WC.joint5 {Γ0 : Type} {Γ1 : Type} {Γ2 : Type} {Γ3 : Type} {Γ4 : Type} (τ : Env) (S : Γ0 → Γ1 → Γ2 → Γ3 → Γ4 → Env) (R : Γ0 → Γ1 → Γ2 → Γ3 → Γ4 → List Res) {H2 : List Res} (J : Γ0 → Γ1 → Γ2 → Γ3 → Γ4 → Prop) {x y : Code} (hτ : Sub σ τ) (hd : ∀ w, Own M w0 H w → Own M w0 H2 w)
    (rest : ∀ g0 g1 g2 g3 g4, J g0 g1 g2 g3 g4 → WK n (y.wp P Q) (S g0 g1 g2 g3 g4 ++ τ) (Own M w0 (R g0 g1 g2 g3 g4 ++ H2)))
    (hx : WK n (x.wp P (Exit.then (fun a' w' => ∃ g0' g1' g2' g3' g4', J g0' g1' g2' g3' g4' ∧ Has n a' (S g0' g1' g2' g3' g4' ++ τ) ∧ Own M w0 (R g0' g1' g2' g3' g4' ++ H2) w') Q)) σ (Own M w0 H)) : WK n (x.wp P (Exit.then (y.wp P Q) Q)) σ (Own M w0 H) :=
  WC.joint (Γ := Γ0 × Γ1 × Γ2 × Γ3 × Γ4) τ (fun g => S (g.1) (g.2.1) (g.2.2.1) (g.2.2.2.1) (g.2.2.2.2)) (fun g => R (g.1) (g.2.1) (g.2.2.1) (g.2.2.2.1) (g.2.2.2.2)) (fun g => J (g.1) (g.2.1) (g.2.2.1) (g.2.2.2.1) (g.2.2.2.2)) hτ hd (fun g h => rest (g.1) (g.2.1) (g.2.2.1) (g.2.2.2.1) (g.2.2.2.2) h) fun a w ha hw => by
    refine wp_mono (hx a w ha hw) fun e a' w' h => ?_
    cases e with
    | normal => obtain ⟨g0', g1', g2', g3', g4', h1, h2, h3⟩ := h; exact ⟨(g0', g1', g2', g3', g4'), h1, h2, h3⟩
    | _ => exact h
theorem WC.join5 {Γ0 : Type} {Γ1 : Type} {Γ2 : Type} {Γ3 : Type} {Γ4 : Type} (τ : Env) (S : Γ0 → Γ1 → Γ2 → Γ3 → Γ4 → Env) (R : Γ0 → Γ1 → Γ2 → Γ3 → Γ4 → List Res) {H2 : List Res} (J : Γ0 → Γ1 → Γ2 → Γ3 → Γ4 → Prop) {x y : Code} (hτ : Sub σ τ) (hd : ∀ w, Own M w0 H w → Own M w0 H2 w)
    (rest : ∀ g0 g1 g2 g3 g4, J g0 g1 g2 g3 g4 → WK n (y.wp P Q) (S g0 g1 g2 g3 g4 ++ τ) (Own M w0 (R g0 g1 g2 g3 g4 ++ H2)))
    (hx : WK n (x.wp P (Exit.then (fun a' w' => ∃ g0' g1' g2' g3' g4', J g0' g1' g2' g3' g4' ∧ Has n a' (S g0' g1' g2' g3' g4' ++ τ) ∧ Own M w0 (R g0' g1' g2' g3' g4' ++ H2) w') Q)) σ (Own M w0 H)) : WK n ((x.seq y).wp P Q) σ (Own M w0 H) := WC.seq (WC.joint5 τ S R J hτ hd rest hx)
theorem WC.bloop6 {Γ0 : Type} {Γ1 : Type} {Γ2 : Type} {Γ3 : Type} {Γ4 : Type} {Γ5 : Type} (τ : Env) (S : Γ0 → Γ1 → Γ2 → Γ3 → Γ4 → Γ5 → Env) (R : Γ0 → Γ1 → Γ2 → Γ3 → Γ4 → Γ5 → List Res) {H2 : List Res} (I : Γ0 → Γ1 → Γ2 → Γ3 → Γ4 → Γ5 → Nat → Prop) (J : Γ0 → Γ1 → Γ2 → Γ3 → Γ4 → Γ5 → Prop) (i0 : Γ0) (i1 : Γ1) (i2 : Γ2) (i3 : Γ3) (i4 : Γ4) (i5 : Γ5) (n₀ : Nat) {c : Code} (h₀ : I i0 i1 i2 i3 i4 i5 n₀) (hs : Sub σ (S i0 i1 i2 i3 i4 i5 ++ τ)) (hd : ∀ w, Own M w0 H w → Own M w0 (R i0 i1 i2 i3 i4 i5 ++ H2) w)
    (rest : ∀ g0 g1 g2 g3 g4 g5, J g0 g1 g2 g3 g4 g5 → WK n (Q .normal) (S g0 g1 g2 g3 g4 g5 ++ τ) (Own M w0 (R g0 g1 g2 g3 g4 g5 ++ H2)))
    (round : ∀ g0 g1 g2 g3 g4 g5 m, I g0 g1 g2 g3 g4 g5 m → WK n (c.wp P (Exit.then (fun a' w' => ∃ g0' g1' g2' g3' g4' g5' m', I g0' g1' g2' g3' g4' g5' m' ∧ m' < m ∧ Has n a' (S g0' g1' g2' g3' g4' g5' ++ τ) ∧ Own M w0 (R g0' g1' g2' g3' g4' g5' ++ H2) w') (Exit.inBlock id (Exit.then (fun a' w' => ∃ g0' g1' g2' g3' g4' g5', J g0' g1' g2' g3' g4' g5' ∧ Has n a' (S g0' g1' g2' g3' g4' g5' ++ τ) ∧ Own M w0 (R g0' g1' g2' g3' g4' g5' ++ H2) w') Q)))) (S g0 g1 g2 g3 g4 g5 ++ τ) (Own M w0 (R g0 g1 g2 g3 g4 g5 ++ H2))) :
    WK n ((Code.block id (Code.loop c)).wp P Q) σ (Own M w0 H) :=
  WC.bloop (Γ := Γ0 × Γ1 × Γ2 × Γ3 × Γ4 × Γ5) τ (fun g => S (g.1) (g.2.1) (g.2.2.1) (g.2.2.2.1) (g.2.2.2.2.1) (g.2.2.2.2.2)) (fun g => R (g.1) (g.2.1) (g.2.2.1) (g.2.2.2.1) (g.2.2.2.2.1) (g.2.2.2.2.2)) (fun g m => I (g.1) (g.2.1) (g.2.2.1) (g.2.2.2.1) (g.2.2.2.2.1) (g.2.2.2.2.2) m) (fun g => J (g.1) (g.2.1) (g.2.2.1) (g.2.2.2.1) (g.2.2.2.2.1) (g.2.2.2.2.2)) (i0, i1, i2, i3, i4, i5) n₀ h₀ hs hd (fun g h => rest (g.1) (g.2.1) (g.2.2.1) (g.2.2.2.1) (g.2.2.2.2.1) (g.2.2.2.2.2) h) fun g m hg a w ha hw => by
    refine wp_mono (round (g.1) (g.2.1) (g.2.2.1) (g.2.2.2.1) (g.2.2.2.2.1) (g.2.2.2.2.2) m hg a w ha hw) fun e a' w' h => ?_
    have key : ∀ a w, (fun a' w' => ∃ g0' g1' g2' g3' g4' g5', J g0' g1' g2' g3' g4' g5' ∧ Has n a' (S g0' g1' g2' g3' g4' g5' ++ τ) ∧ Own M w0 (R g0' g1' g2' g3' g4' g5' ++ H2) w') a w → (fun a' w' => ∃ g' : Γ0 × Γ1 × Γ2 × Γ3 × Γ4 × Γ5, J (g'.1) (g'.2.1) (g'.2.2.1) (g'.2.2.2.1) (g'.2.2.2.2.1) (g'.2.2.2.2.2) ∧ Has n a' (S (g'.1) (g'.2.1) (g'.2.2.1) (g'.2.2.2.1) (g'.2.2.2.2.1) (g'.2.2.2.2.2) ++ τ) ∧ Own M w0 (R (g'.1) (g'.2.1) (g'.2.2.1) (g'.2.2.2.1) (g'.2.2.2.2.1) (g'.2.2.2.2.2) ++ H2) w') a w := fun a w ⟨g0', g1', g2', g3', g4', g5', h1, h2, h3⟩ => ⟨(g0', g1', g2', g3', g4', g5'), h1, h2, h3⟩
    cases e with
    | normal => obtain ⟨g0', g1', g2', g3', g4', g5', m', h1, h2, h3, h4⟩ := h; exact ⟨(g0', g1', g2', g3', g4', g5'), m', h1, h2, h3, h4⟩
    | exit j =>
      simp only [Exit.then, Exit.inBlock] at h ⊢
      split at h
      · rename_i hj; rw [if_pos hj]; exact key _ _ h
      · rename_i hj; rw [if_neg hj]; exact h
    | _ => exact h
theorem WQ.again6 {Γ0 : Type} {Γ1 : Type} {Γ2 : Type} {Γ3 : Type} {Γ4 : Type} {Γ5 : Type} {S : Γ0 → Γ1 → Γ2 → Γ3 → Γ4 → Γ5 → Env} {R : Γ0 → Γ1 → Γ2 → Γ3 → Γ4 → Γ5 → List Res} {H2 : List Res} {I : Γ0 → Γ1 → Γ2 → Γ3 → Γ4 → Γ5 → Nat → Prop} {m : Nat} {τ : Env} (i0 : Γ0) (i1 : Γ1) (i2 : Γ2) (i3 : Γ3) (i4 : Γ4) (i5 : Γ5) (m' : Nat) (hI : I i0 i1 i2 i3 i4 i5 m') (hm : m' < m) (hs : Sub σ (S i0 i1 i2 i3 i4 i5 ++ τ)) (hd : ∀ w, Own M w0 H w → Own M w0 (R i0 i1 i2 i3 i4 i5 ++ H2) w) :
    WK n (Exit.then (fun a' w' => ∃ g0' g1' g2' g3' g4' g5' m', I g0' g1' g2' g3' g4' g5' m' ∧ m' < m ∧ Has n a' (S g0' g1' g2' g3' g4' g5' ++ τ) ∧ Own M w0 (R g0' g1' g2' g3' g4' g5' ++ H2) w') Q .normal) σ (Own M w0 H) := fun a w ha hw => ⟨i0, i1, i2, i3, i4, i5, m', hI, hm, ha.sub hs, hd w hw⟩
theorem WQ.out6 {Γ0 : Type} {Γ1 : Type} {Γ2 : Type} {Γ3 : Type} {Γ4 : Type} {Γ5 : Type} {S : Γ0 → Γ1 → Γ2 → Γ3 → Γ4 → Γ5 → Env} {R : Γ0 → Γ1 → Γ2 → Γ3 → Γ4 → Γ5 → List Res} {H2 : List Res} {J : Γ0 → Γ1 → Γ2 → Γ3 → Γ4 → Γ5 → Prop} {τ : Env} (i0 : Γ0) (i1 : Γ1) (i2 : Γ2) (i3 : Γ3) (i4 : Γ4) (i5 : Γ5) (hJ : J i0 i1 i2 i3 i4 i5) (hs : Sub σ (S i0 i1 i2 i3 i4 i5 ++ τ)) (hd : ∀ w, Own M w0 H w → Own M w0 (R i0 i1 i2 i3 i4 i5 ++ H2) w) :
    WK n (Exit.then (fun a' w' => ∃ g0' g1' g2' g3' g4' g5', J g0' g1' g2' g3' g4' g5' ∧ Has n a' (S g0' g1' g2' g3' g4' g5' ++ τ) ∧ Own M w0 (R g0' g1' g2' g3' g4' g5' ++ H2) w') Q .normal) σ (Own M w0 H) := fun a w ha hw => ⟨i0, i1, i2, i3, i4, i5, hJ, ha.sub hs, hd w hw⟩
theorem WC.joint6 {Γ0 : Type} {Γ1 : Type} {Γ2 : Type} {Γ3 : Type} {Γ4 : Type} {Γ5 : Type} (τ : Env) (S : Γ0 → Γ1 → Γ2 → Γ3 → Γ4 → Γ5 → Env) (R : Γ0 → Γ1 → Γ2 → Γ3 → Γ4 → Γ5 → List Res) {H2 : List Res} (J : Γ0 → Γ1 → Γ2 → Γ3 → Γ4 → Γ5 → Prop) {x y : Code} (hτ : Sub σ τ) (hd : ∀ w, Own M w0 H w → Own M w0 H2 w)
    (rest : ∀ g0 g1 g2 g3 g4 g5, J g0 g1 g2 g3 g4 g5 → WK n (y.wp P Q) (S g0 g1 g2 g3 g4 g5 ++ τ) (Own M w0 (R g0 g1 g2 g3 g4 g5 ++ H2)))
    (hx : WK n (x.wp P (Exit.then (fun a' w' => ∃ g0' g1' g2' g3' g4' g5', J g0' g1' g2' g3' g4' g5' ∧ Has n a' (S g0' g1' g2' g3' g4' g5' ++ τ) ∧ Own M w0 (R g0' g1' g2' g3' g4' g5' ++ H2) w') Q)) σ (Own M w0 H)) : WK n (x.wp P (Exit.then (y.wp P Q) Q)) σ (Own M w0 H) :=
  WC.joint (Γ := Γ0 × Γ1 × Γ2 × Γ3 × Γ4 × Γ5) τ (fun g => S (g.1) (g.2.1) (g.2.2.1) (g.2.2.2.1) (g.2.2.2.2.1) (g.2.2.2.2.2)) (fun g => R (g.1) (g.2.1) (g.2.2.1) (g.2.2.2.1) (g.2.2.2.2.1) (g.2.2.2.2.2)) (fun g => J (g.1) (g.2.1) (g.2.2.1) (g.2.2.2.1) (g.2.2.2.2.1) (g.2.2.2.2.2)) hτ hd (fun g h => rest (g.1) (g.2.1) (g.2.2.1) (g.2.2.2.1) (g.2.2.2.2.1) (g.2.2.2.2.2) h) fun a w ha hw => by
    refine wp_mono (hx a w ha hw) fun e a' w' h => ?_
    cases e with
    | normal => obtain ⟨g0', g1', g2', g3', g4', g5', h1, h2, h3⟩ := h; exact ⟨(g0', g1', g2', g3', g4', g5'), h1, h2, h3⟩
    | _ => exact h
theorem WC.join6 {Γ0 : Type} {Γ1 : Type} {Γ2 : Type} {Γ3 : Type} {Γ4 : Type} {Γ5 : Type} (τ : Env) (S : Γ0 → Γ1 → Γ2 → Γ3 → Γ4 → Γ5 → Env) (R : Γ0 → Γ1 → Γ2 → Γ3 → Γ4 → Γ5 → List Res) {H2 : List Res} (J : Γ0 → Γ1 → Γ2 → Γ3 → Γ4 → Γ5 → Prop) {x y : Code} (hτ : Sub σ τ) (hd : ∀ w, Own M w0 H w → Own M w0 H2 w)
    (rest : ∀ g0 g1 g2 g3 g4 g5, J g0 g1 g2 g3 g4 g5 → WK n (y.wp P Q) (S g0 g1 g2 g3 g4 g5 ++ τ) (Own M w0 (R g0 g1 g2 g3 g4 g5 ++ H2)))
    (hx : WK n (x.wp P (Exit.then (fun a' w' => ∃ g0' g1' g2' g3' g4' g5', J g0' g1' g2' g3' g4' g5' ∧ Has n a' (S g0' g1' g2' g3' g4' g5' ++ τ) ∧ Own M w0 (R g0' g1' g2' g3' g4' g5' ++ H2) w') Q)) σ (Own M w0 H)) : WK n ((x.seq y).wp P Q) σ (Own M w0 H) := WC.seq (WC.joint6 τ S R J hτ hd rest hx)
theorem WC.bloop7 {Γ0 : Type} {Γ1 : Type} {Γ2 : Type} {Γ3 : Type} {Γ4 : Type} {Γ5 : Type} {Γ6 : Type} (τ : Env) (S : Γ0 → Γ1 → Γ2 → Γ3 → Γ4 → Γ5 → Γ6 → Env) (R : Γ0 → Γ1 → Γ2 → Γ3 → Γ4 → Γ5 → Γ6 → List Res) {H2 : List Res} (I : Γ0 → Γ1 → Γ2 → Γ3 → Γ4 → Γ5 → Γ6 → Nat → Prop) (J : Γ0 → Γ1 → Γ2 → Γ3 → Γ4 → Γ5 → Γ6 → Prop) (i0 : Γ0) (i1 : Γ1) (i2 : Γ2) (i3 : Γ3) (i4 : Γ4) (i5 : Γ5) (i6 : Γ6) (n₀ : Nat) {c : Code} (h₀ : I i0 i1 i2 i3 i4 i5 i6 n₀) (hs : Sub σ (S i0 i1 i2 i3 i4 i5 i6 ++ τ)) (hd : ∀ w, Own M w0 H w → Own M w0 (R i0 i1 i2 i3 i4 i5 i6 ++ H2) w)
    (rest : ∀ g0 g1 g2 g3 g4 g5 g6, J g0 g1 g2 g3 g4 g5 g6 → WK n (Q .normal) (S g0 g1 g2 g3 g4 g5 g6 ++ τ) (Own M w0 (R g0 g1 g2 g3 g4 g5 g6 ++ H2)))
    (round : ∀ g0 g1 g2 g3 g4 g5 g6 m, I g0 g1 g2 g3 g4 g5 g6 m → WK n (c.wp P (Exit.then (fun a' w' => ∃ g0' g1' g2' g3' g4' g5' g6' m', I g0' g1' g2' g3' g4' g5' g6' m' ∧ m' < m ∧ Has n a' (S g0' g1' g2' g3' g4' g5' g6' ++ τ) ∧ Own M w0 (R g0' g1' g2' g3' g4' g5' g6' ++ H2) w') (Exit.inBlock id (Exit.then (fun a' w' => ∃ g0' g1' g2' g3' g4' g5' g6', J g0' g1' g2' g3' g4' g5' g6' ∧ Has n a' (S g0' g1' g2' g3' g4' g5' g6' ++ τ) ∧ Own M w0 (R g0' g1' g2' g3' g4' g5' g6' ++ H2) w') Q)))) (S g0 g1 g2 g3 g4 g5 g6 ++ τ) (Own M w0 (R g0 g1 g2 g3 g4 g5 g6 ++ H2))) :
    WK n ((Code.block id (Code.loop c)).wp P Q) σ (Own M w0 H) :=
  WC.bloop (Γ := Γ0 × Γ1 × Γ2 × Γ3 × Γ4 × Γ5 × Γ6) τ (fun g => S (g.1) (g.2.1) (g.2.2.1) (g.2.2.2.1) (g.2.2.2.2.1) (g.2.2.2.2.2.1) (g.2.2.2.2.2.2)) (fun g => R (g.1) (g.2.1) (g.2.2.1) (g.2.2.2.1) (g.2.2.2.2.1) (g.2.2.2.2.2.1) (g.2.2.2.2.2.2)) (fun g m => I (g.1) (g.2.1) (g.2.2.1) (g.2.2.2.1) (g.2.2.2.2.1) (g.2.2.2.2.2.1) (g.2.2.2.2.2.2) m) (fun g => J (g.1) (g.2.1) (g.2.2.1) (g.2.2.2.1) (g.2.2.2.2.1) (g.2.2.2.2.2.1) (g.2.2.2.2.2.2)) (i0, i1, i2, i3, i4, i5, i6) n₀ h₀ hs hd (fun g h => rest (g.1) (g.2.1) (g.2.2.1) (g.2.2.2.1) (g.2.2.2.2.1) (g.2.2.2.2.2.1) (g.2.2.2.2.2.2) h) fun g m hg a w ha hw => by
    refine wp_mono (round (g.1) (g.2.1) (g.2.2.1) (g.2.2.2.1) (g.2.2.2.2.1) (g.2.2.2.2.2.1) (g.2.2.2.2.2.2) m hg a w ha hw) fun e a' w' h => ?_
    have key : ∀ a w, (fun a' w' => ∃ g0' g1' g2' g3' g4' g5' g6', J g0' g1' g2' g3' g4' g5' g6' ∧ Has n a' (S g0' g1' g2' g3' g4' g5' g6' ++ τ) ∧ Own M w0 (R g0' g1' g2' g3' g4' g5' g6' ++ H2) w') a w → (fun a' w' => ∃ g' : Γ0 × Γ1 × Γ2 × Γ3 × Γ4 × Γ5 × Γ6, J (g'.1) (g'.2.1) (g'.2.2.1) (g'.2.2.2.1) (g'.2.2.2.2.1) (g'.2.2.2.2.2.1) (g'.2.2.2.2.2.2) ∧ Has n a' (S (g'.1) (g'.2.1) (g'.2.2.1) (g'.2.2.2.1) (g'.2.2.2.2.1) (g'.2.2.2.2.2.1) (g'.2.2.2.2.2.2) ++ τ) ∧ Own M w0 (R (g'.1) (g'.2.1) (g'.2.2.1) (g'.2.2.2.1) (g'.2.2.2.2.1) (g'.2.2.2.2.2.1) (g'.2.2.2.2.2.2) ++ H2) w') a w := fun a w ⟨g0', g1', g2', g3', g4', g5', g6', h1, h2, h3⟩ => ⟨(g0', g1', g2', g3', g4', g5', g6'), h1, h2, h3⟩
    cases e with
    | normal => obtain ⟨g0', g1', g2', g3', g4', g5', g6', m', h1, h2, h3, h4⟩ := h; exact ⟨(g0', g1', g2', g3', g4', g5', g6'), m', h1, h2, h3, h4⟩
    | exit j =>
      simp only [Exit.then, Exit.inBlock] at h ⊢
      split at h
      · rename_i hj; rw [if_pos hj]; exact key _ _ h
      · rename_i hj; rw [if_neg hj]; exact h
    | _ => exact h
theorem WQ.again7 {Γ0 : Type} {Γ1 : Type} {Γ2 : Type} {Γ3 : Type} {Γ4 : Type} {Γ5 : Type} {Γ6 : Type} {S : Γ0 → Γ1 → Γ2 → Γ3 → Γ4 → Γ5 → Γ6 → Env} {R : Γ0 → Γ1 → Γ2 → Γ3 → Γ4 → Γ5 → Γ6 → List Res} {H2 : List Res} {I : Γ0 → Γ1 → Γ2 → Γ3 → Γ4 → Γ5 → Γ6 → Nat → Prop} {m : Nat} {τ : Env} (i0 : Γ0) (i1 : Γ1) (i2 : Γ2) (i3 : Γ3) (i4 : Γ4) (i5 : Γ5) (i6 : Γ6) (m' : Nat) (hI : I i0 i1 i2 i3 i4 i5 i6 m') (hm : m' < m) (hs : Sub σ (S i0 i1 i2 i3 i4 i5 i6 ++ τ)) (hd : ∀ w, Own M w0 H w → Own M w0 (R i0 i1 i2 i3 i4 i5 i6 ++ H2) w) :
    WK n (Exit.then (fun a' w' => ∃ g0' g1' g2' g3' g4' g5' g6' m', I g0' g1' g2' g3' g4' g5' g6' m' ∧ m' < m ∧ Has n a' (S g0' g1' g2' g3' g4' g5' g6' ++ τ) ∧ Own M w0 (R g0' g1' g2' g3' g4' g5' g6' ++ H2) w') Q .normal) σ (Own M w0 H) := fun a w ha hw => ⟨i0, i1, i2, i3, i4, i5, i6, m', hI, hm, ha.sub hs, hd w hw⟩
theorem WQ.out7 {Γ0 : Type} {Γ1 : Type} {Γ2 : Type} {Γ3 : Type} {Γ4 : Type} {Γ5 : Type} {Γ6 : Type} {S : Γ0 → Γ1 → Γ2 → Γ3 → Γ4 → Γ5 → Γ6 → Env} {R : Γ0 → Γ1 → Γ2 → Γ3 → Γ4 → Γ5 → Γ6 → List Res} {H2 : List Res} {J : Γ0 → Γ1 → Γ2 → Γ3 → Γ4 → Γ5 → Γ6 → Prop} {τ : Env} (i0 : Γ0) (i1 : Γ1) (i2 : Γ2) (i3 : Γ3) (i4 : Γ4) (i5 : Γ5) (i6 : Γ6) (hJ : J i0 i1 i2 i3 i4 i5 i6) (hs : Sub σ (S i0 i1 i2 i3 i4 i5 i6 ++ τ)) (hd : ∀ w, Own M w0 H w → Own M w0 (R i0 i1 i2 i3 i4 i5 i6 ++ H2) w) :
    WK n (Exit.then (fun a' w' => ∃ g0' g1' g2' g3' g4' g5' g6', J g0' g1' g2' g3' g4' g5' g6' ∧ Has n a' (S g0' g1' g2' g3' g4' g5' g6' ++ τ) ∧ Own M w0 (R g0' g1' g2' g3' g4' g5' g6' ++ H2) w') Q .normal) σ (Own M w0 H) := fun a w ha hw => ⟨i0, i1, i2, i3, i4, i5, i6, hJ, ha.sub hs, hd w hw⟩
theorem WC.joint7 {Γ0 : Type} {Γ1 : Type} {Γ2 : Type} {Γ3 : Type} {Γ4 : Type} {Γ5 : Type} {Γ6 : Type} (τ : Env) (S : Γ0 → Γ1 → Γ2 → Γ3 → Γ4 → Γ5 → Γ6 → Env) (R : Γ0 → Γ1 → Γ2 → Γ3 → Γ4 → Γ5 → Γ6 → List Res) {H2 : List Res} (J : Γ0 → Γ1 → Γ2 → Γ3 → Γ4 → Γ5 → Γ6 → Prop) {x y : Code} (hτ : Sub σ τ) (hd : ∀ w, Own M w0 H w → Own M w0 H2 w)
    (rest : ∀ g0 g1 g2 g3 g4 g5 g6, J g0 g1 g2 g3 g4 g5 g6 → WK n (y.wp P Q) (S g0 g1 g2 g3 g4 g5 g6 ++ τ) (Own M w0 (R g0 g1 g2 g3 g4 g5 g6 ++ H2)))
    (hx : WK n (x.wp P (Exit.then (fun a' w' => ∃ g0' g1' g2' g3' g4' g5' g6', J g0' g1' g2' g3' g4' g5' g6' ∧ Has n a' (S g0' g1' g2' g3' g4' g5' g6' ++ τ) ∧ Own M w0 (R g0' g1' g2' g3' g4' g5' g6' ++ H2) w') Q)) σ (Own M w0 H)) : WK n (x.wp P (Exit.then (y.wp P Q) Q)) σ (Own M w0 H) :=
  WC.joint (Γ := Γ0 × Γ1 × Γ2 × Γ3 × Γ4 × Γ5 × Γ6) τ (fun g => S (g.1) (g.2.1) (g.2.2.1) (g.2.2.2.1) (g.2.2.2.2.1) (g.2.2.2.2.2.1) (g.2.2.2.2.2.2)) (fun g => R (g.1) (g.2.1) (g.2.2.1) (g.2.2.2.1) (g.2.2.2.2.1) (g.2.2.2.2.2.1) (g.2.2.2.2.2.2)) (fun g => J (g.1) (g.2.1) (g.2.2.1) (g.2.2.2.1) (g.2.2.2.2.1) (g.2.2.2.2.2.1) (g.2.2.2.2.2.2)) hτ hd (fun g h => rest (g.1) (g.2.1) (g.2.2.1) (g.2.2.2.1) (g.2.2.2.2.1) (g.2.2.2.2.2.1) (g.2.2.2.2.2.2) h) fun a w ha hw => by
    refine wp_mono (hx a w ha hw) fun e a' w' h => ?_
    cases e with
    | normal => obtain ⟨g0', g1', g2', g3', g4', g5', g6', h1, h2, h3⟩ := h; exact ⟨(g0', g1', g2', g3', g4', g5', g6'), h1, h2, h3⟩
    | _ => exact h
theorem WC.join7 {Γ0 : Type} {Γ1 : Type} {Γ2 : Type} {Γ3 : Type} {Γ4 : Type} {Γ5 : Type} {Γ6 : Type} (τ : Env) (S : Γ0 → Γ1 → Γ2 → Γ3 → Γ4 → Γ5 → Γ6 → Env) (R : Γ0 → Γ1 → Γ2 → Γ3 → Γ4 → Γ5 → Γ6 → List Res) {H2 : List Res} (J : Γ0 → Γ1 → Γ2 → Γ3 → Γ4 → Γ5 → Γ6 → Prop) {x y : Code} (hτ : Sub σ τ) (hd : ∀ w, Own M w0 H w → Own M w0 H2 w)
    (rest : ∀ g0 g1 g2 g3 g4 g5 g6, J g0 g1 g2 g3 g4 g5 g6 → WK n (y.wp P Q) (S g0 g1 g2 g3 g4 g5 g6 ++ τ) (Own M w0 (R g0 g1 g2 g3 g4 g5 g6 ++ H2)))
    (hx : WK n (x.wp P (Exit.then (fun a' w' => ∃ g0' g1' g2' g3' g4' g5' g6', J g0' g1' g2' g3' g4' g5' g6' ∧ Has n a' (S g0' g1' g2' g3' g4' g5' g6' ++ τ) ∧ Own M w0 (R g0' g1' g2' g3' g4' g5' g6' ++ H2) w') Q)) σ (Own M w0 H)) : WK n ((x.seq y).wp P Q) σ (Own M w0 H) := WC.seq (WC.joint7 τ S R J hτ hd rest hx)
theorem WC.bloop8 {Γ0 : Type} {Γ1 : Type} {Γ2 : Type} {Γ3 : Type} {Γ4 : Type} {Γ5 : Type} {Γ6 : Type} {Γ7 : Type} (τ : Env) (S : Γ0 → Γ1 → Γ2 → Γ3 → Γ4 → Γ5 → Γ6 → Γ7 → Env) (R : Γ0 → Γ1 → Γ2 → Γ3 → Γ4 → Γ5 → Γ6 → Γ7 → List Res) {H2 : List Res} (I : Γ0 → Γ1 → Γ2 → Γ3 → Γ4 → Γ5 → Γ6 → Γ7 → Nat → Prop) (J : Γ0 → Γ1 → Γ2 → Γ3 → Γ4 → Γ5 → Γ6 → Γ7 → Prop) (i0 : Γ0) (i1 : Γ1) (i2 : Γ2) (i3 : Γ3) (i4 : Γ4) (i5 : Γ5) (i6 : Γ6) (i7 : Γ7) (n₀ : Nat) {c : Code} (h₀ : I i0 i1 i2 i3 i4 i5 i6 i7 n₀) (hs : Sub σ (S i0 i1 i2 i3 i4 i5 i6 i7 ++ τ)) (hd : ∀ w, Own M w0 H w → Own M w0 (R i0 i1 i2 i3 i4 i5 i6 i7 ++ H2) w)
    (rest : ∀ g0 g1 g2 g3 g4 g5 g6 g7, J g0 g1 g2 g3 g4 g5 g6 g7 → WK n (Q .normal) (S g0 g1 g2 g3 g4 g5 g6 g7 ++ τ) (Own M w0 (R g0 g1 g2 g3 g4 g5 g6 g7 ++ H2)))
    (round : ∀ g0 g1 g2 g3 g4 g5 g6 g7 m, I g0 g1 g2 g3 g4 g5 g6 g7 m → WK n (c.wp P (Exit.then (fun a' w' => ∃ g0' g1' g2' g3' g4' g5' g6' g7' m', I g0' g1' g2' g3' g4' g5' g6' g7' m' ∧ m' < m ∧ Has n a' (S g0' g1' g2' g3' g4' g5' g6' g7' ++ τ) ∧ Own M w0 (R g0' g1' g2' g3' g4' g5' g6' g7' ++ H2) w') (Exit.inBlock id (Exit.then (fun a' w' => ∃ g0' g1' g2' g3' g4' g5' g6' g7', J g0' g1' g2' g3' g4' g5' g6' g7' ∧ Has n a' (S g0' g1' g2' g3' g4' g5' g6' g7' ++ τ) ∧ Own M w0 (R g0' g1' g2' g3' g4' g5' g6' g7' ++ H2) w') Q)))) (S g0 g1 g2 g3 g4 g5 g6 g7 ++ τ) (Own M w0 (R g0 g1 g2 g3 g4 g5 g6 g7 ++ H2))) :
    WK n ((Code.block id (Code.loop c)).wp P Q) σ (Own M w0 H) :=
  WC.bloop (Γ := Γ0 × Γ1 × Γ2 × Γ3 × Γ4 × Γ5 × Γ6 × Γ7) τ (fun g => S (g.1) (g.2.1) (g.2.2.1) (g.2.2.2.1) (g.2.2.2.2.1) (g.2.2.2.2.2.1) (g.2.2.2.2.2.2.1) (g.2.2.2.2.2.2.2)) (fun g => R (g.1) (g.2.1) (g.2.2.1) (g.2.2.2.1) (g.2.2.2.2.1) (g.2.2.2.2.2.1) (g.2.2.2.2.2.2.1) (g.2.2.2.2.2.2.2)) (fun g m => I (g.1) (g.2.1) (g.2.2.1) (g.2.2.2.1) (g.2.2.2.2.1) (g.2.2.2.2.2.1) (g.2.2.2.2.2.2.1) (g.2.2.2.2.2.2.2) m) (fun g => J (g.1) (g.2.1) (g.2.2.1) (g.2.2.2.1) (g.2.2.2.2.1) (g.2.2.2.2.2.1) (g.2.2.2.2.2.2.1) (g.2.2.2.2.2.2.2)) (i0, i1, i2, i3, i4, i5, i6, i7) n₀ h₀ hs hd (fun g h => rest (g.1) (g.2.1) (g.2.2.1) (g.2.2.2.1) (g.2.2.2.2.1) (g.2.2.2.2.2.1) (g.2.2.2.2.2.2.1) (g.2.2.2.2.2.2.2) h) fun g m hg a w ha hw => by
    refine wp_mono (round (g.1) (g.2.1) (g.2.2.1) (g.2.2.2.1) (g.2.2.2.2.1) (g.2.2.2.2.2.1) (g.2.2.2.2.2.2.1) (g.2.2.2.2.2.2.2) m hg a w ha hw) fun e a' w' h => ?_
    have key : ∀ a w, (fun a' w' => ∃ g0' g1' g2' g3' g4' g5' g6' g7', J g0' g1' g2' g3' g4' g5' g6' g7' ∧ Has n a' (S g0' g1' g2' g3' g4' g5' g6' g7' ++ τ) ∧ Own M w0 (R g0' g1' g2' g3' g4' g5' g6' g7' ++ H2) w') a w → (fun a' w' => ∃ g' : Γ0 × Γ1 × Γ2 × Γ3 × Γ4 × Γ5 × Γ6 × Γ7, J (g'.1) (g'.2.1) (g'.2.2.1) (g'.2.2.2.1) (g'.2.2.2.2.1) (g'.2.2.2.2.2.1) (g'.2.2.2.2.2.2.1) (g'.2.2.2.2.2.2.2) ∧ Has n a' (S (g'.1) (g'.2.1) (g'.2.2.1) (g'.2.2.2.1) (g'.2.2.2.2.1) (g'.2.2.2.2.2.1) (g'.2.2.2.2.2.2.1) (g'.2.2.2.2.2.2.2) ++ τ) ∧ Own M w0 (R (g'.1) (g'.2.1) (g'.2.2.1) (g'.2.2.2.1) (g'.2.2.2.2.1) (g'.2.2.2.2.2.1) (g'.2.2.2.2.2.2.1) (g'.2.2.2.2.2.2.2) ++ H2) w') a w := fun a w ⟨g0', g1', g2', g3', g4', g5', g6', g7', h1, h2, h3⟩ => ⟨(g0', g1', g2', g3', g4', g5', g6', g7'), h1, h2, h3⟩
    cases e with
    | normal => obtain ⟨g0', g1', g2', g3', g4', g5', g6', g7', m', h1, h2, h3, h4⟩ := h; exact ⟨(g0', g1', g2', g3', g4', g5', g6', g7'), m', h1, h2, h3, h4⟩
    | exit j =>
      simp only [Exit.then, Exit.inBlock] at h ⊢
      split at h
      · rename_i hj; rw [if_pos hj]; exact key _ _ h
      · rename_i hj; rw [if_neg hj]; exact h
    | _ => exact h
theorem WQ.again8 {Γ0 : Type} {Γ1 : Type} {Γ2 : Type} {Γ3 : Type} {Γ4 : Type} {Γ5 : Type} {Γ6 : Type} {Γ7 : Type} {S : Γ0 → Γ1 → Γ2 → Γ3 → Γ4 → Γ5 → Γ6 → Γ7 → Env} {R : Γ0 → Γ1 → Γ2 → Γ3 → Γ4 → Γ5 → Γ6 → Γ7 → List Res} {H2 : List Res} {I : Γ0 → Γ1 → Γ2 → Γ3 → Γ4 → Γ5 → Γ6 → Γ7 → Nat → Prop} {m : Nat} {τ : Env} (i0 : Γ0) (i1 : Γ1) (i2 : Γ2) (i3 : Γ3) (i4 : Γ4) (i5 : Γ5) (i6 : Γ6) (i7 : Γ7) (m' : Nat) (hI : I i0 i1 i2 i3 i4 i5 i6 i7 m') (hm : m' < m) (hs : Sub σ (S i0 i1 i2 i3 i4 i5 i6 i7 ++ τ)) (hd : ∀ w, Own M w0 H w → Own M w0 (R i0 i1 i2 i3 i4 i5 i6 i7 ++ H2) w) :
    WK n (Exit.then (fun a' w' => ∃ g0' g1' g2' g3' g4' g5' g6' g7' m', I g0' g1' g2' g3' g4' g5' g6' g7' m' ∧ m' < m ∧ Has n a' (S g0' g1' g2' g3' g4' g5' g6' g7' ++ τ) ∧ Own M w0 (R g0' g1' g2' g3' g4' g5' g6' g7' ++ H2) w') Q .normal) σ (Own M w0 H) := fun a w ha hw => ⟨i0, i1, i2, i3, i4, i5, i6, i7, m', hI, hm, ha.sub hs, hd w hw⟩
theorem WQ.out8 {Γ0 : Type} {Γ1 : Type} {Γ2 : Type} {Γ3 : Type} {Γ4 : Type} {Γ5 : Type} {Γ6 : Type} {Γ7 : Type} {S : Γ0 → Γ1 → Γ2 → Γ3 → Γ4 → Γ5 → Γ6 → Γ7 → Env} {R : Γ0 → Γ1 → Γ2 → Γ3 → Γ4 → Γ5 → Γ6 → Γ7 → List Res} {H2 : List Res} {J : Γ0 → Γ1 → Γ2 → Γ3 → Γ4 → Γ5 → Γ6 → Γ7 → Prop} {τ : Env} (i0 : Γ0) (i1 : Γ1) (i2 : Γ2) (i3 : Γ3) (i4 : Γ4) (i5 : Γ5) (i6 : Γ6) (i7 : Γ7) (hJ : J i0 i1 i2 i3 i4 i5 i6 i7) (hs : Sub σ (S i0 i1 i2 i3 i4 i5 i6 i7 ++ τ)) (hd : ∀ w, Own M w0 H w → Own M w0 (R i0 i1 i2 i3 i4 i5 i6 i7 ++ H2) w) :
    WK n (Exit.then (fun a' w' => ∃ g0' g1' g2' g3' g4' g5' g6' g7', J g0' g1' g2' g3' g4' g5' g6' g7' ∧ Has n a' (S g0' g1' g2' g3' g4' g5' g6' g7' ++ τ) ∧ Own M w0 (R g0' g1' g2' g3' g4' g5' g6' g7' ++ H2) w') Q .normal) σ (Own M w0 H) := fun a w ha hw => ⟨i0, i1, i2, i3, i4, i5, i6, i7, hJ, ha.sub hs, hd w hw⟩
theorem WC.joint8 {Γ0 : Type} {Γ1 : Type} {Γ2 : Type} {Γ3 : Type} {Γ4 : Type} {Γ5 : Type} {Γ6 : Type} {Γ7 : Type} (τ : Env) (S : Γ0 → Γ1 → Γ2 → Γ3 → Γ4 → Γ5 → Γ6 → Γ7 → Env) (R : Γ0 → Γ1 → Γ2 → Γ3 → Γ4 → Γ5 → Γ6 → Γ7 → List Res) {H2 : List Res} (J : Γ0 → Γ1 → Γ2 → Γ3 → Γ4 → Γ5 → Γ6 → Γ7 → Prop) {x y : Code} (hτ : Sub σ τ) (hd : ∀ w, Own M w0 H w → Own M w0 H2 w)
    (rest : ∀ g0 g1 g2 g3 g4 g5 g6 g7, J g0 g1 g2 g3 g4 g5 g6 g7 → WK n (y.wp P Q) (S g0 g1 g2 g3 g4 g5 g6 g7 ++ τ) (Own M w0 (R g0 g1 g2 g3 g4 g5 g6 g7 ++ H2)))
    (hx : WK n (x.wp P (Exit.then (fun a' w' => ∃ g0' g1' g2' g3' g4' g5' g6' g7', J g0' g1' g2' g3' g4' g5' g6' g7' ∧ Has n a' (S g0' g1' g2' g3' g4' g5' g6' g7' ++ τ) ∧ Own M w0 (R g0' g1' g2' g3' g4' g5' g6' g7' ++ H2) w') Q)) σ (Own M w0 H)) : WK n (x.wp P (Exit.then (y.wp P Q) Q)) σ (Own M w0 H) :=
  WC.joint (Γ := Γ0 × Γ1 × Γ2 × Γ3 × Γ4 × Γ5 × Γ6 × Γ7) τ (fun g => S (g.1) (g.2.1) (g.2.2.1) (g.2.2.2.1) (g.2.2.2.2.1) (g.2.2.2.2.2.1) (g.2.2.2.2.2.2.1) (g.2.2.2.2.2.2.2)) (fun g => R (g.1) (g.2.1) (g.2.2.1) (g.2.2.2.1) (g.2.2.2.2.1) (g.2.2.2.2.2.1) (g.2.2.2.2.2.2.1) (g.2.2.2.2.2.2.2)) (fun g => J (g.1) (g.2.1) (g.2.2.1) (g.2.2.2.1) (g.2.2.2.2.1) (g.2.2.2.2.2.1) (g.2.2.2.2.2.2.1) (g.2.2.2.2.2.2.2)) hτ hd (fun g h => rest (g.1) (g.2.1) (g.2.2.1) (g.2.2.2.1) (g.2.2.2.2.1) (g.2.2.2.2.2.1) (g.2.2.2.2.2.2.1) (g.2.2.2.2.2.2.2) h) fun a w ha hw => by
    refine wp_mono (hx a w ha hw) fun e a' w' h => ?_
    cases e with
    | normal => obtain ⟨g0', g1', g2', g3', g4', g5', g6', g7', h1, h2, h3⟩ := h; exact ⟨(g0', g1', g2', g3', g4', g5', g6', g7'), h1, h2, h3⟩
    | _ => exact h
theorem WC.join8 {Γ0 : Type} {Γ1 : Type} {Γ2 : Type} {Γ3 : Type} {Γ4 : Type} {Γ5 : Type} {Γ6 : Type} {Γ7 : Type} (τ : Env) (S : Γ0 → Γ1 → Γ2 → Γ3 → Γ4 → Γ5 → Γ6 → Γ7 → Env) (R : Γ0 → Γ1 → Γ2 → Γ3 → Γ4 → Γ5 → Γ6 → Γ7 → List Res) {H2 : List Res} (J : Γ0 → Γ1 → Γ2 → Γ3 → Γ4 → Γ5 → Γ6 → Γ7 → Prop) {x y : Code} (hτ : Sub σ τ) (hd : ∀ w, Own M w0 H w → Own M w0 H2 w)
    (rest : ∀ g0 g1 g2 g3 g4 g5 g6 g7, J g0 g1 g2 g3 g4 g5 g6 g7 → WK n (y.wp P Q) (S g0 g1 g2 g3 g4 g5 g6 g7 ++ τ) (Own M w0 (R g0 g1 g2 g3 g4 g5 g6 g7 ++ H2)))
    (hx : WK n (x.wp P (Exit.then (fun a' w' => ∃ g0' g1' g2' g3' g4' g5' g6' g7', J g0' g1' g2' g3' g4' g5' g6' g7' ∧ Has n a' (S g0' g1' g2' g3' g4' g5' g6' g7' ++ τ) ∧ Own M w0 (R g0' g1' g2' g3' g4' g5' g6' g7' ++ H2) w') Q)) σ (Own M w0 H)) : WK n ((x.seq y).wp P Q) σ (Own M w0 H) := WC.seq (WC.joint8 τ S R J hτ hd rest hx)
theorem WC.bloop9 {Γ0 : Type} {Γ1 : Type} {Γ2 : Type} {Γ3 : Type} {Γ4 : Type} {Γ5 : Type} {Γ6 : Type} {Γ7 : Type} {Γ8 : Type} (τ : Env) (S : Γ0 → Γ1 → Γ2 → Γ3 → Γ4 → Γ5 → Γ6 → Γ7 → Γ8 → Env) (R : Γ0 → Γ1 → Γ2 → Γ3 → Γ4 → Γ5 → Γ6 → Γ7 → Γ8 → List Res) {H2 : List Res} (I : Γ0 → Γ1 → Γ2 → Γ3 → Γ4 → Γ5 → Γ6 → Γ7 → Γ8 → Nat → Prop) (J : Γ0 → Γ1 → Γ2 → Γ3 → Γ4 → Γ5 → Γ6 → Γ7 → Γ8 → Prop) (i0 : Γ0) (i1 : Γ1) (i2 : Γ2) (i3 : Γ3) (i4 : Γ4) (i5 : Γ5) (i6 : Γ6) (i7 : Γ7) (i8 : Γ8) (n₀ : Nat) {c : Code} (h₀ : I i0 i1 i2 i3 i4 i5 i6 i7 i8 n₀) (hs : Sub σ (S i0 i1 i2 i3 i4 i5 i6 i7 i8 ++ τ)) (hd : ∀ w, Own M w0 H w → Own M w0 (R i0 i1 i2 i3 i4 i5 i6 i7 i8 ++ H2) w)
    (rest : ∀ g0 g1 g2 g3 g4 g5 g6 g7 g8, J g0 g1 g2 g3 g4 g5 g6 g7 g8 → WK n (Q .normal) (S g0 g1 g2 g3 g4 g5 g6 g7 g8 ++ τ) (Own M w0 (R g0 g1 g2 g3 g4 g5 g6 g7 g8 ++ H2)))
    (round : ∀ g0 g1 g2 g3 g4 g5 g6 g7 g8 m, I g0 g1 g2 g3 g4 g5 g6 g7 g8 m → WK n (c.wp P (Exit.then (fun a' w' => ∃ g0' g1' g2' g3' g4' g5' g6' g7' g8' m', I g0' g1' g2' g3' g4' g5' g6' g7' g8' m' ∧ m' < m ∧ Has n a' (S g0' g1' g2' g3' g4' g5' g6' g7' g8' ++ τ) ∧ Own M w0 (R g0' g1' g2' g3' g4' g5' g6' g7' g8' ++ H2) w') (Exit.inBlock id (Exit.then (fun a' w' => ∃ g0' g1' g2' g3' g4' g5' g6' g7' g8', J g0' g1' g2' g3' g4' g5' g6' g7' g8' ∧ Has n a' (S g0' g1' g2' g3' g4' g5' g6' g7' g8' ++ τ) ∧ Own M w0 (R g0' g1' g2' g3' g4' g5' g6' g7' g8' ++ H2) w') Q)))) (S g0 g1 g2 g3 g4 g5 g6 g7 g8 ++ τ) (Own M w0 (R g0 g1 g2 g3 g4 g5 g6 g7 g8 ++ H2))) :
    WK n ((Code.block id (Code.loop c)).wp P Q) σ (Own M w0 H) :=
  WC.bloop (Γ := Γ0 × Γ1 × Γ2 × Γ3 × Γ4 × Γ5 × Γ6 × Γ7 × Γ8) τ (fun g => S (g.1) (g.2.1) (g.2.2.1) (g.2.2.2.1) (g.2.2.2.2.1) (g.2.2.2.2.2.1) (g.2.2.2.2.2.2.1) (g.2.2.2.2.2.2.2.1) (g.2.2.2.2.2.2.2.2)) (fun g => R (g.1) (g.2.1) (g.2.2.1) (g.2.2.2.1) (g.2.2.2.2.1) (g.2.2.2.2.2.1) (g.2.2.2.2.2.2.1) (g.2.2.2.2.2.2.2.1) (g.2.2.2.2.2.2.2.2)) (fun g m => I (g.1) (g.2.1) (g.2.2.1) (g.2.2.2.1) (g.2.2.2.2.1) (g.2.2.2.2.2.1) (g.2.2.2.2.2.2.1) (g.2.2.2.2.2.2.2.1) (g.2.2.2.2.2.2.2.2) m) (fun g => J (g.1) (g.2.1) (g.2.2.1) (g.2.2.2.1) (g.2.2.2.2.1) (g.2.2.2.2.2.1) (g.2.2.2.2.2.2.1) (g.2.2.2.2.2.2.2.1) (g.2.2.2.2.2.2.2.2)) (i0, i1, i2, i3, i4, i5, i6, i7, i8) n₀ h₀ hs hd (fun g h => rest (g.1) (g.2.1) (g.2.2.1) (g.2.2.2.1) (g.2.2.2.2.1) (g.2.2.2.2.2.1) (g.2.2.2.2.2.2.1) (g.2.2.2.2.2.2.2.1) (g.2.2.2.2.2.2.2.2) h) fun g m hg a w ha hw => by
    refine wp_mono (round (g.1) (g.2.1) (g.2.2.1) (g.2.2.2.1) (g.2.2.2.2.1) (g.2.2.2.2.2.1) (g.2.2.2.2.2.2.1) (g.2.2.2.2.2.2.2.1) (g.2.2.2.2.2.2.2.2) m hg a w ha hw) fun e a' w' h => ?_
    have key : ∀ a w, (fun a' w' => ∃ g0' g1' g2' g3' g4' g5' g6' g7' g8', J g0' g1' g2' g3' g4' g5' g6' g7' g8' ∧ Has n a' (S g0' g1' g2' g3' g4' g5' g6' g7' g8' ++ τ) ∧ Own M w0 (R g0' g1' g2' g3' g4' g5' g6' g7' g8' ++ H2) w') a w → (fun a' w' => ∃ g' : Γ0 × Γ1 × Γ2 × Γ3 × Γ4 × Γ5 × Γ6 × Γ7 × Γ8, J (g'.1) (g'.2.1) (g'.2.2.1) (g'.2.2.2.1) (g'.2.2.2.2.1) (g'.2.2.2.2.2.1) (g'.2.2.2.2.2.2.1) (g'.2.2.2.2.2.2.2.1) (g'.2.2.2.2.2.2.2.2) ∧ Has n a' (S (g'.1) (g'.2.1) (g'.2.2.1) (g'.2.2.2.1) (g'.2.2.2.2.1) (g'.2.2.2.2.2.1) (g'.2.2.2.2.2.2.1) (g'.2.2.2.2.2.2.2.1) (g'.2.2.2.2.2.2.2.2) ++ τ) ∧ Own M w0 (R (g'.1) (g'.2.1) (g'.2.2.1) (g'.2.2.2.1) (g'.2.2.2.2.1) (g'.2.2.2.2.2.1) (g'.2.2.2.2.2.2.1) (g'.2.2.2.2.2.2.2.1) (g'.2.2.2.2.2.2.2.2) ++ H2) w') a w := fun a w ⟨g0', g1', g2', g3', g4', g5', g6', g7', g8', h1, h2, h3⟩ => ⟨(g0', g1', g2', g3', g4', g5', g6', g7', g8'), h1, h2, h3⟩
    cases e with
    | normal => obtain ⟨g0', g1', g2', g3', g4', g5', g6', g7', g8', m', h1, h2, h3, h4⟩ := h; exact ⟨(g0', g1', g2', g3', g4', g5', g6', g7', g8'), m', h1, h2, h3, h4⟩
    | exit j =>
      simp only [Exit.then, Exit.inBlock] at h ⊢
      split at h
      · rename_i hj; rw [if_pos hj]; exact key _ _ h
      · rename_i hj; rw [if_neg hj]; exact h
    | _ => exact h
theorem WQ.again9 {Γ0 : Type} {Γ1 : Type} {Γ2 : Type} {Γ3 : Type} {Γ4 : Type} {Γ5 : Type} {Γ6 : Type} {Γ7 : Type} {Γ8 : Type} {S : Γ0 → Γ1 → Γ2 → Γ3 → Γ4 → Γ5 → Γ6 → Γ7 → Γ8 → Env} {R : Γ0 → Γ1 → Γ2 → Γ3 → Γ4 → Γ5 → Γ6 → Γ7 → Γ8 → List Res} {H2 : List Res} {I : Γ0 → Γ1 → Γ2 → Γ3 → Γ4 → Γ5 → Γ6 → Γ7 → Γ8 → Nat → Prop} {m : Nat} {τ : Env} (i0 : Γ0) (i1 : Γ1) (i2 : Γ2) (i3 : Γ3) (i4 : Γ4) (i5 : Γ5) (i6 : Γ6) (i7 : Γ7) (i8 : Γ8) (m' : Nat) (hI : I i0 i1 i2 i3 i4 i5 i6 i7 i8 m') (hm : m' < m) (hs : Sub σ (S i0 i1 i2 i3 i4 i5 i6 i7 i8 ++ τ)) (hd : ∀ w, Own M w0 H w → Own M w0 (R i0 i1 i2 i3 i4 i5 i6 i7 i8 ++ H2) w) :
    WK n (Exit.then (fun a' w' => ∃ g0' g1' g2' g3' g4' g5' g6' g7' g8' m', I g0' g1' g2' g3' g4' g5' g6' g7' g8' m' ∧ m' < m ∧ Has n a' (S g0' g1' g2' g3' g4' g5' g6' g7' g8' ++ τ) ∧ Own M w0 (R g0' g1' g2' g3' g4' g5' g6' g7' g8' ++ H2) w') Q .normal) σ (Own M w0 H) := fun a w ha hw => ⟨i0, i1, i2, i3, i4, i5, i6, i7, i8, m', hI, hm, ha.sub hs, hd w hw⟩
theorem WQ.out9 {Γ0 : Type} {Γ1 : Type} {Γ2 : Type} {Γ3 : Type} {Γ4 : Type} {Γ5 : Type} {Γ6 : Type} {Γ7 : Type} {Γ8 : Type} {S : Γ0 → Γ1 → Γ2 → Γ3 → Γ4 → Γ5 → Γ6 → Γ7 → Γ8 → Env} {R : Γ0 → Γ1 → Γ2 → Γ3 → Γ4 → Γ5 → Γ6 → Γ7 → Γ8 → List Res} {H2 : List Res} {J : Γ0 → Γ1 → Γ2 → Γ3 → Γ4 → Γ5 → Γ6 → Γ7 → Γ8 → Prop} {τ : Env} (i0 : Γ0) (i1 : Γ1) (i2 : Γ2) (i3 : Γ3) (i4 : Γ4) (i5 : Γ5) (i6 : Γ6) (i7 : Γ7) (i8 : Γ8) (hJ : J i0 i1 i2 i3 i4 i5 i6 i7 i8) (hs : Sub σ (S i0 i1 i2 i3 i4 i5 i6 i7 i8 ++ τ)) (hd : ∀ w, Own M w0 H w → Own M w0 (R i0 i1 i2 i3 i4 i5 i6 i7 i8 ++ H2) w) :
    WK n (Exit.then (fun a' w' => ∃ g0' g1' g2' g3' g4' g5' g6' g7' g8', J g0' g1' g2' g3' g4' g5' g6' g7' g8' ∧ Has n a' (S g0' g1' g2' g3' g4' g5' g6' g7' g8' ++ τ) ∧ Own M w0 (R g0' g1' g2' g3' g4' g5' g6' g7' g8' ++ H2) w') Q .normal) σ (Own M w0 H) := fun a w ha hw => ⟨i0, i1, i2, i3, i4, i5, i6, i7, i8, hJ, ha.sub hs, hd w hw⟩
theorem WC.joint9 {Γ0 : Type} {Γ1 : Type} {Γ2 : Type} {Γ3 : Type} {Γ4 : Type} {Γ5 : Type} {Γ6 : Type} {Γ7 : Type} {Γ8 : Type} (τ : Env) (S : Γ0 → Γ1 → Γ2 → Γ3 → Γ4 → Γ5 → Γ6 → Γ7 → Γ8 → Env) (R : Γ0 → Γ1 → Γ2 → Γ3 → Γ4 → Γ5 → Γ6 → Γ7 → Γ8 → List Res) {H2 : List Res} (J : Γ0 → Γ1 → Γ2 → Γ3 → Γ4 → Γ5 → Γ6 → Γ7 → Γ8 → Prop) {x y : Code} (hτ : Sub σ τ) (hd : ∀ w, Own M w0 H w → Own M w0 H2 w)
    (rest : ∀ g0 g1 g2 g3 g4 g5 g6 g7 g8, J g0 g1 g2 g3 g4 g5 g6 g7 g8 → WK n (y.wp P Q) (S g0 g1 g2 g3 g4 g5 g6 g7 g8 ++ τ) (Own M w0 (R g0 g1 g2 g3 g4 g5 g6 g7 g8 ++ H2)))
    (hx : WK n (x.wp P (Exit.then (fun a' w' => ∃ g0' g1' g2' g3' g4' g5' g6' g7' g8', J g0' g1' g2' g3' g4' g5' g6' g7' g8' ∧ Has n a' (S g0' g1' g2' g3' g4' g5' g6' g7' g8' ++ τ) ∧ Own M w0 (R g0' g1' g2' g3' g4' g5' g6' g7' g8' ++ H2) w') Q)) σ (Own M w0 H)) : WK n (x.wp P (Exit.then (y.wp P Q) Q)) σ (Own M w0 H) :=
  WC.joint (Γ := Γ0 × Γ1 × Γ2 × Γ3 × Γ4 × Γ5 × Γ6 × Γ7 × Γ8) τ (fun g => S (g.1) (g.2.1) (g.2.2.1) (g.2.2.2.1) (g.2.2.2.2.1) (g.2.2.2.2.2.1) (g.2.2.2.2.2.2.1) (g.2.2.2.2.2.2.2.1) (g.2.2.2.2.2.2.2.2)) (fun g => R (g.1) (g.2.1) (g.2.2.1) (g.2.2.2.1) (g.2.2.2.2.1) (g.2.2.2.2.2.1) (g.2.2.2.2.2.2.1) (g.2.2.2.2.2.2.2.1) (g.2.2.2.2.2.2.2.2)) (fun g => J (g.1) (g.2.1) (g.2.2.1) (g.2.2.2.1) (g.2.2.2.2.1) (g.2.2.2.2.2.1) (g.2.2.2.2.2.2.1) (g.2.2.2.2.2.2.2.1) (g.2.2.2.2.2.2.2.2)) hτ hd (fun g h => rest (g.1) (g.2.1) (g.2.2.1) (g.2.2.2.1) (g.2.2.2.2.1) (g.2.2.2.2.2.1) (g.2.2.2.2.2.2.1) (g.2.2.2.2.2.2.2.1) (g.2.2.2.2.2.2.2.2) h) fun a w ha hw => by
    refine wp_mono (hx a w ha hw) fun e a' w' h => ?_
    cases e with
    | normal => obtain ⟨g0', g1', g2', g3', g4', g5', g6', g7', g8', h1, h2, h3⟩ := h; exact ⟨(g0', g1', g2', g3', g4', g5', g6', g7', g8'), h1, h2, h3⟩
    | _ => exact h
theorem WC.join9 {Γ0 : Type} {Γ1 : Type} {Γ2 : Type} {Γ3 : Type} {Γ4 : Type} {Γ5 : Type} {Γ6 : Type} {Γ7 : Type} {Γ8 : Type} (τ : Env) (S : Γ0 → Γ1 → Γ2 → Γ3 → Γ4 → Γ5 → Γ6 → Γ7 → Γ8 → Env) (R : Γ0 → Γ1 → Γ2 → Γ3 → Γ4 → Γ5 → Γ6 → Γ7 → Γ8 → List Res) {H2 : List Res} (J : Γ0 → Γ1 → Γ2 → Γ3 → Γ4 → Γ5 → Γ6 → Γ7 → Γ8 → Prop) {x y : Code} (hτ : Sub σ τ) (hd : ∀ w, Own M w0 H w → Own M w0 H2 w)
    (rest : ∀ g0 g1 g2 g3 g4 g5 g6 g7 g8, J g0 g1 g2 g3 g4 g5 g6 g7 g8 → WK n (y.wp P Q) (S g0 g1 g2 g3 g4 g5 g6 g7 g8 ++ τ) (Own M w0 (R g0 g1 g2 g3 g4 g5 g6 g7 g8 ++ H2)))
    (hx : WK n (x.wp P (Exit.then (fun a' w' => ∃ g0' g1' g2' g3' g4' g5' g6' g7' g8', J g0' g1' g2' g3' g4' g5' g6' g7' g8' ∧ Has n a' (S g0' g1' g2' g3' g4' g5' g6' g7' g8' ++ τ) ∧ Own M w0 (R g0' g1' g2' g3' g4' g5' g6' g7' g8' ++ H2) w') Q)) σ (Own M w0 H)) : WK n ((x.seq y).wp P Q) σ (Own M w0 H) := WC.seq (WC.joint9 τ S R J hτ hd rest hx)
theorem WC.bloop10 {Γ0 : Type} {Γ1 : Type} {Γ2 : Type} {Γ3 : Type} {Γ4 : Type} {Γ5 : Type} {Γ6 : Type} {Γ7 : Type} {Γ8 : Type} {Γ9 : Type} (τ : Env) (S : Γ0 → Γ1 → Γ2 → Γ3 → Γ4 → Γ5 → Γ6 → Γ7 → Γ8 → Γ9 → Env) (R : Γ0 → Γ1 → Γ2 → Γ3 → Γ4 → Γ5 → Γ6 → Γ7 → Γ8 → Γ9 → List Res) {H2 : List Res} (I : Γ0 → Γ1 → Γ2 → Γ3 → Γ4 → Γ5 → Γ6 → Γ7 → Γ8 → Γ9 → Nat → Prop) (J : Γ0 → Γ1 → Γ2 → Γ3 → Γ4 → Γ5 → Γ6 → Γ7 → Γ8 → Γ9 → Prop) (i0 : Γ0) (i1 : Γ1) (i2 : Γ2) (i3 : Γ3) (i4 : Γ4) (i5 : Γ5) (i6 : Γ6) (i7 : Γ7) (i8 : Γ8) (i9 : Γ9) (n₀ : Nat) {c : Code} (h₀ : I i0 i1 i2 i3 i4 i5 i6 i7 i8 i9 n₀) (hs : Sub σ (S i0 i1 i2 i3 i4 i5 i6 i7 i8 i9 ++ τ)) (hd : ∀ w, Own M w0 H w → Own M w0 (R i0 i1 i2 i3 i4 i5 i6 i7 i8 i9 ++ H2) w)
    (rest : ∀ g0 g1 g2 g3 g4 g5 g6 g7 g8 g9, J g0 g1 g2 g3 g4 g5 g6 g7 g8 g9 → WK n (Q .normal) (S g0 g1 g2 g3 g4 g5 g6 g7 g8 g9 ++ τ) (Own M w0 (R g0 g1 g2 g3 g4 g5 g6 g7 g8 g9 ++ H2)))
    (round : ∀ g0 g1 g2 g3 g4 g5 g6 g7 g8 g9 m, I g0 g1 g2 g3 g4 g5 g6 g7 g8 g9 m → WK n (c.wp P (Exit.then (fun a' w' => ∃ g0' g1' g2' g3' g4' g5' g6' g7' g8' g9' m', I g0' g1' g2' g3' g4' g5' g6' g7' g8' g9' m' ∧ m' < m ∧ Has n a' (S g0' g1' g2' g3' g4' g5' g6' g7' g8' g9' ++ τ) ∧ Own M w0 (R g0' g1' g2' g3' g4' g5' g6' g7' g8' g9' ++ H2) w') (Exit.inBlock id (Exit.then (fun a' w' => ∃ g0' g1' g2' g3' g4' g5' g6' g7' g8' g9', J g0' g1' g2' g3' g4' g5' g6' g7' g8' g9' ∧ Has n a' (S g0' g1' g2' g3' g4' g5' g6' g7' g8' g9' ++ τ) ∧ Own M w0 (R g0' g1' g2' g3' g4' g5' g6' g7' g8' g9' ++ H2) w') Q)))) (S g0 g1 g2 g3 g4 g5 g6 g7 g8 g9 ++ τ) (Own M w0 (R g0 g1 g2 g3 g4 g5 g6 g7 g8 g9 ++ H2))) :
    WK n ((Code.block id (Code.loop c)).wp P Q) σ (Own M w0 H) :=
  WC.bloop (Γ := Γ0 × Γ1 × Γ2 × Γ3 × Γ4 × Γ5 × Γ6 × Γ7 × Γ8 × Γ9) τ (fun g => S (g.1) (g.2.1) (g.2.2.1) (g.2.2.2.1) (g.2.2.2.2.1) (g.2.2.2.2.2.1) (g.2.2.2.2.2.2.1) (g.2.2.2.2.2.2.2.1) (g.2.2.2.2.2.2.2.2.1) (g.2.2.2.2.2.2.2.2.2)) (fun g => R (g.1) (g.2.1) (g.2.2.1) (g.2.2.2.1) (g.2.2.2.2.1) (g.2.2.2.2.2.1) (g.2.2.2.2.2.2.1) (g.2.2.2.2.2.2.2.1) (g.2.2.2.2.2.2.2.2.1) (g.2.2.2.2.2.2.2.2.2)) (fun g m => I (g.1) (g.2.1) (g.2.2.1) (g.2.2.2.1) (g.2.2.2.2.1) (g.2.2.2.2.2.1) (g.2.2.2.2.2.2.1) (g.2.2.2.2.2.2.2.1) (g.2.2.2.2.2.2.2.2.1) (g.2.2.2.2.2.2.2.2.2) m) (fun g => J (g.1) (g.2.1) (g.2.2.1) (g.2.2.2.1) (g.2.2.2.2.1) (g.2.2.2.2.2.1) (g.2.2.2.2.2.2.1) (g.2.2.2.2.2.2.2.1) (g.2.2.2.2.2.2.2.2.1) (g.2.2.2.2.2.2.2.2.2)) (i0, i1, i2, i3, i4, i5, i6, i7, i8, i9) n₀ h₀ hs hd (fun g h => rest (g.1) (g.2.1) (g.2.2.1) (g.2.2.2.1) (g.2.2.2.2.1) (g.2.2.2.2.2.1) (g.2.2.2.2.2.2.1) (g.2.2.2.2.2.2.2.1) (g.2.2.2.2.2.2.2.2.1) (g.2.2.2.2.2.2.2.2.2) h) fun g m hg a w ha hw => by
    refine wp_mono (round (g.1) (g.2.1) (g.2.2.1) (g.2.2.2.1) (g.2.2.2.2.1) (g.2.2.2.2.2.1) (g.2.2.2.2.2.2.1) (g.2.2.2.2.2.2.2.1) (g.2.2.2.2.2.2.2.2.1) (g.2.2.2.2.2.2.2.2.2) m hg a w ha hw) fun e a' w' h => ?_
    have key : ∀ a w, (fun a' w' => ∃ g0' g1' g2' g3' g4' g5' g6' g7' g8' g9', J g0' g1' g2' g3' g4' g5' g6' g7' g8' g9' ∧ Has n a' (S g0' g1' g2' g3' g4' g5' g6' g7' g8' g9' ++ τ) ∧ Own M w0 (R g0' g1' g2' g3' g4' g5' g6' g7' g8' g9' ++ H2) w') a w → (fun a' w' => ∃ g' : Γ0 × Γ1 × Γ2 × Γ3 × Γ4 × Γ5 × Γ6 × Γ7 × Γ8 × Γ9, J (g'.1) (g'.2.1) (g'.2.2.1) (g'.2.2.2.1) (g'.2.2.2.2.1) (g'.2.2.2.2.2.1) (g'.2.2.2.2.2.2.1) (g'.2.2.2.2.2.2.2.1) (g'.2.2.2.2.2.2.2.2.1) (g'.2.2.2.2.2.2.2.2.2) ∧ Has n a' (S (g'.1) (g'.2.1) (g'.2.2.1) (g'.2.2.2.1) (g'.2.2.2.2.1) (g'.2.2.2.2.2.1) (g'.2.2.2.2.2.2.1) (g'.2.2.2.2.2.2.2.1) (g'.2.2.2.2.2.2.2.2.1) (g'.2.2.2.2.2.2.2.2.2) ++ τ) ∧ Own M w0 (R (g'.1) (g'.2.1) (g'.2.2.1) (g'.2.2.2.1) (g'.2.2.2.2.1) (g'.2.2.2.2.2.1) (g'.2.2.2.2.2.2.1) (g'.2.2.2.2.2.2.2.1) (g'.2.2.2.2.2.2.2.2.1) (g'.2.2.2.2.2.2.2.2.2) ++ H2) w') a w := fun a w ⟨g0', g1', g2', g3', g4', g5', g6', g7', g8', g9', h1, h2, h3⟩ => ⟨(g0', g1', g2', g3', g4', g5', g6', g7', g8', g9'), h1, h2, h3⟩
    cases e with
    | normal => obtain ⟨g0', g1', g2', g3', g4', g5', g6', g7', g8', g9', m', h1, h2, h3, h4⟩ := h; exact ⟨(g0', g1', g2', g3', g4', g5', g6', g7', g8', g9'), m', h1, h2, h3, h4⟩
    | exit j =>
      simp only [Exit.then, Exit.inBlock] at h ⊢
      split at h
      · rename_i hj; rw [if_pos hj]; exact key _ _ h
      · rename_i hj; rw [if_neg hj]; exact h
    | _ => exact h
theorem WQ.again10 {Γ0 : Type} {Γ1 : Type} {Γ2 : Type} {Γ3 : Type} {Γ4 : Type} {Γ5 : Type} {Γ6 : Type} {Γ7 : Type} {Γ8 : Type} {Γ9 : Type} {S : Γ0 → Γ1 → Γ2 → Γ3 → Γ4 → Γ5 → Γ6 → Γ7 → Γ8 → Γ9 → Env} {R : Γ0 → Γ1 → Γ2 → Γ3 → Γ4 → Γ5 → Γ6 → Γ7 → Γ8 → Γ9 → List Res} {H2 : List Res} {I : Γ0 → Γ1 → Γ2 → Γ3 → Γ4 → Γ5 → Γ6 → Γ7 → Γ8 → Γ9 → Nat → Prop} {m : Nat} {τ : Env} (i0 : Γ0) (i1 : Γ1) (i2 : Γ2) (i3 : Γ3) (i4 : Γ4) (i5 : Γ5) (i6 : Γ6) (i7 : Γ7) (i8 : Γ8) (i9 : Γ9) (m' : Nat) (hI : I i0 i1 i2 i3 i4 i5 i6 i7 i8 i9 m') (hm : m' < m) (hs : Sub σ (S i0 i1 i2 i3 i4 i5 i6 i7 i8 i9 ++ τ)) (hd : ∀ w, Own M w0 H w → Own M w0 (R i0 i1 i2 i3 i4 i5 i6 i7 i8 i9 ++ H2) w) :
    WK n (Exit.then (fun a' w' => ∃ g0' g1' g2' g3' g4' g5' g6' g7' g8' g9' m', I g0' g1' g2' g3' g4' g5' g6' g7' g8' g9' m' ∧ m' < m ∧ Has n a' (S g0' g1' g2' g3' g4' g5' g6' g7' g8' g9' ++ τ) ∧ Own M w0 (R g0' g1' g2' g3' g4' g5' g6' g7' g8' g9' ++ H2) w') Q .normal) σ (Own M w0 H) := fun a w ha hw => ⟨i0, i1, i2, i3, i4, i5, i6, i7, i8, i9, m', hI, hm, ha.sub hs, hd w hw⟩
theorem WQ.out10 {Γ0 : Type} {Γ1 : Type} {Γ2 : Type} {Γ3 : Type} {Γ4 : Type} {Γ5 : Type} {Γ6 : Type} {Γ7 : Type} {Γ8 : Type} {Γ9 : Type} {S : Γ0 → Γ1 → Γ2 → Γ3 → Γ4 → Γ5 → Γ6 → Γ7 → Γ8 → Γ9 → Env} {R : Γ0 → Γ1 → Γ2 → Γ3 → Γ4 → Γ5 → Γ6 → Γ7 → Γ8 → Γ9 → List Res} {H2 : List Res} {J : Γ0 → Γ1 → Γ2 → Γ3 → Γ4 → Γ5 → Γ6 → Γ7 → Γ8 → Γ9 → Prop} {τ : Env} (i0 : Γ0) (i1 : Γ1) (i2 : Γ2) (i3 : Γ3) (i4 : Γ4) (i5 : Γ5) (i6 : Γ6) (i7 : Γ7) (i8 : Γ8) (i9 : Γ9) (hJ : J i0 i1 i2 i3 i4 i5 i6 i7 i8 i9) (hs : Sub σ (S i0 i1 i2 i3 i4 i5 i6 i7 i8 i9 ++ τ)) (hd : ∀ w, Own M w0 H w → Own M w0 (R i0 i1 i2 i3 i4 i5 i6 i7 i8 i9 ++ H2) w) :
    WK n (Exit.then (fun a' w' => ∃ g0' g1' g2' g3' g4' g5' g6' g7' g8' g9', J g0' g1' g2' g3' g4' g5' g6' g7' g8' g9' ∧ Has n a' (S g0' g1' g2' g3' g4' g5' g6' g7' g8' g9' ++ τ) ∧ Own M w0 (R g0' g1' g2' g3' g4' g5' g6' g7' g8' g9' ++ H2) w') Q .normal) σ (Own M w0 H) := fun a w ha hw => ⟨i0, i1, i2, i3, i4, i5, i6, i7, i8, i9, hJ, ha.sub hs, hd w hw⟩
theorem WC.joint10 {Γ0 : Type} {Γ1 : Type} {Γ2 : Type} {Γ3 : Type} {Γ4 : Type} {Γ5 : Type} {Γ6 : Type} {Γ7 : Type} {Γ8 : Type} {Γ9 : Type} (τ : Env) (S : Γ0 → Γ1 → Γ2 → Γ3 → Γ4 → Γ5 → Γ6 → Γ7 → Γ8 → Γ9 → Env) (R : Γ0 → Γ1 → Γ2 → Γ3 → Γ4 → Γ5 → Γ6 → Γ7 → Γ8 → Γ9 → List Res) {H2 : List Res} (J : Γ0 → Γ1 → Γ2 → Γ3 → Γ4 → Γ5 → Γ6 → Γ7 → Γ8 → Γ9 → Prop) {x y : Code} (hτ : Sub σ τ) (hd : ∀ w, Own M w0 H w → Own M w0 H2 w)
    (rest : ∀ g0 g1 g2 g3 g4 g5 g6 g7 g8 g9, J g0 g1 g2 g3 g4 g5 g6 g7 g8 g9 → WK n (y.wp P Q) (S g0 g1 g2 g3 g4 g5 g6 g7 g8 g9 ++ τ) (Own M w0 (R g0 g1 g2 g3 g4 g5 g6 g7 g8 g9 ++ H2)))
    (hx : WK n (x.wp P (Exit.then (fun a' w' => ∃ g0' g1' g2' g3' g4' g5' g6' g7' g8' g9', J g0' g1' g2' g3' g4' g5' g6' g7' g8' g9' ∧ Has n a' (S g0' g1' g2' g3' g4' g5' g6' g7' g8' g9' ++ τ) ∧ Own M w0 (R g0' g1' g2' g3' g4' g5' g6' g7' g8' g9' ++ H2) w') Q)) σ (Own M w0 H)) : WK n (x.wp P (Exit.then (y.wp P Q) Q)) σ (Own M w0 H) :=
  WC.joint (Γ := Γ0 × Γ1 × Γ2 × Γ3 × Γ4 × Γ5 × Γ6 × Γ7 × Γ8 × Γ9) τ (fun g => S (g.1) (g.2.1) (g.2.2.1) (g.2.2.2.1) (g.2.2.2.2.1) (g.2.2.2.2.2.1) (g.2.2.2.2.2.2.1) (g.2.2.2.2.2.2.2.1) (g.2.2.2.2.2.2.2.2.1) (g.2.2.2.2.2.2.2.2.2)) (fun g => R (g.1) (g.2.1) (g.2.2.1) (g.2.2.2.1) (g.2.2.2.2.1) (g.2.2.2.2.2.1) (g.2.2.2.2.2.2.1) (g.2.2.2.2.2.2.2.1) (g.2.2.2.2.2.2.2.2.1) (g.2.2.2.2.2.2.2.2.2)) (fun g => J (g.1) (g.2.1) (g.2.2.1) (g.2.2.2.1) (g.2.2.2.2.1) (g.2.2.2.2.2.1) (g.2.2.2.2.2.2.1) (g.2.2.2.2.2.2.2.1) (g.2.2.2.2.2.2.2.2.1) (g.2.2.2.2.2.2.2.2.2)) hτ hd (fun g h => rest (g.1) (g.2.1) (g.2.2.1) (g.2.2.2.1) (g.2.2.2.2.1) (g.2.2.2.2.2.1) (g.2.2.2.2.2.2.1) (g.2.2.2.2.2.2.2.1) (g.2.2.2.2.2.2.2.2.1) (g.2.2.2.2.2.2.2.2.2) h) fun a w ha hw => by
    refine wp_mono (hx a w ha hw) fun e a' w' h => ?_
    cases e with
    | normal => obtain ⟨g0', g1', g2', g3', g4', g5', g6', g7', g8', g9', h1, h2, h3⟩ := h; exact ⟨(g0', g1', g2', g3', g4', g5', g6', g7', g8', g9'), h1, h2, h3⟩
    | _ => exact h
theorem WC.join10 {Γ0 : Type} {Γ1 : Type} {Γ2 : Type} {Γ3 : Type} {Γ4 : Type} {Γ5 : Type} {Γ6 : Type} {Γ7 : Type} {Γ8 : Type} {Γ9 : Type} (τ : Env) (S : Γ0 → Γ1 → Γ2 → Γ3 → Γ4 → Γ5 → Γ6 → Γ7 → Γ8 → Γ9 → Env) (R : Γ0 → Γ1 → Γ2 → Γ3 → Γ4 → Γ5 → Γ6 → Γ7 → Γ8 → Γ9 → List Res) {H2 : List Res} (J : Γ0 → Γ1 → Γ2 → Γ3 → Γ4 → Γ5 → Γ6 → Γ7 → Γ8 → Γ9 → Prop) {x y : Code} (hτ : Sub σ τ) (hd : ∀ w, Own M w0 H w → Own M w0 H2 w)
    (rest : ∀ g0 g1 g2 g3 g4 g5 g6 g7 g8 g9, J g0 g1 g2 g3 g4 g5 g6 g7 g8 g9 → WK n (y.wp P Q) (S g0 g1 g2 g3 g4 g5 g6 g7 g8 g9 ++ τ) (Own M w0 (R g0 g1 g2 g3 g4 g5 g6 g7 g8 g9 ++ H2)))
    (hx : WK n (x.wp P (Exit.then (fun a' w' => ∃ g0' g1' g2' g3' g4' g5' g6' g7' g8' g9', J g0' g1' g2' g3' g4' g5' g6' g7' g8' g9' ∧ Has n a' (S g0' g1' g2' g3' g4' g5' g6' g7' g8' g9' ++ τ) ∧ Own M w0 (R g0' g1' g2' g3' g4' g5' g6' g7' g8' g9' ++ H2) w') Q)) σ (Own M w0 H)) : WK n ((x.seq y).wp P Q) σ (Own M w0 H) := WC.seq (WC.joint10 τ S R J hτ hd rest hx)
end
end Go.Rd
end

section
namespace Go.Rd
open Go.RowKit
set_option linter.unusedVariables false

/-! ### Numbers -/
def bt (n : Int) : UInt8 := UInt8.ofNat (n % 256).toNat
theorem u8_wrap (n : Int) : IntKind.u8.wrap n = n % 256 := by
  simp [IntKind.wrap, IntKind.bits, IntKind.signed]
theorem bt_nat (n : Int) : ((bt n).toNat : Int) = n % 256 := by
  unfold bt
  have h1 : 0 ≤ n % 256 := Int.emod_nonneg _ (by decide)
  have h2 : n % 256 < 256 := Int.emod_lt_of_pos _ (by decide)
  have : (UInt8.ofNat (n % 256).toNat).toNat = (n % 256).toNat := by
    rw [UInt8.toNat_ofNat']; apply Nat.mod_eq_of_lt; omega
  rw [this]; omega
theorem wrap_bt (n : Int) : Value.int .u8 (IntKind.u8.wrap n) = .int .u8 ((bt n).toNat : Int) := by rw [bt_nat, u8_wrap]
theorem wrap_byte (b : UInt8) : Value.int .i64 (IntKind.i64.wrap (b.toNat : Int)) = .int .i64 (b.toNat : Int) := by
  have := UInt8.toNat_lt b
  rw [wrap_i64 (by omega) (by omega)]
theorem wrap_in {n : Int} (h : IR n) : Value.int .i64 (IntKind.i64.wrap n) = .int .i64 n := by rw [wrap_i64 h.1 h.2]
def bitAnd (i j : Int) : Int := IntKind.i64.wrap (BitVec.ofInt 64 i &&& BitVec.ofInt 64 j).toNat
def bitOr (i j : Int) : Int := IntKind.i64.wrap (BitVec.ofInt 64 i ||| BitVec.ofInt 64 j).toNat
def bitXor (i j : Int) : Int := IntKind.i64.wrap (BitVec.ofInt 64 i ^^^ BitVec.ofInt 64 j).toNat
def shrD (i j : Int) : Int := i.fdiv (2 ^ (min j.toNat 64))
def shlD (i j : Int) : Int := IntKind.i64.wrap (i * 2 ^ (min j.toNat 64))
def SX (i j n : Int) : Prop := 0 ≤ i ∧ i ≤ j ∧ j ≤ n
instance (i j n : Int) : Decidable (SX i j n) := by unfold SX; infer_instance
/-- How long a string may become. -/
def SL (l : List UInt8) : Prop := l.length ≤ 9223372036854775807
instance (l : List UInt8) : Decidable (SL l) := by unfold SL; infer_instance
def scell (s : List UInt8) : List Value := [strV s]
theorem scell_len : ∀ s : List UInt8, (scell s).length = 1 := fun _ => rfl
theorem scell_one (ys : List (List UInt8)) : ∀ u ∈ ys, ∀ c ∈ scell u, c.oneCell' = true := fun n _ c hc => by simp [scell] at hc; subst hc; rfl

section
variable {P : Program} {n : Nat} {σ : Env} {C : World → Prop} {d : Option Tmp} {T U E D z : TypeId} {pos : String} {after : Array Edge} {gd : Option (Nat × Bool)} {x y lo hi : Operand} {g g' g'' : Bool} {v : Value} {i j : Int} {a b : List UInt8} {sz m : Nat}

theorem QV.andD (hx : σ.ev x = some (g, .int .i64 i)) (hg : g = true) (hy : σ.ev y = some (g', .int .i64 j)) (hg' : g' = true) : QV P ⟨d, .binOp .and U x y z, T, pos, after, gd⟩ σ C (.int .i64 (bitAnd i j)) := QV.andW hx hg hy hg'
theorem QV.orD (hx : σ.ev x = some (g, .int .i64 i)) (hg : g = true) (hy : σ.ev y = some (g', .int .i64 j)) (hg' : g' = true) : QV P ⟨d, .binOp .or U x y z, T, pos, after, gd⟩ σ C (.int .i64 (bitOr i j)) := QV.orW hx hg hy hg'
theorem QV.xorD (hx : σ.ev x = some (g, .int .i64 i)) (hg : g = true) (hy : σ.ev y = some (g', .int .i64 j)) (hg' : g' = true) : QV P ⟨d, .binOp .xor U x y z, T, pos, after, gd⟩ σ C (.int .i64 (bitXor i j)) := QV.xorW hx hg hy hg'
theorem QV.shrD {k' : IntKind} (hx : σ.ev x = some (g, .int .i64 i)) (hg : g = true) (hy : σ.ev y = some (g', .int k' j)) (hg' : g' = true) (h0 : 0 ≤ j) : QV P ⟨d, .binOp .shr U x y z, T, pos, after, gd⟩ σ C (.int .i64 (shrD i j)) := QV.shrW hx hg hy hg' h0
theorem QV.shlD {k' : IntKind} (hx : σ.ev x = some (g, .int .i64 i)) (hg : g = true) (hy : σ.ev y = some (g', .int k' j)) (hg' : g' = true) (h0 : 0 ≤ j) : QV P ⟨d, .binOp .shl U x y z, T, pos, after, gd⟩ σ C (.int .i64 (shlD i j)) := QV.shlW hx hg hy hg' h0
theorem QV.quo (hx : σ.ev x = some (g, .int .i64 i)) (hg : g = true) (hy : σ.ev y = some (g', .int .i64 j)) (hg' : g' = true) (h0 : j ≠ 0) (hr : IR (i.tdiv j)) : QV P ⟨d, .binOp .quo U x y z, T, pos, after, gd⟩ σ C (.int .i64 (i.tdiv j)) :=
  QV.eqv (wrap_in hr) (QV.quoW hx hg hy hg' h0)
theorem QV.neg (hx : σ.ev x = some (g, .int .i64 i)) (hg : g = true) (hr : IR (-i)) : QV P ⟨d, .unOp .neg U x, T, pos, after, gd⟩ σ C (.int .i64 (-i)) := .of_run fun n a ha w hw => by
  have e : (0 : Int) - i = -i := by omega
  simp [execOp, ha.ev hx hg, Op.unary, Op.intArith, wrap_i64 hr.1 hr.2]
theorem QV.max2 {ats : Array TypeId} {k : IntKind} (hx : σ.ev x = some (g, .int k i)) (hg : g = true) (hy : σ.ev y = some (g', .int k j)) (hg' : g' = true) : QV P ⟨d, .call ⟨.builtin .max, #[x, y], ats⟩, T, pos, after, gd⟩ σ C (.int k (max i j)) := .of_run fun n a ha w hw => by
  have e : (if j > i then j else i) = max i j := by split <;> omega
  simp [execOp, resolve, invoke, builtin, ha.ev hx hg, ha.ev hy hg', Builtin.max_, Builtin.max2, List.foldlM, e]
theorem QV.min2 {ats : Array TypeId} {k : IntKind} (hx : σ.ev x = some (g, .int k i)) (hg : g = true) (hy : σ.ev y = some (g', .int k j)) (hg' : g' = true) : QV P ⟨d, .call ⟨.builtin .min, #[x, y], ats⟩, T, pos, after, gd⟩ σ C (.int k (min i j)) := .of_run fun n a ha w hw => by
  have e : (if j < i then j else i) = min i j := by split <;> omega
  simp [execOp, resolve, invoke, builtin, ha.ev hx hg, ha.ev hy hg', Builtin.min_, Builtin.min2, List.foldlM, e]

/-! ### Parts of slices -/
theorem QV.sliceLHd {k k' : IntKind} {α : Type} {xs : List α} (hT : SliceT P U E sz) (hx : σ.ev x = some (g, v)) (hg : g = true) (hl : SliceLen v xs.length) (hlo : σ.ev lo = some (g', .int k i)) (hg' : g' = true) (hhi : σ.ev hi = some (g'', .int k' j)) (hg'' : g'' = true)
    (h : SX i j (ln xs)) : QV P ⟨d, .slice U x (some lo) (some hi) none, T, pos, after, gd⟩ σ C (subS v sz i.toNat j.toNat) := QV.sliceLH hT hx hg hl hlo hg' hhi hg'' h.1 h.2.1 h.2.2
theorem QV.sliceHd {k' : IntKind} {α : Type} {xs : List α} (hT : SliceT P U E sz) (hx : σ.ev x = some (g, v)) (hg : g = true) (hl : SliceLen v xs.length) (hhi : σ.ev hi = some (g'', .int k' j)) (hg'' : g'' = true)
    (h : SX 0 j (ln xs)) : QV P ⟨d, .slice U x none (some hi) none, T, pos, after, gd⟩ σ C (subS v sz (0 : Int).toNat j.toNat) := QV.sliceH hT hx hg hl hhi hg'' h.2.1 h.2.2
theorem QV.sliceLd {k : IntKind} {α : Type} {xs : List α} (hT : SliceT P U E sz) (hx : σ.ev x = some (g, v)) (hg : g = true) (hl : SliceLen v xs.length) (hlo : σ.ev lo = some (g', .int k i)) (hg' : g' = true)
    (h : SX i (ln xs) (ln xs)) : QV P ⟨d, .slice U x (some lo) none none, T, pos, after, gd⟩ σ C (subS v sz i.toNat (ln xs).toNat) := QV.sliceL hT hx hg hl hlo hg' h.1 (show i ≤ (xs.length : Int) from h.2.1)
theorem subS_sub {α : Type} {enc : α → List Value} {w : World} {v : Value} {i j : Int} {sz : Nat} {xs : List α} (hv : Arr w v sz (xs.map enc)) (h : SX i j (ln xs)) : Arr w (subS v sz i.toNat j.toNat) sz ((sub xs i j).map enc) := by
  have h1 := h.1; have h2 := h.2.1; have h3 := h.2.2
  unfold ln at h3
  have := subS_map hv (l := i.toNat) (h := j.toNat) (by omega) (by omega)
  rwa [show j.toNat - i.toNat = (j - i).toNat from by omega] at this

/-! ### Strings -/
theorem QV.strAddD (hx : σ.ev x = some (g, strV a)) (hg : g = true) (hy : σ.ev y = some (g', strV b)) (hg' : g' = true) (hl : SL (a ++ b)) : QV P ⟨d, .binOp .add U x y z, T, pos, after, gd⟩ σ C (strV (a ++ b)) := QV.strAdd hx hg hy hg' (by unfold SL at hl; simpa using hl)
theorem QV.strNeq (hx : σ.ev x = some (g, strV a)) (hg : g = true) (hy : σ.ev y = some (g', strV b)) (hg' : g' = true) : QV P ⟨d, .binOp .neq U x y z, T, pos, after, gd⟩ σ C (.bool (a != b)) := .of_run fun n ac ha w hw => by
  have e1 := ha.ev hx hg
  have e2 := ha.ev hy hg'
  have e3 : (eqGuard .neq U x y (strV a) (strV b)).run P w = .ok () w := by simp [eqGuard, strV]
  have e4 : (binOp .neq U (strV a) (strV b)).run P w = .ok (.bool (a != b)) w := by
    unfold strV
    rw [binOp_string_neq, toList_ba, toList_ba]
    simp [bne]
  simp only [execOp, e1, e2, Sem.run_bind, e3, e4, Result.andThen_ok, Sem.run_pure]
theorem QV.lenStr (hU : P.underlying U = some .string) (hx : σ.ev x = some (g, strV a)) (hg : g = true) : QV P ⟨d, .call ⟨.builtin .len, #[x], #[U]⟩, T, pos, after, gd⟩ σ C (.int .i64 (ln a)) := .of_run fun n ac ha w hw => by
  have e1 := ha.ev hx hg
  have e : (ByteArray.mk a.toArray).size = a.length := by simp [ByteArray.size]
  simp [execOp, resolve, invoke, builtin, e1, strV, Builtin.len_, run_underlying hU, goInt, ln, e]
end

/-! ### Structs with slices -/
def fillL (place : Nat → Option (Nat × Nat)) (cells : Array Value) : List (Nat × List Value) → Option (Array Value)
  | [] => some cells
  | (i, v) :: rest =>
    match place i with
    | none => none
    | some (off, size) =>
      if v.length ≠ size || off + v.length > cells.size then none
      else fillL place (v.toArray.zipIdx.foldl (fun cs (c, j) => cs.setIfInBounds (off + j) c) cells) rest
def builtL (P : Program) (t : TypeId) (parts : List (Nat × List Value)) : Option (Array Value) :=
  match P.info? t, P.underlying t with
  | some it, some (.array _ e) =>
    match it.zero, P.info? e with
    | some z, some ie => fillL (fun i => some (i * ie.size, ie.size)) z.cells parts
    | _, _ => none
  | some it, some (.struct fields) =>
    match it.zero, fields.toList.mapM (fun f => (P.info? f.type).map fun i => (f.offset, i.size)) with
    | some z, some places => fillL (places.toArray[·]?) z.cells parts
    | _, _ => none
  | _, _ => none
def CellsAll : List Value → List (List Value) → Prop
  | [], [] => True
  | v :: vs, c :: cs => v.cells = c.toArray ∧ CellsAll vs cs
  | _, _ => False
theorem CellsAll.nil : CellsAll [] [] := trivial
theorem CellsAll.cons {v : Value} {c : List Value} {vs : List Value} {cs : List (List Value)} (h : v.cells = c.toArray) (k : CellsAll vs cs) : CellsAll (v :: vs) (c :: cs) := ⟨h, k⟩
theorem fill_eq {place : Nat → Option (Nat × Nat)} : ∀ (is : List Nat) {vs : List Value} {css : List (List Value)} (cells : Array Value), CellsAll vs css → Instr.fill place cells (is.zip vs) = fillL place cells (is.zip css)
  | _, [], [], cells, _ => by simp [Instr.fill, fillL]
  | [], _ :: _, _ :: _, cells, _ => by simp [Instr.fill, fillL]
  | i :: is, v :: vs, c :: cs, cells, ⟨h, k⟩ => by
    simp only [List.zip_cons_cons, Instr.fill, fillL]
    cases place i with
    | none => rfl
    | some p =>
      obtain ⟨off, size⟩ := p
      simp only [h, List.size_toArray]
      rw [fill_eq is _ k]
theorem built_eq {P : Program} {t : TypeId} {is : List Nat} {vs : List Value} {css : List (List Value)} (h : CellsAll vs css) : P.built t (is.zip vs) = builtL P t (is.zip css) := by
  unfold Program.built builtL
  cases P.info? t with
  | none => rfl
  | some it =>
    cases P.underlying t with
    | none => rfl
    | some dd => cases dd <;> first | rfl | (simp only [fill_eq is _ h]; rfl)
theorem QV.buildS {P : Program} {σ : Env} {C : World → Prop} {d : Option Tmp} {T U : TypeId} {pos : String} {after : Array Edge} {gd : Option (Nat × Bool)} {ps : List (Nat × Operand)} {vs cells : List Value} {css : List (List Value)} (hv : EvAll σ (ps.map (·.2)) vs) (hc : CellsAll vs css) (hb : builtL P U ((ps.map (·.1)).zip css) = some cells.toArray) :
    QV P ⟨d, .build U ps.toArray, T, pos, after, gd⟩ σ C (.agg cells.toArray) := QV.build hv (by rw [built_eq hc]; exact hb)

/-! ### Rows of rows -/
/-- A slice of slices of numbers. -/
def RowsA (w : World) (v : Value) (xss : List (List Int)) : Prop := ∃ B : List (Value × List Int), B.map (·.2) = xss ∧ Arr w v 1 (B.map vcell) ∧ RowsK w B
theorem RowsA.le {k k' : World} {v : Value} {xss : List (List Int)} (h : RowsA k v xss) (hl : Le k k') : RowsA k' v xss := by
  obtain ⟨B, h1, h2, h3⟩ := h; exact ⟨B, h1, h2.le hl, h3.le hl⟩
theorem RowsA.slen {w : World} {v : Value} {xss : List (List Int)} (h : RowsA w v xss) : SliceLen v xss.length := by
  obtain ⟨B, rfl, h2, h3⟩ := h
  have := h2.lenMap
  rwa [List.length_map]
theorem RowsA.ix {w : World} {v : Value} {xss : List (List Int)} (h : RowsA w v xss) {i : Int} (hi : IX i (ln xss)) : ∃ p u, ElemP v i 1 p ∧ CellsAt w p [u] 0 ∧ Arr w u 1 ((ele xss i).map icell) := by
  obtain ⟨B, rfl, h2, h3⟩ := h
  have h0 := hi.1; have h1 := hi.2
  unfold ln at h1
  rw [List.length_map] at h1
  have hlt : i.toNat < B.length := by omega
  obtain ⟨p, hp⟩ := h2.lenMap.elem 1 i h0 h1
  refine ⟨p, (B[i.toNat]).1, hp, ?_, ?_⟩
  · have := h2.row i.toNat (vcell B[i.toNat]) p (by simp [List.getElem?_eq_getElem hlt]) (by rwa [Int.toNat_of_nonneg h0])
    exact this
  · have := h3 B[i.toNat] (List.getElem_mem hlt)
    have e : ele (B.map (·.2)) i = (B[i.toNat]).2 := by simp [ele, List.getD_eq_getElem?_getD, List.getElem?_eq_getElem hlt]
    rw [e]; exact this
theorem RowsA.ixG {w : World} {v : Value} {xss : List (List Int)} (h : RowsA w v xss) {i : Int} {g : Prop} (hi : g → IX i (ln xss)) : ∃ p u, (g → ElemP v i 1 p) ∧ (g → CellsAt w p [u] 0) ∧ Arr w u 1 ((ele xss i).map icell) := by
  by_cases hg : g
  · obtain ⟨p, u, h1, h2, h3⟩ := h.ix (hi hg)
    exact ⟨p, u, fun _ => h1, fun _ => h2, h3⟩
  · by_cases hr : i.toNat < xss.length
    · have hx : IX (i.toNat : Int) (ln xss) := ⟨by omega, by unfold ln; omega⟩
      obtain ⟨p, u, h1, h2, h3⟩ := h.ix hx
      refine ⟨p, u, fun h => absurd h hg, fun h => absurd h hg, ?_⟩
      rwa [show ele xss (i.toNat : Int) = ele xss i from by unfold ele; rw [Int.toNat_natCast]] at h3
    · refine ⟨default, .slice none 0 0, fun h => absurd h hg, fun h => absurd h hg, ?_⟩
      have e : ele xss i = [] := by simp [ele, List.getD_eq_getElem?_getD, List.getElem?_eq_none (Nat.le_of_not_lt hr)]; rfl
      rw [e]; exact Arr.nil
theorem Own.krows {M : Nat → Prop} {w0 k0 k : World} {H : List Res} (j : Nat) (hj : H[j]? = some (kn M w0.heap.size k0 k)) (hb : Base M k0 w0) {v : Value} {xss : List (List Int)} (h : RowsA k v xss) : ∀ w, Own M w0 H w → RowsA w v xss := fun w hw => h.le (Own.le j hj hb hw)
theorem vcell_len : ∀ p : Value × List Int, (vcell p).length = 1 := fun _ => rfl
theorem RowsK.cons {k : World} {v : Value} {xs : List Int} {B : List (Value × List Int)} (h : Arr k v 1 (xs.map icell)) (h' : RowsK k B) : RowsK k ((v, xs) :: B) := fun p hp => by
  rcases List.mem_cons.1 hp with rfl | hp
  · exact h
  · exact h' p hp
theorem RowsA.nil {k : World} : RowsA k (.slice none 0 0) [] := ⟨[], rfl, Arr.nil, RowsK.nil⟩
theorem CellsAt.le {k w : World} {p : Addr} {l : List Value} {j : Nat} (h : CellsAt k p l j) (hl : Le k w) : CellsAt w p l j := h.mono hl
theorem blk_cells {w : World} {b : Nat} {cs : List Value} {T : TypeId} (h : (blk b cs T).holds w) : CellsAt w ⟨b, 0, none⟩ cs 0 := CellsAt.of fun j v hv => by
  have h' : w.heap[b]? = some (.cells cs.toArray T (0, 0)) := h
  rw [Nat.zero_add, Addr.add_lit, Nat.zero_add]
  simp [World.cell?, h', hv]
theorem RowsK.append {k : World} {A B : List (Value × List Int)} (h : RowsK k A) (h' : RowsK k B) : RowsK k (A ++ B) := fun p hp => (List.mem_append.1 hp).elim (h p) (h' p)
theorem rowsk_one {k : World} {B : List (Value × List Int)} (h : RowsK k B) : ∀ u ∈ B, ∀ c ∈ vcell u, c.oneCell' = true := fun p hp c hc => by
  simp [vcell] at hc; subst hc
  exact (h p hp).len.one
theorem RowsA.sub {w : World} {v : Value} {xss : List (List Int)} {i j : Int} (h : RowsA w v xss) (hx : SX i j (ln xss)) : RowsA w (subS v 1 i.toNat j.toNat) (Rd.sub xss i j) := by
  obtain ⟨B, rfl, h2, h3⟩ := h
  have hx' : SX i j (ln B) := by unfold ln at *; simpa using hx
  refine ⟨Rd.sub B i j, by simp [Rd.sub, List.map_take, List.map_drop], subS_sub h2 hx', fun p hp => h3 p ?_⟩
  unfold Rd.sub at hp
  exact List.mem_of_mem_drop (List.mem_of_mem_take hp)
theorem rows_maps {A B : List (Value × List Int)} {xss yss : List (List Int)} (h : A.map (·.2) = xss) (h' : B.map (·.2) = yss) : (A ++ B).map (·.2) = xss ++ yss := by rw [List.map_append, h, h']
theorem rows_map {B : List (Value × List Int)} {xss : List (List Int)} {u : Value} {r : List Int} (h : B.map (·.2) = xss) : (B ++ [(u, r)]).map (·.2) = xss ++ [r] := by rw [List.map_append, h]; rfl
theorem AL.b1 {B : List (Value × List Int)} {xss : List (List Int)} {b : Nat} (h : B.map (·.2) = xss) (ha : AL xss.length b) : B.length ≤ maxLen := by subst h; have := ha.1; rwa [List.length_map] at this
theorem AL.b2 {B : List (Value × List Int)} {xss : List (List Int)} {b : Nat} (h : B.map (·.2) = xss) (ha : AL xss.length b) : B.length * b ≤ 140737488355328 := by subst h; have := ha.2; rwa [List.length_map] at this
section
variable {P : Program} {n : Nat} {σ : Env} {M : Nat → Prop} {w0 k0 k : World} {H : List Res} {o : Oper} {K : Act → World → Prop} {Q : Exit → Act → World → Prop}
theorem WK.of {C C' : World → Prop} (h : ∀ w, C w → C' w) (kk : WK n K σ C') : WK n K σ C := fun a w ha hw => kk a w ha (h w hw)
theorem EV.of {C C' : World → Prop} (h : ∀ w, C w → C' w) (kk : EV P n o σ C' K Q) : EV P n o σ C K Q := fun a w ha hw => kk a w ha (h w hw)
theorem EV.freeze {r : Res} (hb : Base M k0 w0) (kk : ∀ k', Le k k' → r.holds k' → EV P n o σ (Own M w0 (kn M w0.heap.size k0 k' :: H)) K Q) : EV P n o σ (Own M w0 (kn M w0.heap.size k0 k :: r :: H)) K Q := fun a w ha hw => by
  obtain ⟨k', h1, h2, h3⟩ := hw.freeze hb
  exact kk k' h1 h2 a w ha h3
end
end Go.Rd
end

section
namespace Go.Rd
set_option linter.unusedVariables false
structure Opr where
  (slot stage op dest a b ar sp pl n : Int)
def Opr.cells (o : Opr) : List Value := [.int .i64 o.slot, .int .i64 o.stage, .int .i64 o.op, .int .i64 o.dest, .int .i64 o.a, .int .i64 o.b, .int .i64 o.ar, .int .i64 o.sp, .int .i64 o.pl, .int .i64 o.n]
instance : Inhabited Opr := ⟨⟨0, 0, 0, 0, 0, 0, 0, 0, 0, 0⟩⟩
structure Krn where
  (pace stages : Int)
  (ops : List Opr)
instance : Inhabited Krn := ⟨⟨0, 0, []⟩⟩
structure Edg where
  (fr to bk wt : Int)
def Edg.cells (e : Edg) : List Value := [.int .i64 e.fr, .int .i64 e.to, .int .i64 e.bk, .int .i64 e.wt]
instance : Inhabited Edg := ⟨⟨0, 0, 0, 0⟩⟩
structure Pln where
  (pace : Int)
  (times : List Int)
instance : Inhabited Pln := ⟨⟨0, []⟩⟩
structure Flt where
  (code at' : Int)
def Flt.cells (e : Flt) : List Value := [.int .i64 e.code, .int .i64 e.at']
instance : Inhabited Flt := ⟨⟨0, 0⟩⟩
structure Due where
  (due reg v : Int)
def Due.cells (e : Due) : List Value := [.int .i64 e.due, .int .i64 e.reg, .int .i64 e.v]
instance : Inhabited Due := ⟨⟨0, 0, 0⟩⟩
structure Off where
  (time ready place : Int)
def Off.cells (e : Off) : List Value := [.int .i64 e.time, .int .i64 e.ready, .int .i64 e.place]
instance : Inhabited Off := ⟨⟨0, 0, 0⟩⟩
structure Use where
  (til : Int)
  (later : Bool)
def Use.cells (e : Use) : List Value := [.int .i64 e.til, .bool e.later]
instance : Inhabited Use := ⟨⟨0, false⟩⟩
structure Sta where
  (bef mem : List (List Int))
instance : Inhabited Sta := ⟨⟨[], []⟩⟩
structure Rst where
  (outs : List Int)
  (mem : List (List Int))
instance : Inhabited Rst := ⟨⟨[], []⟩⟩
structure Lay where
  (lp : Lp)
  (pace regs : Int)
  (time ready places : List Int)
instance : Inhabited Lay := ⟨⟨default, 0, 0, [], [], []⟩⟩
theorem Opr.cells_len : ∀ e : Opr, e.cells.length = 10 := fun _ => rfl
theorem Opr.cells_one (ys : List Opr) : ∀ u ∈ ys, ∀ c ∈ u.cells, c.oneCell' = true := fun n _ c hc => by simp [Opr.cells] at hc; rcases hc with h | h | h | h | h | h | h | h | h | h <;> subst h <;> rfl
theorem Edg.cells_len : ∀ e : Edg, e.cells.length = 4 := fun _ => rfl
theorem Edg.cells_one (ys : List Edg) : ∀ u ∈ ys, ∀ c ∈ u.cells, c.oneCell' = true := fun n _ c hc => by simp [Edg.cells] at hc; rcases hc with h | h | h | h <;> subst h <;> rfl
theorem Due.cells_len : ∀ e : Due, e.cells.length = 3 := fun _ => rfl
theorem Due.cells_one (ys : List Due) : ∀ u ∈ ys, ∀ c ∈ u.cells, c.oneCell' = true := fun n _ c hc => by simp [Due.cells] at hc; rcases hc with h | h | h <;> subst h <;> rfl
theorem Off.cells_len : ∀ e : Off, e.cells.length = 3 := fun _ => rfl
theorem Off.cells_one (ys : List Off) : ∀ u ∈ ys, ∀ c ∈ u.cells, c.oneCell' = true := fun n _ c hc => by simp [Off.cells] at hc; rcases hc with h | h | h <;> subst h <;> rfl
theorem Use.cells_len : ∀ e : Use, e.cells.length = 2 := fun _ => rfl
theorem Use.cells_one (ys : List Use) : ∀ u ∈ ys, ∀ c ∈ u.cells, c.oneCell' = true := fun n _ c hc => by simp [Use.cells] at hc; rcases hc with h | h <;> subst h <;> rfl
theorem Rf.cells_len : ∀ e : Rf, e.cells.length = 2 := fun _ => rfl
theorem Rf.cells_one (ys : List Rf) : ∀ u ∈ ys, ∀ c ∈ u.cells, c.oneCell' = true := fun n _ c hc => by simp [Rf.cells] at hc; rcases hc with h | h <;> subst h <;> rfl
theorem Stm.cells_len : ∀ e : Stm, e.cells.length = 9 := fun _ => rfl
theorem Stm.cells_one (ys : List Stm) : ∀ u ∈ ys, ∀ c ∈ u.cells, c.oneCell' = true := fun n _ c hc => by simp [Stm.cells] at hc; rcases hc with h | h | h | h | h | h | h | h | h <;> subst h <;> rfl
end Go.Rd
end

section
namespace Go.Rd
open Go.RowKit
set_option linter.unusedVariables false

/-! ### Stores into a slice of one-cell elements -/
theorem flatten_one {α : Type} {c : α → Value} {enc : α → List Value} (he : ∀ u, enc u = [c u]) : ∀ xs : List α, (xs.map enc).flatten = xs.map c
  | [] => rfl
  | x :: xs => by simp [he, flatten_one he xs]
theorem map_upd {α β : Type} {f : α → β} {xs : List α} {i : Int} {z : α} : (upd xs i z).map f = (xs.map f).set i.toNat (f z) := by unfold upd; rw [List.map_set]
theorem upd_length {α : Type} {xs : List α} {i : Int} {z : α} : (upd xs i z).length = xs.length := by simp [upd]
theorem elemP_lit {b n c : Nat} {i : Int} {p : Addr} (h : ElemP (.slice (some ⟨b, 0, none⟩) n c) i 1 p) : p = ⟨b, i.toNat, none⟩ := by
  obtain ⟨a, n', c', he, h0, h1, rfl⟩ := h
  simp only [Value.slice.injEq, Option.some.injEq] at he
  obtain ⟨rfl, _, _⟩ := he
  rw [Addr.add_lit]; simp
theorem run_store_one {P : Program} {w : World} {p : Addr} {v u : Value} (h : w.cell? p = some v) (hf : w.frozen? p = false) (h1 : u.oneCell' = true) : (store p u).run P w = .ok () (w.setCell p u) := by
  cases u <;> simp_all [store, Sem.run, Value.oneCell']
theorem vec_set1 {P : Program} {α : Type} {c : α → Value} {enc : α → List Value} (he : ∀ u, enc u = [c u]) {w : World} {v : Value} {E : TypeId} {xs : List α} {i : Int} {p : Addr} {z : α} (h : (vec v E 1 (xs.map enc)).holds w) (hp : ElemP v i 1 p) (h1 : (c z).oneCell' = true) :
    ∃ b, (∃ n k, v = .slice (some ⟨b, 0, none⟩) n k) ∧ p = ⟨b, i.toNat, none⟩ ∧ (store p (c z)).run P w = .ok () (w.setCell p (c z)) ∧ (vec v E 1 ((upd xs i z).map enc)).holds (w.setCell p (c z)) ∧
      (∀ j, j ≠ b → (w.setCell p (c z)).heap[j]? = w.heap[j]?) := by
  obtain ⟨ho, hl⟩ := h
  rcases ho.2 with ⟨rfl, _⟩ | ⟨b, cap, cur, rfl, hb, hh, hnc, hcm, hcs, ht⟩
  · obtain ⟨a, n, c', he', _⟩ := hp; simp at he'
  · have hpe := elemP_lit hp
    subst hpe
    obtain ⟨a, n', c', he', h0, hi, _⟩ := hp
    simp only [Value.slice.injEq, Option.some.injEq] at he'
    obtain ⟨_, rfl, rfl⟩ := he'
    have hsz : i.toNat < cur.size := by rw [hcs]; omega
    have hcell : w.cell? ⟨b, i.toNat, none⟩ = some cur[i.toNat] := by simp [World.cell?, hh, hsz]
    have hfr : w.frozen? ⟨b, i.toNat, none⟩ = false := by simp [World.frozen?, hh]
    obtain ⟨hst, hg⟩ := World.ownsRow.stored ho i.toNat (c z)
    refine ⟨b, ⟨_, _, rfl⟩, rfl, run_store_one hcell hfr h1, ⟨?_, ?_⟩, fun j hj => Below.heap_setCell _ _ _ _ hj⟩
    · rw [flatten_one he] at hst ⊢
      rw [map_upd (f := c)]
      simpa [upd_length] using hst
    · intro r hr
      obtain ⟨u, _, rfl⟩ := List.mem_map.1 hr
      simp [he]

section
variable {P : Program} {n : Nat} {σ : Env} {M : Nat → Prop} {w0 : World} {H : List Res} {d : Option Tmp} {T U E E2 S T2 : TypeId} {pos : String} {after : Array Edge} {gd : Option (Nat × Bool)} {x y : Operand} {g g' : Bool} {v : Value}
  {K : Act → World → Prop} {Q : Exit → Act → World → Prop}

theorem EV.storeV {α : Type} {c : α → Value} {enc : α → List Value} (k : Nat) (z : α) {xs : List α} {i : Int} {p : Addr} (he : ∀ u, enc u = [c u]) (hx : σ.ev x = some (g, .pointer (some p))) (hg : g = true) (hy : σ.ev y = some (g', c z)) (hg' : g' = true)
    (hk : H[k]? = some (vec v E 1 (xs.map enc))) (hp : ElemP v i 1 p) (h1 : (c z).oneCell' = true) (hv : (c z).cells = [c z].toArray) (hs : SizeT P T 1)
    (kk : WK n K σ (Own M w0 (H.set k (vec v E 1 ((upd xs i z).map enc))))) : EV P n ⟨none, .store T x y, U, pos, after, gd⟩ σ (Own M w0 H) K Q := fun a w ha hw => by
  refine .inl ?_
  obtain ⟨b, ⟨n1, k1, rfl⟩, rfl, h3, h4, h5⟩ := vec_set1 (P := P) he (z := z) (hw.at k hk) hp h1
  obtain ⟨inf, hi, hsz⟩ := Option.map_eq_some_iff.1 hs
  have hrun : (execOp a.eval ⟨none, .store T x y, U, pos, after, gd⟩).run P w = .ok .skip (w.setCell ⟨b, i.toNat, none⟩ (c z)) := by
    simp [execOp, ha.ev hx hg, ha.ev hy hg', Instr.storeAt, Instr.sureAddr, storeVar, hv, sizeOf, typeInfo, hi, hsz, storeCells, h3, Addr.add]
  unfold Oper.wp
  rw [hrun]
  show K (a.put none undef) _
  have hlt : b < w.heap.size := vec_foot_lt (hw.at k hk) b ⟨_, _, rfl⟩
  refine kk a _ ha (hw.upd k hk rfl rfl ⟨rfl, Nat.le_refl _⟩ (by simp [World.setCell]) (fun c hc hne => h5 c fun e => hne (by subst e; exact ⟨_, _, rfl⟩)) h4 fun c hc => ?_)
  obtain ⟨n2, k2, he2⟩ := hc
  simp only [Value.slice.injEq, Option.some.injEq, Addr.mk.injEq] at he2
  obtain ⟨⟨rfl, _⟩, _⟩ := he2
  exact ⟨.inl ⟨_, _, rfl⟩, by simpa [World.setCell] using hlt⟩

/-! ### make -/
theorem EV.makeSlice {α : Type} {enc : α → List Value} (z : α) {dd sz bytes : Nat} {m : Int} (hn : dd < n) (hV : VecT P T E sz bytes) (hz : ZeroT P E (enc z)) (hx : σ.ev x = some (g, .int .i64 m)) (hg : g = true) (h0 : 0 ≤ m) (hl : (enc z).length = sz) (hA : AL m.toNat bytes)
    (kk : ∀ u, SliceLen u (List.replicate m.toNat z).length → WK n K ((dd, (true, u)) :: σ) (Own M w0 (vec u E sz ((List.replicate m.toNat z).map enc) :: H))) : EV P n ⟨some dd, .makeSlice T x x, U, pos, after, gd⟩ σ (Own M w0 H) K Q := fun a w ha hw => by
  refine .inl ?_
  obtain ⟨hU, hi, hsz⟩ := hV
  obtain ⟨i, hi, hq⟩ := Option.map_eq_some_iff.1 hi
  simp only [Prod.mk.injEq] at hq
  obtain ⟨hzq, his, hib⟩ := hq
  obtain ⟨i', zv, h1, h2, h3⟩ := hz.out
  have : i' = i := by rw [hi] at h1; cases h1; rfl
  subst this
  have hm : (m.toNat : Int) = m := Int.toNat_of_nonneg h0
  obtain ⟨w', hr, ho, hgr⟩ := run_make_full (P := P) w w.heap.size T E i' zv sz hU hi h2 his .i64 .i64 m.toNat (by rw [hib]; have := hA.2; rw [Nat.mul_comm]; omega) hA.1 (Nat.le_refl _)
  rw [hm] at hr
  have hrun : (execOp a.eval ⟨some dd, .makeSlice T x x, U, pos, after, gd⟩).run P w = .ok (.value (.slice (some ⟨w.heap.size, 0, none⟩) m.toNat m.toNat)) w' := by
    simp [execOp, ha.ev hx hg, hr, Result.andThen]
  unfold Oper.wp
  rw [hrun]
  show K (a.put (some dd) _) _
  have hrep : (madeCells zv.cells (m.toNat * sz)).toList = ((List.replicate m.toNat z).map enc).flatten := by
    rw [h3]
    apply List.ext_getElem?
    intro j
    have hfl : ((List.replicate m.toNat z).map enc).flatten.length = m.toNat * sz := by
      rw [flatten_len (sz := sz) (by intro r hr; obtain ⟨u, hu, rfl⟩ := List.mem_map.1 hr; rw [List.mem_replicate] at hu; rw [hu.2, hl])]; simp
    by_cases hj : j < m.toNat * sz
    · have hq : j / sz < m.toNat := Nat.div_lt_of_lt_mul (by rwa [Nat.mul_comm] at hj)
      have hd := drop_flatten (sz := sz) (rows := (List.replicate m.toNat z).map enc) (i := j / sz) (r := enc z) (by intro r hr; obtain ⟨u, hu, rfl⟩ := List.mem_map.1 hr; rw [List.mem_replicate] at hu; rw [hu.2, hl]) (by simp [hq])
      have hmod : j % sz < sz := Nat.mod_lt _ hsz
      have e1 : ((List.replicate m.toNat z).map enc).flatten[j]? = (enc z)[j % sz]? := by
        have : (enc z)[j % sz]? = ((((List.replicate m.toNat z).map enc).flatten.drop (j / sz * sz)).take (enc z).length)[j % sz]? := by rw [hd]
        rw [this, List.getElem?_take, hl, if_pos hmod, List.getElem?_drop, Nat.mul_comm, Nat.div_add_mod]
      rw [e1]
      have hlt : j % sz < (enc z).length := by rw [hl]; exact hmod
      simp [madeCells, hj, hl, List.getElem?_eq_getElem hlt]
    · have hj' := Nat.le_of_not_lt hj
      rw [List.getElem?_eq_none (by rw [Array.length_toList, size_madeCells]; exact hj'), List.getElem?_eq_none (by rw [hfl]; exact hj')]
  have hholds : (vec (.slice (some ⟨w.heap.size, 0, none⟩) m.toNat m.toNat) E sz ((List.replicate m.toNat z).map enc)).holds w' := by
    refine ⟨?_, fun r hr => ?_⟩
    · rw [← hrep]
      have : ((List.replicate m.toNat z).map enc).length = m.toNat := by simp
      rw [this]
      refine ⟨ho.1, ?_⟩
      rcases ho.2 with h | ⟨g2, c2, cur, q1, q2, q3⟩
      · exact .inl h
      · exact .inr ⟨g2, c2, cur, q1, Nat.zero_le _, q3⟩
    · obtain ⟨u, hu, rfl⟩ := List.mem_map.1 hr
      rw [List.mem_replicate] at hu; rw [hu.2, hl]
  have hgrow : Grow w w' := ⟨hgr.os, hgr.tape, ⟨hgr.output, run_drawn _ _ hr⟩, hgr.size, fun b hb => hgr.block b hb (by simp)⟩
  refine kk _ ?_ _ _ (ha.put hn true _) (hw.push hgrow _ hholds fun b hb => ?_)
  · exact ⟨some ⟨w.heap.size, 0, none⟩, m.toNat, by simp, fun _ => rfl, by simp⟩
  · have hlt := vec_foot_lt hholds b hb
    obtain ⟨n2, k2, he2⟩ := hb
    simp only [Value.slice.injEq, Option.some.injEq, Addr.mk.injEq] at he2
    obtain ⟨⟨rfl, _⟩, _⟩ := he2
    exact ⟨Nat.le_refl _, hlt⟩
end
theorem icell_eq : ∀ u : Int, icell u = [i64v u] := fun _ => rfl
theorem bcell_eq : ∀ u : UInt8, bcell u = [(fun b : UInt8 => Value.int .u8 (b.toNat : Int)) u] := fun _ => rfl
end Go.Rd
end

section
namespace Go.Rd
open Go.RowKit
set_option linter.unusedVariables false

def hcell (h : Value) : List Value := [h]
theorem hcell_eq : ∀ u : Value, hcell u = [id u] := fun _ => rfl
def nilS : Value := .slice none 0 0
def hat (hs : List Value) (i : Int) : Value := hs.getD i.toNat nilS
def vfoot (h : Value) (b : Nat) : Prop := ∃ n c, h = .slice (some ⟨b, 0, none⟩) n c
def updG (xss : List (List Int)) (i j : Int) (z : Int) : List (List Int) := upd xss i (upd (ele xss i) j z)
/-- Each header is as long as its row. -/
def GL (hs : List Value) (xss : List (List Int)) : Prop := hs.length = xss.length ∧ ∀ i : Nat, SliceLen (hs.getD i nilS) (xss.getD i []).length

def grid (v : Value) (hs : List Value) (E1 E2 : TypeId) (xss : List (List Int)) : Res where
  foot := fun b => vfoot v b ∨ ∃ i : Nat, i < hs.length ∧ vfoot (hs.getD i nilS) b
  holds := fun w => (vec v E1 1 (hs.map hcell)).holds w ∧ hs.length = xss.length ∧ (∀ i : Nat, i < hs.length → (vec (hs.getD i nilS) E2 1 ((xss.getD i []).map icell)).holds w) ∧
    (∀ i j : Nat, i < hs.length → j < hs.length → i ≠ j → ∀ b, vfoot (hs.getD i nilS) b → ¬ vfoot (hs.getD j nilS) b) ∧ ∀ i : Nat, i < hs.length → ∀ b, vfoot (hs.getD i nilS) b → ¬ vfoot v b
  stable := fun w w' ⟨h1, h2, h3, h4, h5⟩ hk => ⟨(vec v E1 1 (hs.map hcell)).stable w w' h1 fun b hb => hk b (.inl hb), h2, fun i hi => (vec _ E2 1 _).stable w w' (h3 i hi) fun b hb => hk b (.inr ⟨i, hi, hb⟩), h4, h5⟩

section
variable {w : World} {v : Value} {hs : List Value} {E1 E2 : TypeId} {xss : List (List Int)} {i j : Int} {p : Addr}
theorem getD_some {α : Type} {l : List α} {d : α} {i : Nat} (h : i < l.length) : l[i]? = some (l.getD i d) := by
  rw [List.getD_eq_getElem?_getD, List.getElem?_eq_getElem h]; rfl
theorem ele_getD (xss : List (List Int)) (i : Int) : ele xss i = xss.getD i.toNat [] := rfl
theorem vec_slen {v : Value} {E sz : Nat} {rows : List (List Value)} (h : (vec v E sz rows).holds w) : SliceLen v rows.length := (vec_arr h).len
theorem grid_GL (h : (grid v hs E1 E2 xss).holds w) : GL hs xss := by
  obtain ⟨h1, h2, h3, h4, h5⟩ := h
  refine ⟨h2, fun i => ?_⟩
  by_cases hi : i < hs.length
  · have := vec_slen (h3 i hi)
    rwa [List.length_map] at this
  · rw [List.getD_eq_getElem?_getD, List.getElem?_eq_none (by omega), List.getD_eq_getElem?_getD, List.getElem?_eq_none (by omega)]
    exact SliceLen.nil
theorem GL.ix (h : GL hs xss) (i : Int) : SliceLen (hat hs i) (ele xss i).length := h.2 i.toNat
theorem slen_upd {α : Type} {v : Value} {xs : List α} {i : Int} {z : α} (h : SliceLen v xs.length) : SliceLen v (upd xs i z).length := by rw [upd_length]; exact h
theorem slen_updG {v : Value} {xss : List (List Int)} {i j z : Int} (h : SliceLen v xss.length) : SliceLen v (Rd.updG xss i j z).length := by unfold Rd.updG; rw [upd_length]; exact h
theorem slen_map {v : Value} {B : List (Value × List Int)} {xss : List (List Int)} (h : B.map (·.2) = xss) (hs : SliceLen v B.length) : SliceLen v xss.length := by subst h; rwa [List.length_map]
theorem GL.nil : GL [] [] := ⟨rfl, fun _ => SliceLen.nil⟩
theorem GL.snoc {u : Value} {xs : List Int} (h : GL hs xss) (hu : SliceLen u xs.length) : GL (hs ++ [u]) (xss ++ [xs]) := by
  refine ⟨by simp [h.1], fun i => ?_⟩
  rcases Nat.lt_trichotomy i hs.length with hi | hi | hi
  · have h1 : (hs ++ [u]).getD i nilS = hs.getD i nilS := by simp [List.getD_eq_getElem?_getD, List.getElem?_append_left hi]
    have h2 : (xss ++ [xs]).getD i [] = xss.getD i [] := by simp [List.getD_eq_getElem?_getD, List.getElem?_append_left (h.1 ▸ hi)]
    rw [h1, h2]; exact h.2 i
  · subst hi
    have h1 : (hs ++ [u]).getD hs.length nilS = u := by simp [List.getD_eq_getElem?_getD]
    have h2 : (xss ++ [xs]).getD hs.length [] = xs := by rw [h.1]; simp [List.getD_eq_getElem?_getD]
    rw [h1, h2]; exact hu
  · have h1 : (hs ++ [u]).getD i nilS = nilS := by rw [List.getD_eq_getElem?_getD, List.getElem?_eq_none (by simp; omega)]; rfl
    have h2 : (xss ++ [xs]).getD i [] = [] := by rw [List.getD_eq_getElem?_getD, List.getElem?_eq_none (by simp; have := h.1; omega)]; rfl
    rw [h1, h2]; exact SliceLen.nil
theorem getD_upd {α : Type} {l : List α} {d z : α} {k : Nat} {i : Int} : (upd l i z).getD k d = if i.toNat = k ∧ k < l.length then z else l.getD k d := by
  unfold upd
  rw [List.getD_eq_getElem?_getD, List.getElem?_set, List.getD_eq_getElem?_getD]
  by_cases h : i.toNat = k
  · subst h
    by_cases hl : i.toNat < l.length
    · simp [hl]
    · simp [hl, List.getElem?_eq_none (Nat.le_of_not_lt hl)]
  · simp [h]
theorem GL.upd {u : Value} {xs : List Int} (h : GL hs xss) (hu : SliceLen u xs.length) (i : Int) : GL (upd hs i u) (upd xss i xs) := by
  refine ⟨by simp [upd_length, h.1], fun k => ?_⟩
  rw [getD_upd, getD_upd, h.1]
  split
  · exact hu
  · exact h.2 k
theorem GL.updG (h : GL hs xss) (i j z : Int) : GL hs (updG xss i j z) := by
  refine ⟨by simp [Rd.updG, upd_length, h.1], fun k => ?_⟩
  unfold Rd.updG
  rw [getD_upd]
  split
  · rename_i hk
    obtain ⟨rfl, _⟩ := hk
    rw [upd_length]; exact h.2 i.toNat
  · exact h.2 k
theorem GL.rep (n : Nat) : GL (List.replicate n nilS) (List.replicate n []) := by
  refine ⟨by simp, fun i => ?_⟩
  have h1 : (List.replicate n nilS).getD i nilS = nilS := by simp only [List.getD_eq_getElem?_getD, List.getElem?_replicate]; split <;> rfl
  have h2 : (List.replicate n ([] : List Int)).getD i [] = [] := by simp only [List.getD_eq_getElem?_getD, List.getElem?_replicate]; split <;> rfl
  rw [h1, h2]; exact SliceLen.nil

theorem grid_rows (h : (grid v hs E1 E2 xss).holds w) : RowsA w v xss := by
  obtain ⟨h1, h2, h3, h4, h5⟩ := h
  refine ⟨hs.zip xss, by rw [List.map_snd_zip (by omega)], ?_, fun q hq => ?_⟩
  · have := vec_arr h1
    have e : (hs.zip xss).map vcell = hs.map hcell := by
      have : (hs.zip xss).map vcell = ((hs.zip xss).map (·.1)).map hcell := by rw [List.map_map]; rfl
      rw [this, List.map_fst_zip (by omega)]
    rw [e]; exact this
  · obtain ⟨k, hk, rfl⟩ := List.mem_iff_getElem.1 hq
    have hk1 : k < hs.length := by simp at hk; omega
    have hk2 : k < xss.length := by simp at hk; omega
    have := vec_arr (h3 k hk1)
    rw [List.getD_eq_getElem?_getD, List.getElem?_eq_getElem hk1, List.getD_eq_getElem?_getD, List.getElem?_eq_getElem hk2] at this
    simpa using this
theorem grid_hdr (h : (grid v hs E1 E2 xss).holds w) (hp : ElemP v i 1 p) (hi : IX i (ln xss)) : w.cell? p = some (hat hs i) := by
  obtain ⟨h1, h2, _⟩ := h
  have hlt : i.toNat < hs.length := by have := hi.1; have := hi.2; unfold ln at this; omega
  have := (vec_arr h1).row i.toNat [hs.getD i.toNat nilS] p (by rw [List.getElem?_map, getD_some hlt]; rfl) (by rwa [Int.toNat_of_nonneg hi.1])
  have h := this.1
  simpa [Addr.add, hat, List.getD_eq_getElem?_getD] using h
theorem grid_arr (h : (grid v hs E1 E2 xss).holds w) (hi : IX i (ln xss)) : Arr w (hat hs i) 1 ((ele xss i).map icell) := by
  obtain ⟨h1, h2, h3, _⟩ := h
  have hlt : i.toNat < hs.length := by have := hi.1; have := hi.2; unfold ln at this; omega
  exact vec_arr (h3 i.toNat hlt)
theorem vfoot_slen {h : Value} {b n : Nat} (hf : vfoot h b) : ∃ n c, h = .slice (some ⟨b, 0, none⟩) n c := hf
theorem vec_same {w w' : World} {h : Value} {E sz : Nat} {rows : List (List Value)} (hv : (vec h E sz rows).holds w) (hk : ∀ b, vfoot h b → w'.heap[b]? = w.heap[b]?) : (vec h E sz rows).holds w' := (vec h E sz rows).stable w w' hv hk
theorem grid_lt (h : (grid v hs E1 E2 xss).holds w) : ∀ b, (grid v hs E1 E2 xss).foot b → b < w.heap.size := fun b hb => by
  rcases hb with hb | ⟨i, hi, hb⟩
  · exact vec_foot_lt h.1 b hb
  · exact vec_foot_lt (h.2.2.1 i hi) b hb
end

section
variable {M : Nat → Prop} {w0 : World} {H : List Res} {v : Value} {hs : List Value} {E1 E2 : TypeId} {xss : List (List Int)} {i j : Int} {p : Addr}
theorem Own.gridRows (k : Nat) (hk : H[k]? = some (grid v hs E1 E2 xss)) : ∀ w, Own M w0 H w → RowsA w v xss := fun w hw => grid_rows (hw.at k hk)
theorem Own.gridHdr (k : Nat) (hk : H[k]? = some (grid v hs E1 E2 xss)) (hp : ElemP v i 1 p) (hi : IX i (ln xss)) : ∀ w, Own M w0 H w → w.cell? p = some (hat hs i) := fun w hw => grid_hdr (hw.at k hk) hp hi
theorem Own.gridArr (k : Nat) (hk : H[k]? = some (grid v hs E1 E2 xss)) (hi : IX i (ln xss)) : ∀ w, Own M w0 H w → Arr w (hat hs i) 1 ((ele xss i).map icell) := fun w hw => grid_arr (hw.at k hk) hi
theorem Own.gridNil {w : World} (h : Own M w0 H w) {E1 E2 : TypeId} : Own M w0 (grid nilS [] E1 E2 [] :: H) w := by
  refine ⟨h.1, ⟨⟨vec_nil (α := Value) (enc := hcell), rfl, fun i hi => absurd hi (Nat.not_lt_zero _), fun i j hi => absurd hi (Nat.not_lt_zero _), fun i hi => absurd hi (Nat.not_lt_zero _)⟩, fun b hb => ?_, fun s _ b hb => ?_⟩, h.2⟩
  · rcases hb with ⟨_, _, hb⟩ | ⟨i, hi, _⟩
    · simp [nilS] at hb
    · exact absurd hi (Nat.not_lt_zero _)
  · rcases hb with ⟨_, _, hb⟩ | ⟨i, hi, _⟩
    · simp [nilS] at hb
    · exact absurd hi (Nat.not_lt_zero _)
/-- A slice of nil slices is a grid of empty rows. -/
theorem Own.gridRep {w : World} {n : Nat} (h : Own M w0 (vec v E1 1 ((List.replicate n nilS).map hcell) :: H) w) (E2 : TypeId) : Own M w0 (grid v (List.replicate n nilS) E1 E2 (List.replicate n []) :: H) w := by
  obtain ⟨h0, ⟨h1, h2, h3⟩, h4⟩ := h
  have hn : ∀ i : Nat, (List.replicate n nilS).getD i nilS = nilS := fun i => by simp only [List.getD_eq_getElem?_getD, List.getElem?_replicate]; split <;> rfl
  have hr : ∀ i : Nat, (List.replicate n ([] : List Int)).getD i [] = [] := fun i => by simp only [List.getD_eq_getElem?_getD, List.getElem?_replicate]; split <;> rfl
  have hf : ∀ i b, ¬ vfoot ((List.replicate n nilS).getD i nilS) b := fun i b ⟨_, _, hb⟩ => by rw [hn] at hb; simp [nilS] at hb
  refine ⟨h0, ⟨⟨h1, by simp, fun i hi => ?_, fun i j _ _ _ b hb => absurd hb (hf i b), fun i _ b hb => absurd hb (hf i b)⟩, fun b hb => ?_, fun s hs b hb => ?_⟩, h4⟩
  · rw [hn, hr]; exact vec_nil (α := Int) (enc := icell)
  · rcases hb with hb | ⟨i, _, hb⟩
    · exact h2 b hb
    · exact absurd hb (hf i b)
  · rcases hb with hb | ⟨i, _, hb⟩
    · exact h3 s hs b hb
    · exact absurd hb (hf i b)
end

section
variable {P : Program} {n : Nat} {σ : Env} {M : Nat → Prop} {w0 : World} {H : List Res} {d : Option Tmp} {T U E E1 E2 : TypeId} {pos : String} {after : Array Edge} {gd : Option (Nat × Bool)} {x y : Operand} {g g' : Bool} {v u yv : Value} {hs : List Value} {xss : List (List Int)} {xs : List Int}
  {K : Act → World → Prop} {Q : Exit → Act → World → Prop} {i j : Int} {p : Addr} {w : World}

theorem grid_set (h : (grid v hs E1 E2 xss).holds w) (hi : IX i (ln xss)) (hp : ElemP (hat hs i) j 1 p) (z : Int) :
    ∃ b, (grid v hs E1 E2 xss).foot b ∧ (store p (i64v z)).run P w = .ok () (w.setCell p (i64v z)) ∧ (grid v hs E1 E2 (updG xss i j z)).holds (w.setCell p (i64v z)) ∧ (∀ k, k ≠ b → (w.setCell p (i64v z)).heap[k]? = w.heap[k]?) := by
  obtain ⟨h1, h2, h3, h4, h5⟩ := h
  have hlt : i.toNat < hs.length := by have := hi.1; have := hi.2; unfold ln at this; omega
  obtain ⟨b, ⟨n1, k1, hb⟩, rfl, hst, hv, hsame⟩ := vec_set1 (P := P) (c := i64v) icell_eq (z := z) (h3 i.toNat hlt) hp rfl
  have hbf : vfoot (hs.getD i.toNat nilS) b := ⟨n1, k1, hb⟩
  refine ⟨b, .inr ⟨_, hlt, hbf⟩, hst, ⟨vec_same h1 fun c hc => hsame c fun e => h5 _ hlt b hbf (e ▸ hc), by simp [updG, upd_length, h2], fun k hk => ?_, h4, h5⟩, hsame⟩
  unfold updG
  rw [getD_upd]
  split
  · rename_i e
    obtain ⟨rfl, _⟩ := e
    exact hv
  · rename_i e
    have hne : ¬ i.toNat = k := fun e' => e ⟨e', by omega⟩
    exact vec_same (h3 k hk) fun c hc => hsame c fun e' => h4 i.toNat k hlt hk hne b hbf (e' ▸ hc)

/-- A store to a word of a row. -/
theorem EV.storeG (k : Nat) (z : Int) (hx : σ.ev x = some (g, .pointer (some p))) (hg : g = true) (hy : σ.ev y = some (g', .int .i64 z)) (hg' : g' = true) (hk : H[k]? = some (grid v hs E1 E2 xss)) (hi : IX i (ln xss)) (hp : ElemP (hat hs i) j 1 p) (hs' : SizeT P T 1)
    (kk : WK n K σ (Own M w0 (H.set k (grid v hs E1 E2 (updG xss i j z))))) : EV P n ⟨none, .store T x y, U, pos, after, gd⟩ σ (Own M w0 H) K Q := fun a w ha hw => by
  refine .inl ?_
  obtain ⟨b, hbf, h3, h4, h5⟩ := grid_set (P := P) (hw.at k hk) hi hp z
  obtain ⟨inf, hin, hsz⟩ := Option.map_eq_some_iff.1 hs'
  have hrun : (execOp a.eval ⟨none, .store T x y, U, pos, after, gd⟩).run P w = .ok .skip (w.setCell p (i64v z)) := by
    have h3' : (Go.store (p.add 0) (.int .i64 z)).run P w = .ok () (w.setCell p (i64v z)) := by simpa [Addr.add, i64v] using h3
    simp [execOp, ha.ev hx hg, ha.ev hy hg', Instr.storeAt, Instr.sureAddr, storeVar, Value.cells, sizeOf, typeInfo, hin, hsz, storeCells, h3']
  unfold Oper.wp
  rw [hrun]
  show K (a.put none undef) _
  have hlt := grid_lt (hw.at k hk)
  exact kk a _ ha (hw.upd k hk rfl rfl ⟨rfl, Nat.le_refl _⟩ (by simp [World.setCell]) (fun c hc hne => h5 c fun e => hne (e ▸ hbf)) h4 fun c hc => ⟨.inl hc, by simpa [World.setCell] using hlt c hc⟩)

theorem Own.two {r s : Res} {w : World} (h : Own M w0 (r :: s :: H) w) : r.holds w ∧ s.holds w ∧ (∀ b, r.foot b → ¬ s.foot b) := ⟨h.2.1.1, h.2.2.1.1, fun b hb => h.2.1.2.2 s (by simp) b hb⟩
/-- Two resources become one. -/
theorem Own.merge {r s t : Res} {w w' : World} (h : Own M w0 (r :: s :: H) w) (hos : w'.os = w.os) (htape : w'.tape = w.tape) (hout : w'.output = w.output ∧ w.drawn ≤ w'.drawn) (hsz : w.heap.size ≤ w'.heap.size)
    (hch : ∀ b, b < w.heap.size → ¬ r.foot b → ¬ s.foot b → w'.heap[b]? = w.heap[b]?) (ht : t.holds w') (hf : ∀ b, t.foot b → (r.foot b ∨ s.foot b ∨ w.heap.size ≤ b) ∧ b < w'.heap.size) : Own M w0 (t :: H) w' := by
  obtain ⟨h0, ⟨r1, r2, r3⟩, ⟨s1, s2, s3⟩, h4⟩ := h
  refine ⟨h0.trans ⟨hos, htape, hout, hsz, fun b hb hM => hch b hb (fun hr => hM (r2 b hr).1) fun hs => hM (s2 b hs).1⟩, ⟨ht, fun b hb => ⟨?_, (hf b hb).2⟩, fun q hq b hb hqb => ?_⟩, ?_⟩
  · rcases (hf b hb).1 with h | h | h
    · exact (r2 b h).1
    · exact (s2 b h).1
    · exact .inr (Nat.le_trans h0.size h)
  · rcases (hf b hb).1 with h | h | h
    · exact r3 q (List.mem_cons_of_mem _ hq) b h hqb
    · exact s3 q hq b h hqb
    · have := (h4.lt q hq b hqb).2; omega
  · exact h4.change hsz fun q hq b hqb => hch b (h4.lt q hq b hqb).2 (fun hr => r3 q (List.mem_cons_of_mem _ hq) b hr hqb) fun hs => s3 q hq b hs hqb

/-- A row is put in: the header is stored. -/
theorem EV.storeRow (hx : σ.ev x = some (g, .pointer (some p))) (hg : g = true) (hy : σ.ev y = some (g', u)) (hg' : g' = true) (hp : ElemP v i 1 p) (hi : IX i (ln xss)) (hu : SliceLen u xs.length) (hs' : SizeT P T 1)
    (kk : WK n K σ (Own M w0 (grid v (upd hs i u) E1 E2 (upd xss i xs) :: H))) : EV P n ⟨none, .store T x y, U, pos, after, gd⟩ σ (Own M w0 (grid v hs E1 E2 xss :: vec u E2 1 (xs.map icell) :: H)) K Q := fun a w ha hw => by
  refine .inl ?_
  obtain ⟨⟨h1, h2, h3, h4, h5⟩, hv, hdis⟩ := hw.two
  have hlt : i.toNat < hs.length := by have := hi.1; have := hi.2; unfold ln at this; omega
  have hone : (id u).oneCell' = true := hu.one
  obtain ⟨b, ⟨n1, k1, rfl⟩, rfl, hst, hset, hsame⟩ := vec_set1 (P := P) (c := id) hcell_eq (z := u) h1 hp hone
  obtain ⟨inf, hin, hsz⟩ := Option.map_eq_some_iff.1 hs'
  have hrun : (execOp a.eval ⟨none, .store T x y, U, pos, after, gd⟩).run P w = .ok .skip (w.setCell ⟨b, i.toNat, none⟩ (id u)) := by
    have h3' : (Go.store ((⟨b, i.toNat, none⟩ : Addr).add 0) u).run P w = .ok () (w.setCell ⟨b, i.toNat, none⟩ (id u)) := by simpa [Addr.add] using hst
    simp [execOp, ha.ev hx hg, ha.ev hy hg', Instr.storeAt, Instr.sureAddr, storeVar, hu.cells, sizeOf, typeInfo, hin, hsz, storeCells, h3']
  unfold Oper.wp
  rw [hrun]
  show K (a.put none undef) _
  have hvb : vfoot (.slice (some ⟨b, 0, none⟩) n1 k1) b := ⟨_, _, rfl⟩
  have hnb : ∀ c, vfoot (.slice (some ⟨b, 0, none⟩) n1 k1) c → c = b := fun c ⟨_, _, he⟩ => by simp at he; exact he.1.symm
  have hub : ∀ c, vfoot u c → c ≠ b := fun c hc e => hdis b (.inl hvb) (e ▸ hc)
  refine kk a _ ha (hw.merge rfl rfl ⟨rfl, Nat.le_refl _⟩ (by simp [World.setCell]) (fun c hc hr hs => hsame c fun e => hr (by subst e; exact .inl hvb)) ⟨hset, by simp [upd_length, h2], fun k hk => ?_, fun k l hk hl hne c hc hc' => ?_, fun k hk c hc hc' => ?_⟩ fun c hc => ?_)
  · rw [upd_length] at hk
    rw [getD_upd, getD_upd, ← h2]
    split
    · exact vec_same hv fun c hc => hsame c (hub c hc)
    · exact vec_same (h3 k hk) fun c hc => hsame c fun e => h5 k hk c hc (e ▸ hvb)
  · rw [upd_length] at hk hl
    rw [getD_upd] at hc hc'
    split at hc <;> split at hc'
    · rename_i e1 e2; exact hne (e1.1.symm.trans e2.1)
    · exact hdis c (.inr ⟨l, hl, hc'⟩) hc
    · exact hdis c (.inr ⟨k, hk, hc⟩) hc'
    · exact h4 k l hk hl hne c hc hc'
  · rw [upd_length] at hk
    rw [getD_upd] at hc
    split at hc
    · exact hub c hc (hnb c hc')
    · exact h5 k hk c hc hc'
  · have hsize : (w.setCell ⟨b, i.toNat, none⟩ (id u)).heap.size = w.heap.size := by simp [World.setCell]
    rw [hsize]
    rcases hc with hc | ⟨k, hk, hc⟩
    · exact ⟨.inl (.inl hc), vec_foot_lt h1 c hc⟩
    · rw [upd_length] at hk
      rw [getD_upd] at hc
      split at hc
      · exact ⟨.inr (.inl hc), vec_foot_lt hv c hc⟩
      · exact ⟨.inl (.inr ⟨k, hk, hc⟩), vec_foot_lt (h3 k hk) c hc⟩

/-- A row is appended. -/
theorem EV.appendG {dd bytes : Nat} (hn : dd < n) (hV : VecT P U E1 1 bytes) (hx : σ.ev x = some (g, v)) (hg : g = true) (hy : σ.ev y = some (g', yv)) (hg' : g' = true) (hu : SliceLen u xs.length)
    (hnew : ∀ w, Own M w0 (grid v hs E1 E2 xss :: vec u E2 1 (xs.map icell) :: H) w → Arr w yv 1 [[u]]) (hA : AL (xss ++ [xs]).length bytes) (hGL : GL hs xss)
    (kk : ∀ v', SliceLen v' (xss ++ [xs]).length → WK n K ((dd, (true, v')) :: σ) (Own M w0 (grid v' (hs ++ [u]) E1 E2 (xss ++ [xs]) :: H))) :
    EV P n ⟨some dd, .call ⟨.builtin .append, #[x, y], #[U, U]⟩, T, pos, after, gd⟩ σ (Own M w0 (grid v hs E1 E2 xss :: vec u E2 1 (xs.map icell) :: H)) K Q := fun a w ha hw => by
  refine .inl ?_
  obtain ⟨⟨h1, h2, h3, h4, h5⟩, hv, hdis⟩ := hw.two
  have hlen : (hs.map hcell).length = xss.length := by simp [h2]
  have hA1 := hA.1; have hA2 := hA.2
  simp only [List.length_append, List.length_singleton] at hA1 hA2
  obtain ⟨v', w', hr, g1, g2, g3, g4, g5, g6, g7⟩ := run_append_vec (T := T) hV h1 (hnew w hw) (fun r hr => by simp at hr; subst hr; rfl) (fun r hr c hc => by simp at hr; subst hr; simp at hc; subst hc; exact hu.one) (by rw [hlen]; simpa using hA1) (by rw [hlen]; simpa using hA2)
  have hrun : (execOp a.eval ⟨some dd, .call ⟨.builtin .append, #[x, y], #[U, U]⟩, T, pos, after, gd⟩).run P w = .ok (.value v') w' := by
    simp [execOp, resolve, invoke, builtin, ha.ev hx hg, ha.ev hy hg', hr, Result.andThen]
  unfold Oper.wp
  rw [hrun]
  show K (a.put (some dd) _) _
  have hmap : hs.map hcell ++ [[u]] = (hs ++ [u]).map hcell := by simp [hcell]
  rw [hmap] at g1 g7
  have hrows : ∀ k, k < hs.length → ∀ b, vfoot (hs.getD k nilS) b → w'.heap[b]? = w.heap[b]? := fun k hk b hb => g6 b (vec_foot_lt (h3 k hk) b hb) (h5 k hk b hb)
  have hub : ∀ b, vfoot u b → w'.heap[b]? = w.heap[b]? := fun b hb => g6 b (vec_foot_lt hv b hb) fun hvb => hdis b (.inl hvb) hb
  have hget : ∀ k, k < (hs ++ [u]).length → (k < hs.length ∧ (hs ++ [u]).getD k nilS = hs.getD k nilS ∧ (xss ++ [xs]).getD k [] = xss.getD k []) ∨ (k = hs.length ∧ (hs ++ [u]).getD k nilS = u ∧ (xss ++ [xs]).getD k [] = xs) := fun k hk => by
    rcases Nat.lt_or_ge k hs.length with h | h
    · exact .inl ⟨h, by simp [List.getD_eq_getElem?_getD, List.getElem?_append_left h], by simp [List.getD_eq_getElem?_getD, List.getElem?_append_left (h2 ▸ h)]⟩
    · have e : k = hs.length := by simp at hk; omega
      subst e
      exact .inr ⟨rfl, by simp [List.getD_eq_getElem?_getD], by rw [h2]; simp [List.getD_eq_getElem?_getD]⟩
  have hvnew : ∀ b, vfoot v' b → vfoot v b ∨ w.heap.size ≤ b := fun b hb => (g7 b hb).1
  have hsl : SliceLen v' (xss ++ [xs]).length := by
    have := vec_slen g1
    rw [List.length_map] at this
    rwa [show (xss ++ [xs]).length = (hs ++ [u]).length from by simp [h2]]
  refine kk v' hsl _ _ (ha.put hn true _) (hw.merge g2 g3 g4 g5 (fun b hb hr hs' => g6 b hb fun hvb => hr (.inl hvb)) ⟨g1, by simp [h2], fun k hk => ?_, fun k l hk hl hne b hb hb' => ?_, fun k hk b hb hb' => ?_⟩ fun b hb => ?_)
  · rcases hget k hk with ⟨q1, q2, q3⟩ | ⟨q1, q2, q3⟩
    · rw [q2, q3]; exact vec_same (h3 k q1) (hrows k q1)
    · rw [q2, q3]; exact vec_same hv hub
  · rcases hget k hk with ⟨q1, q2, _⟩ | ⟨q1, q2, _⟩ <;> rcases hget l hl with ⟨r1, r2, _⟩ | ⟨r1, r2, _⟩ <;> rw [q2] at hb <;> rw [r2] at hb'
    · exact h4 k l q1 r1 hne b hb hb'
    · exact hdis b (.inr ⟨k, q1, hb⟩) hb'
    · exact hdis b (.inr ⟨l, r1, hb'⟩) hb
    · omega
  · rcases hget k hk with ⟨q1, q2, _⟩ | ⟨q1, q2, _⟩ <;> rw [q2] at hb
    · rcases hvnew b hb' with h | h
      · exact h5 k q1 b hb h
      · have := vec_foot_lt (h3 k q1) b hb; omega
    · rcases hvnew b hb' with h | h
      · exact hdis b (.inl h) hb
      · have := vec_foot_lt hv b hb; omega
  · rcases hb with hb | ⟨k, hk, hb⟩
    · rcases g7 b hb with ⟨h | h, h'⟩
      · exact ⟨.inl (.inl h), h'⟩
      · exact ⟨.inr (.inr h), h'⟩
    · rcases hget k hk with ⟨q1, q2, _⟩ | ⟨q1, q2, _⟩ <;> rw [q2] at hb
      · exact ⟨.inl (.inr ⟨k, q1, hb⟩), Nat.lt_of_lt_of_le (vec_foot_lt (h3 k q1) b hb) g5⟩
      · exact ⟨.inr (.inl hb), Nat.lt_of_lt_of_le (vec_foot_lt hv b hb) g5⟩
end
end Go.Rd
end

section
namespace Go.Rd
open Go.RowKit
set_option linter.unusedVariables false
def bval (b : UInt8) : Value := .int .u8 (b.toNat : Int)
theorem addr_dyn {b off : Nat} {i : Int} (h : 0 ≤ i) : (((⟨b, 0, none⟩ : Addr).add off).add (i.toNat * 1)) = ⟨b, ((off : Int) + i).toNat, none⟩ := by
  rw [addr_sym]; congr 1; omega
theorem addr_dyn0 {b : Nat} {i : Int} : ((⟨b, 0, none⟩ : Addr).add (i.toNat * 1)) = ⟨b, i.toNat, none⟩ := add_one b i.toNat
theorem addr_lit {b : Nat} (j : Nat) : ((⟨b, 0, none⟩ : Addr).add j) = ⟨b, (j : Int).toNat, none⟩ := by
  rw [Addr.add_lit]; simp
section
variable {P : Program} {n : Nat} {σ : Env} {C : World → Prop} {M : Nat → Prop} {w0 : World} {H : List Res} {d : Option Tmp} {T U E D : TypeId} {pos : String} {after : Array Edge} {gd : Option (Nat × Bool)} {x y : Operand} {g g' : Bool} {v : Value}
  {K : Act → World → Prop} {Q : Exit → Act → World → Prop} {α : Type} {c : α → Value} {xs : List α} {b : Nat} {i : Int} {q : Addr}
theorem Own.cellG [Inhabited α] (k : Nat) (hk : H[k]? = some (blk b (xs.map c) T)) (hi : IX i (ln xs)) (hq : q = ⟨b, i.toNat, none⟩) : ∀ w, Own M w0 H w → w.cell? q = some (c (ele xs i)) := fun w hw => by
  subst hq
  have hlt : i.toNat < xs.length := by have := hi.1; have := hi.2; unfold ln at this; omega
  refine Own.cell k hk ?_ w hw
  rw [List.getElem?_map, List.getElem?_eq_getElem hlt]
  simp [ele, List.getD_eq_getElem?_getD, List.getElem?_eq_getElem hlt]
theorem Own.cellsL {cs : List Value} (k : Nat) (hk : H[k]? = some (blk b (xs.map c) T)) (he : xs.map c = cs) : ∀ w, Own M w0 H w → CellsAt w ⟨b, 0, none⟩ cs 0 := he ▸ Own.cellsBlk k hk
theorem EV.storeB (k : Nat) (i : Int) (z : α) (hx : σ.ev x = some (g, .pointer (some q))) (hg : g = true) (hy : σ.ev y = some (g', c z)) (hg' : g' = true) (hk : H[k]? = some (blk b (xs.map c) E)) (hq : q = ⟨b, i.toNat, none⟩) (hi : IX i (ln xs))
    (hv : (c z).cells = [c z].toArray) (ho : (c z).oneCell' = true) (hs : SizeT P T 1) (kk : WK n K σ (Own M w0 (H.set k (blk b ((upd xs i z).map c) E)))) : EV P n ⟨none, .store T x y, U, pos, after, gd⟩ σ (Own M w0 H) K Q := by
  have hlt : i.toNat < xs.length := by have := hi.1; have := hi.2; unfold ln at this; omega
  refine EV.store k (vs := [c z]) hx hg hy hg' hk hq hv hs (by simp; omega) (fun u hu => by simp at hu; subst hu; exact ho) ?_
  rw [show putL (xs.map c) i.toNat [c z] = (upd xs i z).map c from by simp [putL, upd, List.map_set]]
  exact kk
theorem Own.blkArrL (k : Nat) {enc : α → List Value} (he : ∀ u, enc u = [c u]) {m : Nat} (hk : H[k]? = some (blk b (xs.map c) T)) (hm : xs.length = m) : ∀ w, Own M w0 H w → Arr w (blkSlice b m m) 1 (xs.map enc) := fun w hw => by
  subst hm
  have := Own.blkArr (rows := xs.map enc) (sz := 1) k hk (flatten_one he xs) (fun r hr => by obtain ⟨u, _, rfl⟩ := List.mem_map.1 hr; simp [he]) w hw
  rwa [List.length_map] at this

/-- n pointers to the cells of a block, one behind the other. -/
def ptrsV (b m : Nat) : List Value := (List.range m).map fun j => .pointer (some ⟨b, j, none⟩)
theorem QV.indexPtrs {m : Nat} {k : IntKind} (hU : P.underlying U = some (.array m E)) (hE : Plain P E) (hs : SizeT P E 1) (hx : σ.ev x = some (g, .agg (ptrsV b m).toArray)) (hg : g = true) (hy : σ.ev y = some (g', .int k i)) (hg' : g' = true) (hi : IX i m) :
    QV P ⟨d, .index U x y, T, pos, after, gd⟩ σ C (.pointer (some ⟨b, i.toNat, none⟩)) := .of_run fun n a ha w hw => by
  obtain ⟨inf, hin, hsz⟩ := Option.map_eq_some_iff.1 hs
  have h0 := hi.1; have h1 := hi.2
  have hlt : i.toNat < m := by omega
  have hA := run_isAgg_plain hE w
  have hget : (ptrsV b m)[i.toNat]? = some (.pointer (some ⟨b, i.toNat, none⟩)) := by simp [ptrsV, hlt]
  simp [execOp, ha.ev hx hg, ha.ev hy hg', Instr.index, asIntOf, run_underlying hU, h0, h1, sizeOf, typeInfo, hin, hsz, part, hA, hget]
theorem ele_lt {α : Type} [Inhabited α] {l : List α} {i : Int} (h : IX i (ln l)) : l[i.toNat]? = some (ele l i) := by
  have hlt : i.toNat < l.length := by have := h.1; have := h.2; unfold ln at this; omega
  simp [ele, List.getD_eq_getElem?_getD, List.getElem?_eq_getElem hlt]
theorem QV.indexStr {k : IntKind} {s : List UInt8} (hU : P.underlying U = some .string) (hx : σ.ev x = some (g, strV s)) (hg : g = true) (hy : σ.ev y = some (g', .int k i)) (hg' : g' = true) (hi : IX i (ln s)) :
    QV P ⟨d, .index U x y, T, pos, after, gd⟩ σ C (.int .u8 ((ele s i).toNat : Int)) := .of_run fun n a ha w hw => by
  have h0 := hi.1
  have hget : (ByteArray.mk s.toArray)[i.toNat]? = some (ele s i) := by
    have hlt : i.toNat < s.length := by have := hi.2; unfold ln at this; omega
    have h1 : i.toNat < (ByteArray.mk s.toArray).size := by simpa [ByteArray.size] using hlt
    have := ele_lt hi
    rw [List.getElem?_eq_getElem hlt] at this
    rw [getElem?_pos (ByteArray.mk s.toArray) i.toNat h1]
    have e : (ByteArray.mk s.toArray)[i.toNat] = s[i.toNat] := by
      show (s.toArray)[i.toNat]'_ = _
      simp
    rw [e, this]
  simp [execOp, ha.ev hx hg, ha.ev hy hg', Instr.index, asIntOf, run_underlying hU, h0, strV, hget]
end
theorem rows_one {u : Value} : ∀ r ∈ [[u]], r.length = 1 := fun r hr => by simp at hr; subst hr; rfl
/-- slices.Clone of numbers: the same numbers. -/
def Clone_m (xs : List Int) : Option (List Int) := ck (AL xs.length 8) (some xs)
def oprOf (ns : List Int) : Opr := ⟨ns.getD 0 0, ns.getD 1 0, ns.getD 2 0, ns.getD 3 0, ns.getD 4 0, ns.getD 5 0, ns.getD 6 0, ns.getD 7 0, ns.getD 8 0, ns.getD 9 0⟩
theorem oprOf_cells {ns : List Int} (h : ns.length = 10) : ns.map i64v = (oprOf ns).cells := by
  match ns, h with
  | [_, _, _, _, _, _, _, _, _, _], _ => rfl
def tgtOf (ns : List Int) : Tgt := ⟨ns.getD 0 0, ns.getD 1 0, ns.getD 2 0, ns.getD 3 0, ns.getD 4 0, ns.getD 5 0, ns.getD 6 0⟩
theorem tgtOf_cells {ns : List Int} (h : ns.length = 7) : ns.map i64v = (tgtOf ns).cells := by
  match ns, h with
  | [_, _, _, _, _, _, _], _ => rfl
end Go.Rd
end

section
namespace Go.Rd
set_option linter.unusedVariables false

/-- The byte that stands s bits up. -/
def bytU (n : Int) (s : Nat) : UInt8 := UInt8.ofNat ((n / 2 ^ s) % 256).toNat
theorem bytU_nat' (n : Int) (s : Nat) : ((bytU n s).toNat : Int) = (n / 2 ^ s) % 256 := by
  have h1 : 0 ≤ (n / 2 ^ s) % 256 := Int.emod_nonneg _ (by decide)
  have h2 : (n / 2 ^ s) % 256 < 256 := Int.emod_lt_of_pos _ (by decide)
  unfold bytU
  simp only [UInt8.toNat_ofNat']
  omega
theorem wrap_u8 (n : Int) : IntKind.u8.wrap n = n % 256 := by
  unfold IntKind.wrap
  simp [IntKind.signed, IntKind.bits]
theorem byte_shr (n : Int) (s : Nat) (hs : s ≤ 64) : IntKind.u8.wrap (n.fdiv (2 ^ (min s 64))) = ((bytU n s).toNat : Int) := by
  rw [wrap_u8, bytU_nat', Nat.min_eq_left hs, Int.fdiv_eq_ediv_of_nonneg _ (Int.le_of_lt (Int.pow_pos (by decide)))]
/-- The eight bytes, from k on. -/
def beFrom (n : Int) : Nat → List UInt8
  | 0 => []
  | k + 1 => bytU n (8 * k) :: beFrom n k
def be8 (n : Int) : List UInt8 := beFrom n 8
theorem beFrom_len (n : Int) : ∀ k, (beFrom n k).length = k
  | 0 => rfl
  | k + 1 => by simp [beFrom, beFrom_len n k]
theorem be8_len (n : Int) : (be8 n).length = 8 := beFrom_len n 8
/-- The bytes of a row of numbers. -/
def beL (ns : List Int) : List UInt8 := ns.flatMap be8
theorem beL_len (ns : List Int) : (beL ns).length = 8 * ns.length := by
  unfold beL
  induction ns with
  | nil => rfl
  | cons n ns ih => rw [List.flatMap_cons, List.length_append, be8_len, ih, List.length_cons]; omega
theorem beL_snoc (ns : List Int) (n : Int) : beL (ns ++ [n]) = beL ns ++ be8 n := by simp [beL]
theorem byte_cell (n : Int) (j : Nat) (hj : j ≤ 7) : Value.int .u8 (IntKind.u8.wrap (n.fdiv (2 ^ (min (8 * (j : Int)).toNat IntKind.i64.bits)))) = .int .u8 ((bytU n (8 * j)).toNat : Int) := by
  have e : (8 * (j : Int)).toNat = 8 * j := by omega
  rw [e, show IntKind.i64.bits = 64 from rfl, byte_shr n _ (by omega)]
theorem byte_cellT (n t : Int) (j : Nat) (ht : t = 8 * (j : Int)) (hj : j ≤ 7) : Value.int .u8 (IntKind.u8.wrap (n.fdiv (2 ^ (min t.toNat IntKind.i64.bits)))) = .int .u8 ((bytU n (8 * j)).toNat : Int) := by
  subst ht; exact byte_cell n j hj
theorem beL_take {xs : List Int} {i : Nat} (h : i < xs.length) : beL (xs.take (i + 1)) = beL (xs.take i) ++ be8 (xs.getD i 0) := by
  rw [List.take_add_one, List.getElem?_eq_getElem h, Option.toList_some, beL_snoc, List.getD_eq_getElem?_getD, List.getElem?_eq_getElem h]
  rfl
theorem beFrom_get (n : Int) : ∀ (k i : Nat), i < k → (beFrom n k).getD i 0 = bytU n (8 * (k - 1 - i))
  | k + 1, 0, _ => by simp [beFrom]
  | k + 1, i + 1, h => by
    have := beFrom_get n k i (by omega)
    rw [show k + 1 - 1 - (i + 1) = k - 1 - i from by omega, ← this]
    simp [beFrom]
theorem be8_of {n : Int} {L : List UInt8} (hl : L.length = 8) (h : ∀ j : Nat, j < 8 → L.getD (7 - j) 0 = bytU n (8 * j)) : L = be8 n := by
  apply List.ext_getElem?
  intro i
  by_cases hi : i < 8
  · have h1 := h (7 - i) (by omega)
    have h2 := beFrom_get n 8 i hi
    rw [show 7 - (7 - i) = i from by omega] at h1
    rw [show 8 - 1 - i = 7 - i from by omega] at h2
    have h3 : i < (be8 n).length := by rw [be8_len]; exact hi
    rw [List.getElem?_eq_getElem (by omega), List.getElem?_eq_getElem h3]
    rw [List.getD_eq_getElem?_getD, List.getElem?_eq_getElem (by omega)] at h1
    unfold be8 at h3 ⊢
    rw [List.getD_eq_getElem?_getD, List.getElem?_eq_getElem h3] at h2
    simp only [Option.getD_some] at h1 h2
    rw [h1, h2]
  · rw [List.getElem?_eq_none (by omega), List.getElem?_eq_none (by rw [be8_len]; omega)]
theorem bytU_nat (n : Int) (m : Nat) : ((bytU n (8 * m)).toNat : Int) = (n / 2 ^ (8 * m)) % 256 := bytU_nat' n (8 * m)
theorem tmod256 (a : Int) : Int.tmod a 256 = a % 256 ∨ (Int.tmod a 256 < 0 ∧ Int.tmod a 256 + 256 = a % 256) := by
  have := tmod_fix (a := a) (b := 256) (by decide)
  split at this <;> omega
theorem next256 (n : Int) (m : Nat) : n / 2 ^ (8 * (m + 1)) = (n / 2 ^ (8 * m) - n / 2 ^ (8 * m) % 256) / 256 := by
  rw [show 8 * (m + 1) = 8 * m + 8 from by omega, Int.pow_add, ← Int.ediv_ediv_of_nonneg (Int.pow_nonneg (by omega))]
  omega
end Go.Rd
end

section
namespace Go.Rd
set_option linter.unusedVariables false
theorem br_T {α : Type} {p : Prop} [Decidable p] {a b : α} (h : p) : br (decide p) a b = a := by rw [decide_eq_true h]; rfl
theorem br_F {α : Type} {p : Prop} [Decidable p] {a b : α} (h : ¬ p) : br (decide p) a b = b := by rw [decide_eq_false h]; rfl
theorem br_eq {α : Type} {c : Bool} {a b : α} : br c a b = if c = true then a else b := by cases c <;> rfl
theorem ck_IR {α : Type} {n : Int} {x : Option α} (h1 : -9223372036854775808 ≤ n) (h2 : n ≤ 9223372036854775807) : ck (IR n) x = x := ck_yes ⟨h1, h2⟩
theorem ck_IX {α : Type} {i n : Int} {x : Option α} (h1 : 0 ≤ i) (h2 : i < n) : ck (IX i n) x = x := ck_yes ⟨h1, h2⟩
theorem ck_SX {α : Type} {i j n : Int} {x : Option α} (h1 : 0 ≤ i) (h2 : i ≤ j) (h3 : j ≤ n) : ck (SX i j n) x = x := ck_yes ⟨h1, h2, h3⟩
theorem ck_AL {α : Type} {n b : Nat} {x : Option α} (h1 : n ≤ 9223372036854775807) (h2 : n * b ≤ 140737488355328) : ck (AL n b) x = x := ck_yes ⟨h1, h2⟩
theorem ck_SL {α : Type} {l : List UInt8} {x : Option α} (h1 : l.length ≤ 9223372036854775807) : ck (SL l) x = x := ck_yes h1
theorem ck_imp {α : Type} {c : Bool} {p : Prop} [Decidable p] {x : Option α} (h : c = true → p) : ck (c = true → p) x = x := ck_yes h
@[simp] theorem bd_some' {α β : Type} {x : α} {k : α → Option β} : bd (some x) k = k x := rfl
@[simp] theorem bdG_t {α β : Type} [Inhabited α] {m : Option α} {k : α → Option β} : bdG true m k = bd m k := rfl
@[simp] theorem bdG_f {α β : Type} [Inhabited α] {m : Option α} {k : α → Option β} : bdG false m k = k default := rfl
theorem ele_nat {α : Type} [Inhabited α] (xs : List α) (i : Nat) : ele xs (i : Int) = xs.getD i default := rfl
theorem ln_nonneg {α : Type} (xs : List α) : 0 ≤ ln xs := by unfold ln; omega
theorem wrapI {n : Int} (h1 : -9223372036854775808 ≤ n) (h2 : n ≤ 9223372036854775807) : IntKind.i64.wrap n = n := wrap_i64 h1 h2
/-- A loop whose runs are told by a function of the state. -/
theorem lp_step {γ ρ : Type} {f : γ → Option (Stp γ ρ)} {g g' : γ} {o : Out γ ρ} (h : f g = some (.next g')) (k : lp f g' = some o) : lp f g = some o := (lp_next h).trans k
theorem ele_all {α : Type} [Inhabited α] {p : α → Prop} {l : List α} (h : ∀ x ∈ l, p x) {i : Nat} (hi : i < l.length) : p (ele l i) := by
  have : ele l i = l[i] := by simp [Rd.ele, List.getD_eq_getElem?_getD, List.getElem?_eq_getElem hi]
  rw [this]; exact h _ (List.getElem_mem hi)
theorem bdG_some' {α : Type} (c b : Bool) (k : Bool → Option α) : bdG c (some b) k = k (if c = true then b else false) := by cases c <;> rfl
/-- A loop that looks whether all are so. -/
theorem lp_all {f : Int → Option (Stp Int Bool)} {n : Nat} {p : Nat → Prop} (step : ∀ i : Nat, i < n → (∀ j, j < i → p j) → (p i → f i = some (.next ((i : Int) + 1))) ∧ (¬ p i → f i = some (.ret false))) (hend : f n = some (.brk n)) :
    ((∀ i, i < n → p i) ∧ lp f 0 = some (.go (n : Int))) ∨ (¬ (∀ i, i < n → p i) ∧ lp f 0 = some (.ret false)) := by
  have key : ∀ (m i : Nat), i + m = n → (∀ j, j < i → p j) → ((∀ i, i < n → p i) ∧ lp f i = some (.go (n : Int))) ∨ (¬ (∀ i, i < n → p i) ∧ lp f i = some (.ret false)) := by
    intro m
    induction m with
    | zero =>
      intro i h hp
      have hi : i = n := by omega
      subst hi
      exact .inl ⟨hp, lp_brk hend⟩
    | succ m ih =>
      intro i h hp
      obtain ⟨h1, h2⟩ := step i (by omega) hp
      by_cases hpi : p i
      · have hs : ∀ j, j < i + 1 → p j := fun j hj => by
          rcases Nat.lt_or_ge j i with h | h
          · exact hp j h
          · have : j = i := by omega
            subst this; exact hpi
        rcases ih (i + 1) (by omega) hs with ⟨a, b⟩ | ⟨a, b⟩
        · exact .inl ⟨a, (lp_next (h1 hpi)).trans b⟩
        · exact .inr ⟨a, (lp_next (h1 hpi)).trans b⟩
      · exact .inr ⟨fun h => hpi (h i (by omega)), lp_ret (h2 hpi)⟩
  exact key n 0 (by omega) (fun j hj => absurd hj (Nat.not_lt_zero _))
theorem take_next {α : Type} [Inhabited α] {xs : List α} {i : Nat} (h : i < xs.length) : xs.take (i + 1) = xs.take i ++ [ele xs i] := by
  rw [List.take_add_one, List.getElem?_eq_getElem h, Option.toList_some]
  simp [ele, List.getD_eq_getElem?_getD, List.getElem?_eq_getElem h]
/-- A loop that appends one thing a round. -/
theorem lp_build {α ρ : Type} {f : List α × Int → Option (Stp (List α × Int) ρ)} {n : Nat} {h : Nat → α} (step : ∀ i : Nat, i < n → f ((List.range i).map h, (i : Int)) = some (.next ((List.range i).map h ++ [h i], (i : Int) + 1)))
    (hend : f ((List.range n).map h, (n : Int)) = some (.brk ((List.range n).map h, (n : Int)))) : lp f ([], 0) = some (.go ((List.range n).map h, (n : Int))) := by
  have key : ∀ m i : Nat, i + m = n → lp f ((List.range i).map h, (i : Int)) = some (.go ((List.range n).map h, (n : Int))) := by
    intro m
    induction m with
    | zero =>
      intro i hi
      have : i = n := by omega
      subst this
      exact lp_brk hend
    | succ m ih =>
      intro i hi
      refine lp_step (step i (by omega)) ?_
      have := ih (i + 1) (by omega)
      rw [List.range_succ, List.map_append] at this
      exact this
  exact key n 0 (by omega)
theorem range_map {α : Type} [Inhabited α] (l : List α) : (List.range l.length).map (fun i : Nat => ele l (i : Int)) = l := by
  apply List.ext_getElem?
  intro i
  by_cases h : i < l.length
  · simp [h, ele_nat, List.getD_eq_getElem?_getD]
  · simp [List.getElem?_eq_none (Nat.le_of_not_lt h), h]
theorem range_map' {α β : Type} [Inhabited α] (l : List α) (g : α → β) : (List.range l.length).map (fun i : Nat => g (ele l (i : Int))) = l.map g := by
  conv => rhs; rw [← range_map l]
  rw [List.map_map]
  rfl
/-- A loop that looks for the first that is not so. -/
theorem lp_scan {ρ : Type} {f : Int → Option (Stp Int ρ)} {n : Nat} {p : Nat → Prop} (q : Nat → ρ) : ∀ (m s : Nat), s + m = n → (step : ∀ i : Nat, s ≤ i → i < n → (p i → f i = some (.next ((i : Int) + 1))) ∧ (¬ p i → f i = some (.ret (q i)))) → (hend : f n = some (.brk n)) →
    ((∀ i, s ≤ i → i < n → p i) ∧ lp f s = some (.go (n : Int))) ∨ (∃ i, s ≤ i ∧ i < n ∧ ¬ p i ∧ (∀ j, s ≤ j → j < i → p j) ∧ lp f s = some (.ret (q i)))
  | 0, s, h, step, hend => by
    have : s = n := by omega
    subst this
    exact .inl ⟨fun i h1 h2 => by omega, lp_brk hend⟩
  | m + 1, s, h, step, hend => by
    obtain ⟨h1, h2⟩ := step s (Nat.le_refl _) (by omega)
    by_cases hp : p s
    · rcases lp_scan q m (s + 1) (by omega) (fun i a b => step i (by omega) b) hend with ⟨a, b⟩ | ⟨i, a, b, c, d, e⟩
      · refine .inl ⟨fun i h3 h4 => ?_, (lp_next (h1 hp)).trans b⟩
        by_cases e : i = s
        · subst e; exact hp
        · exact a i (by omega) h4
      · refine .inr ⟨i, by omega, b, c, fun j h3 h4 => ?_, (lp_next (h1 hp)).trans e⟩
        by_cases e : j = s
        · subst e; exact hp
        · exact d j (by omega) h4
    · exact .inr ⟨s, Nat.le_refl _, by omega, hp, fun j h3 h4 => by omega, lp_ret (h2 hp)⟩
/-- A loop over places with a state of which something is kept. -/
theorem lp_inv {α ρ : Type} {f : α × Int → Option (Stp (α × Int) ρ)} {n : Nat} (Inv : Nat → α → Prop) (step : ∀ (i : Nat) g, i < n → Inv i g → ∃ g', f (g, (i : Int)) = some (.next (g', (i : Int) + 1)) ∧ Inv (i + 1) g') (hend : ∀ g, f (g, (n : Int)) = some (.brk (g, (n : Int)))) (g0 : α) (h0 : Inv 0 g0) :
    ∃ g, lp f (g0, 0) = some (.go (g, (n : Int))) ∧ Inv n g := by
  have key : ∀ m i : Nat, i + m = n → ∀ g, Inv i g → ∃ g', lp f (g, (i : Int)) = some (.go (g', (n : Int))) ∧ Inv n g' := by
    intro m
    induction m with
    | zero =>
      intro i hi g hg
      have : i = n := by omega
      subst this
      exact ⟨g, lp_brk (hend g), hg⟩
    | succ m ih =>
      intro i hi g hg
      obtain ⟨g', h1, h2⟩ := step i g (by omega) hg
      obtain ⟨g2, h3, h4⟩ := ih (i + 1) (by omega) g' h2
      exact ⟨g2, lp_step h1 h3, h4⟩
  exact key n 0 (by omega) g0 h0
theorem br_go {α ρ : Type} {c : Bool} {a b : α} : br c (some (Out.go a : Out α ρ)) (some (Out.go b)) = some (.go (if c = true then a else b)) := by cases c <;> rfl
theorem ele_mem' {α : Type} [Inhabited α] {l : List α} {i : Nat} (h : i < l.length) : ele l (i : Int) ∈ l := by
  rw [ele_nat, List.getD_eq_getElem?_getD, List.getElem?_eq_getElem h]; exact List.getElem_mem h
theorem mem_ele {α : Type} [Inhabited α] {l : List α} {x : α} (h : x ∈ l) : ∃ i : Nat, i < l.length ∧ ele l (i : Int) = x := by
  obtain ⟨i, hi, rfl⟩ := List.getElem_of_mem h
  exact ⟨i, hi, by rw [ele_nat, List.getD_eq_getElem?_getD, List.getElem?_eq_getElem hi]; rfl⟩
theorem upd_upd {α : Type} (l : List α) (i : Int) (a b : α) : upd (upd l i a) i b = upd l i b := by unfold upd; rw [List.set_set]
theorem ele_upd {α : Type} [Inhabited α] {l : List α} {i : Int} {a : α} (h : IX i (ln l)) : ele (upd l i a) i = a := by
  have : i.toNat < l.length := by have := h.1; have := h.2; unfold ln at this; omega
  unfold ele upd
  rw [List.getD_eq_getElem?_getD, List.getElem?_set]
  simp [this]
theorem ele_upd_ne {α : Type} [Inhabited α] {l : List α} {i j : Int} {a : α} (h : i.toNat ≠ j.toNat) : ele (upd l i a) j = ele l j := by
  unfold ele upd
  rw [List.getD_eq_getElem?_getD, List.getElem?_set, if_neg h, ← List.getD_eq_getElem?_getD]
/-- A loop over places with a state of which something is kept, that ends early at the first place that is not so. -/
theorem lp_chk {α ρ : Type} {f : α × Int → Option (Stp (α × Int) ρ)} {n : Nat} {r0 : ρ} (p : Nat → Prop) (Inv : Nat → α → Prop) (step : ∀ (i : Nat) g, i < n → Inv i g → (p i ∧ ∃ g', f (g, (i : Int)) = some (.next (g', (i : Int) + 1)) ∧ Inv (i + 1) g') ∨ (¬ p i ∧ f (g, (i : Int)) = some (.ret r0)))
    (hend : ∀ g, f (g, (n : Int)) = some (.brk (g, (n : Int)))) (g0 : α) (h0 : Inv 0 g0) : ((∀ i, i < n → p i) ∧ ∃ g, lp f (g0, 0) = some (.go (g, (n : Int))) ∧ Inv n g) ∨ (¬ (∀ i, i < n → p i) ∧ lp f (g0, 0) = some (.ret r0)) := by
  have key : ∀ m i : Nat, i + m = n → (∀ j, j < i → p j) → ∀ g, Inv i g → ((∀ i, i < n → p i) ∧ ∃ g', lp f (g, (i : Int)) = some (.go (g', (n : Int))) ∧ Inv n g') ∨ (¬ (∀ i, i < n → p i) ∧ lp f (g, (i : Int)) = some (.ret r0)) := by
    intro m
    induction m with
    | zero =>
      intro i hi hp g hg
      have : i = n := by omega
      subst this
      exact .inl ⟨hp, g, lp_brk (hend g), hg⟩
    | succ m ih =>
      intro i hi hp g hg
      rcases step i g (by omega) hg with ⟨h1, g', h2, h3⟩ | ⟨h1, h2⟩
      · have hp' : ∀ j, j < i + 1 → p j := fun j hj => by
          by_cases e : j = i
          · subst e; exact h1
          · exact hp j (by omega)
        rcases ih (i + 1) (by omega) hp' g' h3 with ⟨a, g2, b, c⟩ | ⟨a, b⟩
        · exact .inl ⟨a, g2, (lp_next h2).trans b, c⟩
        · exact .inr ⟨a, (lp_next h2).trans b⟩
      · exact .inr ⟨fun h => h1 (h i (by omega)), lp_ret h2⟩
  exact key n 0 (by omega) (fun j hj => absurd hj (Nat.not_lt_zero _)) g0 h0
end Go.Rd
end

section
namespace Go.Rd
open Go.RowKit
set_option linter.unusedVariables false
section
variable {P : Program} {n : Nat} {ops : Array Oper} {σ : Env} {C S : World → Prop}
/-- Q, but for the region's end. -/
def endAt (R : Act → World → Prop) (Q : Exit → Act → World → Prop) : Exit → Act → World → Prop
  | .normal => R
  | e => Q e
variable {Q : Exit → Act → World → Prop} {R : Act → World → Prop}
theorem endAt_letsOut (h : LetsOut (endAt R Q)) : LetsOut Q := let ⟨a, w, x⟩ := h; ⟨a, w, x⟩
theorem wp_endAt {o : Oper} {a : Act} {w : World} {K K' : Act → World → Prop} (h : ∀ a w, K a w → K' a w) (hh : o.wp P a w K (endAt R Q)) : o.wp P a w K' Q := by
  unfold Oper.wp at *
  generalize (execOp a.eval o).run P w = r at *
  cases r with
  | ok n w' =>
    cases n <;> simp only [Oper.upon] at hh ⊢ <;>
      first
        | exact h _ _ hh
        | exact Calls.mono hh (fun e w'' he => by cases e <;> first | exact h _ _ he | exact he | exact endAt_letsOut he)
        | exact Rows.mono hh (fun _ _ he => h _ _ he)
  | halt x w' => cases x <;> simp only [Oper.upon] at hh ⊢ <;> exact hh
theorem wpOp_endAt {i : Nat} {a : Act} {w : World} {K K' : Act → World → Prop} (h : ∀ a w, K a w → K' a w) (hh : wpOp P ops (endAt R Q) i K a w) : wpOp P ops Q i K' a w := by
  unfold Go.wpOp at *
  split
  · exact h _ _ (by simpa [*] using hh)
  · rename_i o ho
    simp only [ho] at hh
    split
    · rename_i hw
      simp only [hw, if_true] at hh
      exact hh.imp (wp_endAt h) fun ⟨x, y⟩ => ⟨x, endAt_letsOut y⟩
    · rename_i hw; simp only [hw] at hh; exact h _ _ hh
theorem wpAny_endAt {md : Region.Mode} (hR : ∀ a w, R a w → Q .normal a w) : ∀ (fuel : Nat) (listed : Array Bool) (a : Act) (w : World), wpAny P md ops (endAt R Q) fuel listed a w → wpAny P md ops Q fuel listed a w
  | 0, listed, a, w, h => ⟨h.1, hR a w h.2⟩
  | fuel + 1, listed, a, w, h => ⟨fun h0 => hR a w (h.1 h0), fun i hi => wpOp_endAt (fun a w => wpAny_endAt hR fuel _ a w) (h.2 i hi)⟩
theorem wpAnyG_endAt {md : Region.Mode} (hR : ∀ a w, R a w → Q .normal a w) : ∀ (fuel : Nat) (S : World → Prop) (listed : Array Bool) (C : World → Prop) (a : Act), wpAnyG P md ops (endAt R Q) S fuel listed C a → wpAnyG P md ops Q S fuel listed C a
  | 0, S, listed, C, a, h => ⟨h.1, fun w hw => hR a w (h.2 w hw)⟩
  | fuel + 1, S, listed, C, a, h => by
    rcases h with ⟨h0, h1⟩ | ⟨h0, h1⟩
    · refine .inl ⟨fun hr w hw => hR a w (h0 hr w hw), fun i hi w hw => wpOp_endAt (fun a w hh => ?_) (h1 i hi w hw)⟩
      obtain ⟨C', S', x1, x2, x3, x4, x5⟩ := hh
      exact ⟨C', S', x1, x2, x3, x4, wpAnyG_endAt hR fuel S' _ C' a x5⟩
    · exact .inr ⟨h0, fun w hw => wpAny_endAt hR _ _ a w (h1 w hw)⟩
/-- Whatever the order, the region's end has an environment and a class of one shape. -/
theorem WD.cut1 (env : Nat → Env) (cls : Nat → World → Prop) {fuel : Nat} {listed : Array Bool} (hafter : ∀ g0, WK n (Q .normal) (env g0) (cls g0))
    (h : WD P n ops (endAt (fun a w => ∃ g0, Has n a (env g0) ∧ cls g0 w) Q) S fuel listed σ C) : WD P n ops Q S fuel listed σ C := fun hCS a ha =>
  wpAnyG_endAt (fun a w ⟨g0, h1, h2⟩ => hafter g0 a w h1 h2) _ _ _ _ _ (h hCS a ha)
theorem WQ.cutEnd1 {env : Nat → Env} {cls : Nat → World → Prop} (g0 : Nat) (hs : Sub σ (env g0)) (hd : ∀ w, C w → cls g0 w) : WK n (endAt (fun a w => ∃ g0, Has n a (env g0) ∧ cls g0 w) Q .normal) σ C := fun a w ha hw => ⟨g0, ha.sub hs, hd w hw⟩
/-- Whatever the order, the region's end has an environment and a class of one shape. -/
theorem WD.cut2 (env : Nat → Nat → Env) (cls : Nat → Nat → World → Prop) {fuel : Nat} {listed : Array Bool} (hafter : ∀ g0 g1, WK n (Q .normal) (env g0 g1) (cls g0 g1))
    (h : WD P n ops (endAt (fun a w => ∃ g0 g1, Has n a (env g0 g1) ∧ cls g0 g1 w) Q) S fuel listed σ C) : WD P n ops Q S fuel listed σ C := fun hCS a ha =>
  wpAnyG_endAt (fun a w ⟨g0, g1, h1, h2⟩ => hafter g0 g1 a w h1 h2) _ _ _ _ _ (h hCS a ha)
theorem WQ.cutEnd2 {env : Nat → Nat → Env} {cls : Nat → Nat → World → Prop} (g0 g1 : Nat) (hs : Sub σ (env g0 g1)) (hd : ∀ w, C w → cls g0 g1 w) : WK n (endAt (fun a w => ∃ g0 g1, Has n a (env g0 g1) ∧ cls g0 g1 w) Q .normal) σ C := fun a w ha hw => ⟨g0, g1, ha.sub hs, hd w hw⟩
/-- Whatever the order, the region's end has an environment and a class of one shape. -/
theorem WD.cut3 (env : Nat → Nat → Nat → Env) (cls : Nat → Nat → Nat → World → Prop) {fuel : Nat} {listed : Array Bool} (hafter : ∀ g0 g1 g2, WK n (Q .normal) (env g0 g1 g2) (cls g0 g1 g2))
    (h : WD P n ops (endAt (fun a w => ∃ g0 g1 g2, Has n a (env g0 g1 g2) ∧ cls g0 g1 g2 w) Q) S fuel listed σ C) : WD P n ops Q S fuel listed σ C := fun hCS a ha =>
  wpAnyG_endAt (fun a w ⟨g0, g1, g2, h1, h2⟩ => hafter g0 g1 g2 a w h1 h2) _ _ _ _ _ (h hCS a ha)
theorem WQ.cutEnd3 {env : Nat → Nat → Nat → Env} {cls : Nat → Nat → Nat → World → Prop} (g0 g1 g2 : Nat) (hs : Sub σ (env g0 g1 g2)) (hd : ∀ w, C w → cls g0 g1 g2 w) : WK n (endAt (fun a w => ∃ g0 g1 g2, Has n a (env g0 g1 g2) ∧ cls g0 g1 g2 w) Q .normal) σ C := fun a w ha hw => ⟨g0, g1, g2, ha.sub hs, hd w hw⟩
/-- Whatever the order, the region's end has an environment and a class of one shape. -/
theorem WD.cut4 (env : Nat → Nat → Nat → Nat → Env) (cls : Nat → Nat → Nat → Nat → World → Prop) {fuel : Nat} {listed : Array Bool} (hafter : ∀ g0 g1 g2 g3, WK n (Q .normal) (env g0 g1 g2 g3) (cls g0 g1 g2 g3))
    (h : WD P n ops (endAt (fun a w => ∃ g0 g1 g2 g3, Has n a (env g0 g1 g2 g3) ∧ cls g0 g1 g2 g3 w) Q) S fuel listed σ C) : WD P n ops Q S fuel listed σ C := fun hCS a ha =>
  wpAnyG_endAt (fun a w ⟨g0, g1, g2, g3, h1, h2⟩ => hafter g0 g1 g2 g3 a w h1 h2) _ _ _ _ _ (h hCS a ha)
theorem WQ.cutEnd4 {env : Nat → Nat → Nat → Nat → Env} {cls : Nat → Nat → Nat → Nat → World → Prop} (g0 g1 g2 g3 : Nat) (hs : Sub σ (env g0 g1 g2 g3)) (hd : ∀ w, C w → cls g0 g1 g2 g3 w) : WK n (endAt (fun a w => ∃ g0 g1 g2 g3, Has n a (env g0 g1 g2 g3) ∧ cls g0 g1 g2 g3 w) Q .normal) σ C := fun a w ha hw => ⟨g0, g1, g2, g3, ha.sub hs, hd w hw⟩
instance {R : Act → World → Prop} {Q : Exit → Act → World → Prop} [h : POk Q] : POk (endAt R Q) := ⟨h.ok⟩
variable {M : Nat → Prop} {w0 : World} {H : List Res}
def eachOkL (ops : Array Oper) (is : List Nat) (m k : Nat) : Bool := Region.ready .any ops (lst m k) == is && !is.isEmpty
/-- Several may come up: each of them. -/
theorem WD.each (is : List Nat) (k : Nat) {m fuel : Nat} (hr : eachOkL ops is m k = true)
    (h : ∀ i ∈ is, ∃ oi k', ops[i]? = some oi ∧ oi.guard = none ∧ (lst m k).setIfInBounds i true = lst m k' ∧
      EV P n oi σ (Own M w0 H) (fun a' w' => ∃ C' S' : World → Prop, Closed C' ∧ (∀ x, C' x → S' x) ∧ (∀ x, S' x → S x) ∧ C' w' ∧ wpAnyG P .any ops Q S' fuel (lst m k') C' a') Q) : WD P n ops Q S (fuel + 1) (lst m k) σ (Own M w0 H) := fun hCS a ha => by
  unfold eachOkL at hr
  simp only [Bool.and_eq_true, beq_iff_eq, Bool.not_eq_true', List.isEmpty_eq_false_iff] at hr
  refine .inl ⟨fun h0 => absurd (hr.1.symm.trans h0) hr.2, fun j hj w hw => ?_⟩
  rw [hr.1] at hj
  obtain ⟨oi, k', h1, h2, h3, h4⟩ := h j hj
  rw [h3]
  unfold Go.wpOp
  simp only [h1]
  rw [if_pos (by simp [Region.wanted, h2])]
  exact h4 a w ha hw
def stepOkL (ops : Array Oper) (i m k k' : Nat) : Bool := (lst m k).setIfInBounds i true == lst m k'
theorem WD.two {o1 o2 : Oper} (i1 i2 k k1 k2 : Nat) {m fuel : Nat} (hr : eachOkL ops [i1, i2] m k = true) (h1 : ops[i1]? = some o1) (h2 : ops[i2]? = some o2) (g1 : o1.guard = none) (g2 : o2.guard = none) (s1 : stepOkL ops i1 m k k1 = true) (s2 : stepOkL ops i2 m k k2 = true)
    (e1 : EV P n o1 σ (Own M w0 H) (fun a' w' => ∃ C' S' : World → Prop, Closed C' ∧ (∀ x, C' x → S' x) ∧ (∀ x, S' x → S x) ∧ C' w' ∧ wpAnyG P .any ops Q S' fuel (lst m k1) C' a') Q)
    (e2 : EV P n o2 σ (Own M w0 H) (fun a' w' => ∃ C' S' : World → Prop, Closed C' ∧ (∀ x, C' x → S' x) ∧ (∀ x, S' x → S x) ∧ C' w' ∧ wpAnyG P .any ops Q S' fuel (lst m k2) C' a') Q) : WD P n ops Q S (fuel + 1) (lst m k) σ (Own M w0 H) :=
  WD.each [i1, i2] k hr fun i hi => by
    simp only [List.mem_cons, List.not_mem_nil, or_false] at hi
    unfold stepOkL at s1 s2
    rcases hi with rfl | rfl
    · exact ⟨o1, k1, h1, g1, beq_iff_eq.1 s1, e1⟩
    · exact ⟨o2, k2, h2, g2, beq_iff_eq.1 s2, e2⟩
end
end Go.Rd
end

section
namespace Go.Rd
open Go.RowKit Go.MapKept
set_option linter.unusedVariables false

/-! ### Plain maps -/
section
variable {κ β : Type} [DecidableEq κ]
def mhas (m : List (κ × β)) (k : κ) : Bool := m.any fun p => decide (p.1 = k)
def mget (m : List (κ × β)) (k : κ) (d : β) : β := match m.find? (fun p => decide (p.1 = k)) with
  | some p => p.2
  | none => d
def mput (m : List (κ × β)) (k : κ) (v : β) : List (κ × β) := match m with
  | [] => [(k, v)]
  | p :: r => if p.1 = k then (k, v) :: r else p :: mput r k v
theorem mget_nil {k : κ} {d : β} : mget ([] : List (κ × β)) k d = d := rfl
theorem mget_cons {p : κ × β} {m : List (κ × β)} {k : κ} {d : β} : mget (p :: m) k d = if p.1 = k then p.2 else mget m k d := by
  unfold mget
  rw [List.find?_cons]
  by_cases h : p.1 = k <;> simp [h]
theorem mget_mput {m : List (κ × β)} {k k' : κ} {v d : β} : mget (mput m k v) k' d = if k = k' then v else mget m k' d := by
  induction m with
  | nil => unfold mput; rw [mget_cons]
  | cons p m ih =>
    unfold mput
    by_cases h : p.1 = k
    · rw [if_pos h, mget_cons, mget_cons]
      subst h
      by_cases h2 : p.1 = k' <;> simp [h2]
    · rw [if_neg h, mget_cons, mget_cons, ih]
      by_cases h2 : p.1 = k'
      · have : ¬ k = k' := fun e => h (h2.trans e.symm)
        simp [h2, this]
      · simp [h2]
end

/-! ### Keys -/
def kI (n : Int) : Value := .int .i64 n
def kP (p : Int × Int) : Value := .agg #[.int .i64 p.1, .int .i64 p.2]
def bv (b : Bool) : Value := .bool b
/-- Keys of a type: told apart by what they are. -/
structure KeyT (P : Program) {κ : Type} [DecidableEq κ] (K : TypeId) (ke : κ → Value) : Prop where
  check : ∀ k w b, (Instr.checkKey b 10000 K (ke k)).run P w = .ok () w
  find : ∀ (k : κ) w (es : List MapEntry) (ks : List κ), es.map (·.key) = ks.map ke → ∃ r, (Instr.findKey K (ke k) es).run P w = .ok r w ∧
    ((r = none ∧ ∀ j ∈ ks, j ≠ k) ∨ (∃ i e, r = some (i, e.val) ∧ es[i]? = some e ∧ ks[i]? = some k ∧ ∀ j < i, ks[j]? ≠ some k))
  same : ∀ k, Instr.sameBits 10000 (ke k) (ke k) = true
theorem find_asking {P : Program} {κ : Type} [DecidableEq κ] {K : TypeId} {ke : κ → Value} (heq : ∀ a b w, (Op.equal K (ke a) (ke b)).run P w = .ok (decide (b = a)) w) (k : κ) (w : World) : ∀ (es : List MapEntry) (ks : List κ) (n : Nat), es.map (·.key) = ks.map ke →
    ∃ r, (Instr.findAsking K (ke k) es n).run P w = .ok r w ∧ ((r = none ∧ ∀ j ∈ ks, j ≠ k) ∨ (∃ i e, r = some (n + i, e.val) ∧ es[i]? = some e ∧ ks[i]? = some k ∧ ∀ j < i, ks[j]? ≠ some k))
  | [], [], n, _ => ⟨none, by simp [Instr.findAsking], .inl ⟨rfl, fun j hj => by cases hj⟩⟩
  | [], _ :: _, n, h => by simp at h
  | _ :: _, [], n, h => by simp at h
  | e :: es, k' :: ks, n, h => by
    simp only [List.map_cons, List.cons.injEq] at h
    have hq := heq k k' w
    by_cases hk : k' = k
    · subst hk
      refine ⟨some (n, e.val), ?_, .inr ⟨0, e, rfl, rfl, rfl, fun j hj => by omega⟩⟩
      simp [Instr.findAsking, h.1, hq]
    · obtain ⟨r, hr, hh⟩ := find_asking heq k w es ks (n + 1) h.2
      refine ⟨r, ?_, ?_⟩
      · simp [Instr.findAsking, h.1, hq, hk, hr]
      · rcases hh with ⟨a, b⟩ | ⟨i, e', a, b, c, d⟩
        · exact .inl ⟨a, fun j hj => by rcases List.mem_cons.1 hj with rfl | hj; exact hk; exact b j hj⟩
        · refine .inr ⟨i + 1, e', by rw [a]; congr 2; omega, by simpa using b, by simpa using c, fun j hj => ?_⟩
          cases j with
          | zero => simpa using hk
          | succ j => simpa using d j (by omega)
theorem find_now {P : Program} {K : TypeId} {t : IntKind} (k : Int) : ∀ (es : List MapEntry) (ks : List Int) (n : Nat), es.map (·.key) = ks.map kI →
    ∃ r, Instr.findNow (.int t) (kI k) es n = some r ∧ ((r = none ∧ ∀ j ∈ ks, j ≠ k) ∨ (∃ i e, r = some (n + i, e.val) ∧ es[i]? = some e ∧ ks[i]? = some k ∧ ∀ j < i, ks[j]? ≠ some k))
  | [], [], n, _ => ⟨none, by simp [Instr.findNow], .inl ⟨rfl, fun j hj => by cases hj⟩⟩
  | [], _ :: _, n, h => by simp at h
  | _ :: _, [], n, h => by simp at h
  | e :: es, k' :: ks, n, h => by
    simp only [List.map_cons, List.cons.injEq] at h
    by_cases hk : k' = k
    · subst hk
      exact ⟨some (n, e.val), by simp [Instr.findNow, h.1, kI, Instr.sameNow], .inr ⟨0, e, rfl, rfl, rfl, fun j hj => by omega⟩⟩
    · obtain ⟨r, hr, hh⟩ := find_now (P := P) (K := K) (t := t) k es ks (n + 1) h.2
      refine ⟨r, ?_, ?_⟩
      · have hk2 : (k == k') = false := by simp; exact fun e => hk e.symm
        unfold kI at hr
        simp [Instr.findNow, h.1, kI, Instr.sameNow, hk2, hr]
      · rcases hh with ⟨a, b⟩ | ⟨i, e', a, b, c, d⟩
        · exact .inl ⟨a, fun j hj => by rcases List.mem_cons.1 hj with rfl | hj; exact hk; exact b j hj⟩
        · refine .inr ⟨i + 1, e', by rw [a]; congr 2; omega, by simpa using b, by simpa using c, fun j hj => ?_⟩
          cases j with
          | zero => simpa using hk
          | succ j => simpa using d j (by omega)
theorem KeyT.int {P : Program} {K : TypeId} (h : P.underlying K = some (.int .i64)) : KeyT P K kI where
  check := fun k w b => by rw [show (10000 : Nat) = 9999 + 1 from rfl, Instr.checkKey]; simp [run_underlying h, kI]
  find := fun k w es ks he => by
    obtain ⟨r, h1, h2⟩ := find_now (P := P) (K := K) (t := .i64) k es ks 0 he
    refine ⟨r, by rw [run_findKey h h1], ?_⟩
    simpa using h2
  same := fun k => by simp [kI, Instr.sameBits]
theorem KeyT.pair {P : Program} {K I : TypeId} (h : P.underlying K = some (.array 2 I)) (hI : P.underlying I = some (.int .i64)) (hs : (P.info? I).map (·.size) = some 1) : KeyT P K kP where
  check := fun k w b => by
    have hag : (isAgg I).run P w = .ok false w := by simp [isAgg, run_underlying hI]
    have hz := run_sizeOf (w := w) hs
    have hc : ∀ n : Int, (Instr.checkKey b 9999 I (.int .i64 n)).run P w = .ok () w := fun n => by rw [show (9999 : Nat) = 9998 + 1 from rfl, Instr.checkKey]; simp [run_underlying hI]
    rw [show (10000 : Nat) = 9999 + 1 from rfl, Instr.checkKey]
    simp only [Sem.run_bind, run_underlying h, Result.andThen_ok, kP, Std.Legacy.Range.forIn_eq_forIn_range', Std.Legacy.Range.size, Nat.sub_zero, Nat.add_one_sub_one, Nat.div_one]
    simp [List.range', hz, part, hag, hc]
  find := fun k w es ks he => by
    have heq : ∀ a b w, (Op.equal K (kP a) (kP b)).run P w = .ok (decide (b = a)) w := fun a b w => by
      have hag : (isAgg I).run P w = .ok false w := by simp [isAgg, run_underlying hI]
      have hz := run_sizeOf (w := w) hs
      have e1 : ∀ x y : Int, (Op.equalIn 9999 I (.int .i64 x) (.int .i64 y)).run P w = .ok (x == y) w := fun x y => run_equalIn_int (P := P) (w := w) 9998 I .i64 .i64 x y hI
      obtain ⟨a1, a2⟩ := a
      obtain ⟨b1, b2⟩ := b
      simp only [Op.equal, Op.maxDepth, kP]
      rw [Op.equalIn]
      simp only [Sem.run_bind, run_underlying h, Result.andThen_ok, Std.Legacy.Range.forIn_eq_forIn_range', Std.Legacy.Range.size, Nat.sub_zero, Nat.add_one_sub_one, Nat.div_one]
      simp [List.range', hz, part, hag, e1]
      by_cases h1 : a1 = b1
      · subst h1
        by_cases h2 : a2 = b2
        · subst h2; simp
        · have : ¬ b2 = a2 := fun e => h2 e.symm
          simp [h2, this]
      · have : ¬ b1 = a1 := fun e => h1 e.symm
        simp [h1, this]
    obtain ⟨r, h1, h2⟩ := find_asking heq k w es ks 0 he
    have hn : ∀ es : List MapEntry, es ≠ [] → Instr.findNow (.array 2 I) (kP k) es 0 = none := fun es hes => by
      cases es with
      | nil => exact absurd rfl hes
      | cons e es => simp [Instr.findNow, Instr.sameNow]
    refine ⟨r, ?_, by simpa using h2⟩
    cases es with
    | nil =>
      have : r = none := by simpa [Instr.findAsking] using h1.symm
      subst this
      simp [Instr.findKey, run_underlying h, Instr.findNow]
    | cons e es => simp [Instr.findKey, run_underlying h, hn (e :: es) (by simp), h1]
  same := fun k => by simp [kP, Instr.sameBits]
end Go.Rd
namespace Go.Rd
open Go.RowKit Go.MapKept
set_option linter.unusedVariables false
section
variable {κ β : Type} {ke : κ → Value} {ve : β → Value}
structure MapOk (ke : κ → Value) (ve : β → Value) (es : Array MapEntry) (c : Nat) (L : List (κ × β)) : Prop where
  size : es.size = L.length
  ent : ∀ (i : Nat) (p : κ × β), L[i]? = some p → ∃ n, es[i]? = some (MapEntry.mk (ke p.1) (ve p.2) n) ∧ n < c
  born : ∀ (i j : Nat) (e e' : MapEntry), es[i]? = some e → es[j]? = some e' → e.born = e'.born → i = j
theorem MapOk.nil : MapOk ke ve #[] 0 ([] : List (κ × β)) := ⟨rfl, fun i p h => by simp at h, fun i j e e' h => by simp at h⟩
theorem MapOk.keys {es : Array MapEntry} {c : Nat} {L : List (κ × β)} (h : MapOk ke ve es c L) : es.toList.map (·.key) = (L.map (·.1)).map ke := by
  apply List.ext_getElem?
  intro i
  simp only [List.getElem?_map, Array.getElem?_toList]
  cases hL : L[i]? with
  | none =>
    have : es[i]? = none := by
      rw [Array.getElem?_eq_none_iff, h.size]
      exact List.getElem?_eq_none_iff.1 hL
    simp [this]
  | some p =>
    obtain ⟨n, h1, _⟩ := h.ent i p hL
    simp [h1]
/-- One entry's value becomes another. -/
theorem MapOk.setVal {es : Array MapEntry} {c : Nat} {L : List (κ × β)} (h : MapOk ke ve es c L) {i : Nat} {k : κ} {v : β} (hk : ∃ p : κ × β, L[i]? = some p ∧ p.1 = k) : MapOk ke ve (es.modify i fun e => { e with val := ve v }) c (L.set i (k, v)) := by
  obtain ⟨p, hp, rfl⟩ := hk
  refine ⟨by simp [h.size], fun j q hq => ?_, fun a b e e' h1 h2 h3 => ?_⟩
  · rw [List.getElem?_set] at hq
    rw [Array.getElem?_modify]
    by_cases hj : i = j
    · subst hj
      obtain ⟨n, hn, hc⟩ := h.ent i p hp
      split at hq
      · split at hq
        · cases hq; exact ⟨n, by simp [hn], hc⟩
        · cases hq
      · contradiction
    · rw [if_neg hj] at hq ⊢
      exact h.ent j q hq
  · rw [Array.getElem?_modify] at h1 h2
    have key : ∀ a e, (if i = a then Option.map (fun e : MapEntry => { e with val := ve v }) es[a]? else es[a]?) = some e → ∃ e0, es[a]? = some e0 ∧ e0.born = e.born := fun a e h => by
      split at h
      · cases hq : es[a]? with
        | none => simp [hq] at h
        | some e0 => simp [hq] at h; exact ⟨e0, rfl, by rw [← h]⟩
      · exact ⟨e, h, rfl⟩
    obtain ⟨e0, q1, q2⟩ := key a e h1
    obtain ⟨e1, q3, q4⟩ := key b e' h2
    exact h.born a b e0 e1 q1 q3 (by rw [q2, q4, h3])
theorem MapOk.push {es : Array MapEntry} {c : Nat} {L : List (κ × β)} (h : MapOk ke ve es c L) (k : κ) (v : β) : MapOk ke ve (es.push { key := ke k, val := ve v, born := c }) (c + 1) (L ++ [(k, v)]) := by
  have old : ∀ (i : Nat) (e : MapEntry), es[i]? = some e → e.born < c := fun i e he => by
    have hlt : i < L.length := by rw [← h.size]; exact (Array.getElem?_eq_some_iff.1 he).1
    obtain ⟨n, h1, h2⟩ := h.ent i L[i] (List.getElem?_eq_getElem hlt)
    rw [he] at h1; cases h1; exact h2
  refine ⟨by simp [h.size], fun j q hq => ?_, fun a b e e' h1 h2 h3 => ?_⟩
  · rw [Array.getElem?_push]
    by_cases hj : j = es.size
    · rw [if_pos hj]
      have : q = (k, v) := by
        rw [hj, h.size] at hq; simpa using hq.symm
      subst this
      exact ⟨c, rfl, by omega⟩
    · rw [if_neg hj]
      have hlt : j < L.length := by
        have := (List.getElem?_eq_some_iff.1 hq).1
        simp at this
        rw [h.size] at hj; omega
      rw [List.getElem?_append_left hlt] at hq
      obtain ⟨n, q1, q2⟩ := h.ent j q hq
      exact ⟨n, q1, by omega⟩
  · rw [Array.getElem?_push] at h1 h2
    split at h1 <;> split at h2
    · omega
    · cases h1; have := old b e' h2; simp only at h3; omega
    · cases h2; have := old a e h1; simp only at h3; omega
    · exact h.born a b e e' h1 h2 h3
def mapR (b : Nat) (ke : κ → Value) (ve : β → Value) (L : List (κ × β)) : Res where
  foot := fun x => x = b
  holds := fun w => ∃ es c, w.heap[b]? = some (.map es c) ∧ MapOk ke ve es c L
  stable := fun w w' ⟨es, c, h, h2⟩ hk => ⟨es, c, (hk b rfl).trans h, h2⟩
theorem MapOk.find {es : Array MapEntry} {c : Nat} {L : List (κ × β)} (h : MapOk ke ve es c L) {i : Nat} {e : MapEntry} (he : es[i]? = some e) : es.findIdx? (fun x => (x.born : Int) == (e.born : Int)) = some i := by
  obtain ⟨hi, rfl⟩ := Array.getElem?_eq_some_iff.1 he
  rw [Array.findIdx?_eq_some_iff_getElem]
  refine ⟨hi, by simp, fun j hj hc => ?_⟩
  have hji : j < es.size := by omega
  have := h.born j i _ _ (Array.getElem?_eq_getElem hji) (Array.getElem?_eq_getElem hi) (by simp at hc; omega)
  omega
variable [DecidableEq κ]
theorem mget_at {k : κ} {d : β} : ∀ {L : List (κ × β)} {i : Nat}, (L.map (·.1))[i]? = some k → (∀ j < i, (L.map (·.1))[j]? ≠ some k) → ∃ p : κ × β, L[i]? = some p ∧ p.1 = k ∧ mget L k d = p.2
  | [], i, h, _ => by simp at h
  | p :: L, 0, h, _ => by
    simp at h
    exact ⟨p, rfl, h, by rw [mget_cons, if_pos h]⟩
  | p :: L, i + 1, h, hj => by
    have h0 : ¬ p.1 = k := by simpa using hj 0 (by omega)
    obtain ⟨q, h1, h2, h3⟩ := mget_at (k := k) (d := d) (L := L) (i := i) (by simpa using h) (fun j hlt => by simpa using hj (j + 1) (by omega))
    exact ⟨q, by simpa using h1, h2, by rw [mget_cons, if_neg h0, h3]⟩
theorem mget_not {k : κ} {d : β} : ∀ {L : List (κ × β)}, (∀ j ∈ L.map (·.1), j ≠ k) → mget L k d = d
  | [], _ => rfl
  | p :: L, h => by
    rw [mget_cons, if_neg (h p.1 (by simp)), mget_not fun j hj => h j (by simp at hj ⊢; exact .inr hj)]
theorem mput_at {k : κ} {v : β} : ∀ {L : List (κ × β)} {i : Nat}, (L.map (·.1))[i]? = some k → (∀ j < i, (L.map (·.1))[j]? ≠ some k) → mput L k v = L.set i (k, v)
  | [], i, h, _ => by simp at h
  | p :: L, 0, h, _ => by
    simp at h
    simp [mput, h]
  | p :: L, i + 1, h, hj => by
    have h0 : ¬ p.1 = k := by simpa using hj 0 (by omega)
    unfold mput
    rw [if_neg h0, List.set_cons_succ, mput_at (L := L) (i := i) (by simpa using h) (fun j hlt => by simpa using hj (j + 1) (by omega))]
theorem mput_not {k : κ} {v : β} : ∀ {L : List (κ × β)}, (∀ j ∈ L.map (·.1), j ≠ k) → mput L k v = L ++ [(k, v)]
  | [], _ => rfl
  | p :: L, h => by
    unfold mput
    rw [if_neg (h p.1 (by simp)), mput_not fun j hj => h j (by simp at hj ⊢; exact .inr hj)]
    rfl
/-- A map, by what is looked up in it. -/
def mapW (b : Nat) (ke : κ → Value) (ve : β → Value) (dft : β) (L : List (κ × β)) : Res where
  foot := fun x => x = b
  holds := fun w => ∃ L', (mapR b ke ve L').holds w ∧ ∀ key, mget L' key dft = mget L key dft
  stable := fun w w' ⟨L', h, h2⟩ hk => ⟨L', (mapR b ke ve L').stable w w' h hk, h2⟩
/-- A map one entry of which is about to be stored into. -/
def mapMid (b : Nat) (ke : κ → Value) (ve : β → Value) (dft : β) (L : List (κ × β)) (k : κ) (s : Nat) : Res where
  foot := fun x => x = b
  holds := fun w => ∃ es c i, w.heap[b]? = some (.map es c) ∧ (∃ L', MapOk ke ve es c L' ∧ ∀ key, mget L' key dft = mget L key dft) ∧ es.findIdx? (fun e => (e.born : Int) == (s : Int)) = some i ∧ ∀ v, MapOk ke ve (es.modify i fun e => { e with val := ve v }) c (mput L k v)
  stable := fun w w' ⟨es, c, i, h, h2⟩ hk => ⟨es, c, i, (hk b rfl).trans h, h2⟩
end
section
variable {P : Program} {n : Nat} {σ : Env} {M : Nat → Prop} {w0 : World} {H : List Res} {d : Option Tmp} {T U E Kt : TypeId} {pos : String} {after : Array Edge} {gd : Option (Nat × Bool)} {x y z : Operand} {g g' g'' : Bool} {v : Value}
  {K : Act → World → Prop} {Q : Exit → Act → World → Prop} {κ β : Type} {ke : κ → Value} {ve : β → Value} {L : List (κ × β)} {b : Nat}
def MapT (P : Program) (U Kt E : TypeId) : Prop := P.underlying U = some (.map Kt E)
def ZVal (P : Program) (E : TypeId) (v : Value) : Prop := ((P.info? E).map fun i => i.zero) = some (some v)
theorem run_zeroV {w : World} (h : ZVal P E v) : (zeroValue E).run P w = .ok v w := by
  obtain ⟨i, hi, hz⟩ := Option.map_eq_some_iff.1 h
  simp [zeroValue, typeInfo, hi, hz]
theorem EV.makeMap {dd : Nat} (hn : dd < n) (kk : ∀ b, WK n K ((dd, (true, .map (some b))) :: σ) (Own M w0 (mapR b ke ve ([] : List (κ × β)) :: H))) : EV P n ⟨some dd, .makeMap U none, T, pos, after, gd⟩ σ (Own M w0 H) K Q := fun a w ha hw => by
  refine .inl ?_
  have hrun : (execOp a.eval ⟨some dd, .makeMap U none, T, pos, after, gd⟩).run P w = .ok (.value (.map (some w.heap.size))) (w.alloc (.map #[] 0)) := by
    simp [execOp, Instr.makeMap, newObj, Sem.run, Result.andThen]
  unfold Oper.wp
  rw [hrun]
  show K (a.put (some dd) _) _
  refine kk w.heap.size _ _ (ha.put hn true _) (hw.push (w' := w.alloc (.map #[] 0)) ?_ (mapR w.heap.size ke ve []) ⟨#[], 0, heap_alloc_new w _, MapOk.nil⟩ ?_)
  · exact Grow.alloc _
  · intro b hb
    cases hb
    simp
variable [DecidableEq κ]
theorem run_lookup {w : World} {k : κ} {dft : β} {ok : Bool} (hU : MapT P U Kt E) (hK : KeyT P Kt ke) (hz : ZVal P E (ve dft)) (h : (mapR b ke ve L).holds w) : (Instr.lookup U (.map (some b)) (ke k) ok).run P w = .ok (if ok then .tuple #[ve (mget L k dft), .bool (mhas L k)] else ve (mget L k dft)) w := by
  obtain ⟨es, c, hh, hM⟩ := h
  obtain ⟨r, h1, h2⟩ := hK.find k w es.toList (L.map (·.1)) hM.keys
  have hg : (getObj b).run P w = .ok (.map es c) w := by simp [getObj, Sem.run, hh]
  have hc := hK.check k w es.isEmpty
  unfold Instr.lookup
  rcases h2 with ⟨rfl, hn⟩ | ⟨i, e, rfl, he, hk, hj⟩
  · have e1 : mget L k dft = dft := mget_not hn
    have e2 : mhas L k = false := by
      unfold mhas
      rw [List.any_eq_false]
      intro p hp
      simpa using hn p.1 (List.mem_map_of_mem hp)
    simp [run_underlying hU, hg, hc, h1, run_zeroV hz, e1, e2]
  · obtain ⟨p, q1, q2, q3⟩ := mget_at (d := dft) hk hj
    obtain ⟨m, q4, _⟩ := hM.ent i p q1
    have : e.val = ve p.2 := by rw [Array.getElem?_toList, q4] at he; cases he; rfl
    have e2 : mhas L k = true := by
      unfold mhas
      rw [List.any_eq_true]
      exact ⟨p, List.mem_of_getElem? q1, by simpa using q2⟩
    simp [run_underlying hU, hg, hc, h1, q3, this, e2]
theorem QV.lookup {k : κ} (j : Nat) (dft : β) (hU : MapT P U Kt E) (hK : KeyT P Kt ke) (hz : ZVal P E (ve dft)) (hx : σ.ev x = some (g, .map (some b))) (hg : g = true) (hy : σ.ev y = some (g', ke k)) (hg' : g' = true) (hj : H[j]? = some (mapR b ke ve L)) :
    QV P ⟨d, .lookup U x y false, T, pos, after, gd⟩ σ (Own M w0 H) (ve (mget L k dft)) := .of_run fun n a ha w hw => by
  have := run_lookup (k := k) (ok := false) hU hK hz (hw.at j hj)
  simp only [execOp, ha.ev hx hg, ha.ev hy hg', Sem.run_bind, this, Result.andThen_ok, Sem.run_pure]
  rfl
theorem QV.lookup2 {k : κ} (j : Nat) (dft : β) (hU : MapT P U Kt E) (hK : KeyT P Kt ke) (hz : ZVal P E (ve dft)) (hx : σ.ev x = some (g, .map (some b))) (hg : g = true) (hy : σ.ev y = some (g', ke k)) (hg' : g' = true) (hj : H[j]? = some (mapR b ke ve L)) :
    QV P ⟨d, .lookup U x y true, T, pos, after, gd⟩ σ (Own M w0 H) (.tuple #[ve (mget L k dft), .bool (mhas L k)]) := .of_run fun n a ha w hw => by
  have := run_lookup (k := k) (ok := true) hU hK hz (hw.at j hj)
  simp only [execOp, ha.ev hx hg, ha.ev hy hg', Sem.run_bind, this, Result.andThen_ok, Sem.run_pure]
  rfl
theorem map_upd' {w : World} {o : Obj} {r' : Res} {j : Nat} {r : Res} (hw : Own M w0 H w) (hj : H[j]? = some r) (hf : ∀ x, r.foot x ↔ x = b) (hf' : ∀ x, r'.foot x ↔ x = b) {o0 : Obj} (hb : w.heap[b]? = some o0) (hr : r'.holds { w with heap := w.heap.setIfInBounds b o }) :
    Own M w0 (H.set j r') { w with heap := w.heap.setIfInBounds b o } := by
  have hlt : b < w.heap.size := (Array.getElem?_eq_some_iff.1 hb).1
  refine hw.upd j hj rfl rfl ⟨rfl, Nat.le_refl _⟩ (by simp) (fun x hx hn => ?_) hr fun x hx => ?_
  · exact (heap_set hb).2 x fun e => hn ((hf x).2 e)
  · exact ⟨.inl ((hf x).2 ((hf' x).1 hx)), by rw [(hf' x).1 hx]; simpa using hlt⟩
theorem EV.mapEntry {dd : Nat} (hn : dd < n) (k : κ) (j : Nat) (dft : β) (hU : MapT P U Kt E) (hK : KeyT P Kt ke) (hz : ZVal P E (ve dft)) (hx : σ.ev x = some (g, .map (some b))) (hg : g = true) (hy : σ.ev y = some (g', ke k)) (hg' : g' = true) (hj : H[j]? = some (mapR b ke ve L))
    (kk : ∀ s : Nat, WK n K ((dd, (true, .tuple #[ve (mget L k dft), .int .i64 s])) :: σ) (Own M w0 (H.set j (mapMid b ke ve dft L k s)))) : EV P n ⟨some dd, .mapEntry U x y, T, pos, after, gd⟩ σ (Own M w0 H) K Q := fun a w ha hw => by
  refine .inl ?_
  obtain ⟨es, c, hh, hM⟩ := hw.at j hj
  obtain ⟨r, h1, h2⟩ := hK.find k w es.toList (L.map (·.1)) hM.keys
  have hgo : (getObj b).run P w = .ok (.map es c) w := by simp [getObj, Sem.run, hh]
  have hc := hK.check k w false
  rcases h2 with ⟨rfl, hnk⟩ | ⟨i, e, rfl, he, hk, hjj⟩
  · have e1 : mget L k dft = dft := mget_not hnk
    have hrun : (execOp a.eval ⟨some dd, .mapEntry U x y, T, pos, after, gd⟩).run P w = .ok (.value (.tuple #[ve (mget L k dft), .int .i64 c])) { w with heap := w.heap.setIfInBounds b (.map (es.push { key := ke k, val := ve dft, born := c }) (c + 1)) } := by
      simp [execOp, Instr.mapEntry, ha.ev hx hg, ha.ev hy hg', run_underlying hU, hgo, hc, h1, run_zeroV hz, run_setObj_map _ hh, e1, goInt, Result.andThen]
    unfold Oper.wp
    rw [hrun]
    show K (a.put (some dd) _) _
    have hP := hM.push k dft
    refine kk c _ _ (ha.put hn true _) (map_upd' hw hj (fun _ => Iff.rfl) (fun _ => Iff.rfl) hh ⟨_, _, es.size, (heap_set hh).1, ⟨_, hP, fun key => ?_⟩, ?_, fun v => ?_⟩)
    · rw [← mput_not (v := dft) hnk, mget_mput]
      split
      · rename_i e; subst e; exact e1.symm
      · rfl
    · exact hP.find (e := { key := ke k, val := ve dft, born := c }) (by simp)
    · have := hP.setVal (i := es.size) (k := k) (v := v) ⟨(k, dft), by rw [hM.size]; simp, rfl⟩
      rw [mput_not hnk]
      rw [hM.size] at this ⊢
      simpa using this
  · obtain ⟨p, q1, q2, q3⟩ := mget_at (d := dft) hk hjj
    obtain ⟨m, q4, q5⟩ := hM.ent i p q1
    have hev : e = ⟨ke p.1, ve p.2, m⟩ := by rw [Array.getElem?_toList, q4] at he; cases he; rfl
    subst hev
    subst q2
    have hstay : (Instr.keyThatStays (ke p.1) (ke p.1)).run P w = .ok (ke p.1) w := by simp [Instr.keyThatStays, hK.same]
    have hmod : (es.modify i fun e => { e with key := ke p.1 }) = es := by
      apply Array.ext_getElem?
      intro q
      rw [Array.getElem?_modify]
      split
      · rename_i hq; subst hq; rw [q4]; rfl
      · rfl
    have hrun : (execOp a.eval ⟨some dd, .mapEntry U x y, T, pos, after, gd⟩).run P w = .ok (.value (.tuple #[ve (mget L p.1 dft), .int .i64 m])) { w with heap := w.heap.setIfInBounds b (.map es c) } := by
      simp [execOp, Instr.mapEntry, ha.ev hx hg, ha.ev hy hg', run_underlying hU, hgo, hc, h1, q4, hstay, hmod, run_setObj_map _ hh, q3, goInt, Result.andThen]
    unfold Oper.wp
    rw [hrun]
    show K (a.put (some dd) _) _
    refine kk m _ _ (ha.put hn true _) (map_upd' hw hj (fun _ => Iff.rfl) (fun _ => Iff.rfl) hh ⟨_, _, i, (heap_set hh).1, ⟨_, hM, fun _ => rfl⟩, hM.find q4, fun v => ?_⟩)
    rw [mput_at hk hjj]
    exact hM.setVal ⟨p, q1, rfl⟩
theorem EV.entryStore (k : κ) (j : Nat) (u : β) (s : Nat) (hx : σ.ev x = some (g, .map (some b))) (hg : g = true) (hy : σ.ev y = some (g', .int .i64 s)) (hg' : g' = true) (hz : σ.ev z = some (g'', ve u)) (hg'' : g'' = true) {dft : β} (hj : H[j]? = some (mapMid b ke ve dft L k s))
    (kk : WK n K σ (Own M w0 (H.set j (mapR b ke ve (mput L k u))))) : EV P n ⟨none, .entryStore U x y z, T, pos, after, gd⟩ σ (Own M w0 H) K Q := fun a w ha hw => by
  refine .inl ?_
  obtain ⟨es, c, i, hh, _, hf, hM⟩ := hw.at j hj
  have hgo : (getObj b).run P w = .ok (.map es c) w := by simp [getObj, Sem.run, hh]
  have hrun : (execOp a.eval ⟨none, .entryStore U x y z, T, pos, after, gd⟩).run P w = .ok .skip { w with heap := w.heap.setIfInBounds b (.map (es.modify i fun e => { e with val := ve u }) c) } := by
    simp [execOp, Instr.entryStore, ha.ev hx hg, ha.ev hy hg', ha.ev hz hg'', hgo, hf, asInt, asIntOf, run_setObj_map _ hh, Result.andThen]
  unfold Oper.wp
  rw [hrun]
  show K (a.put none undef) _
  exact kk a _ ha (map_upd' hw hj (fun _ => Iff.rfl) (fun _ => Iff.rfl) hh ⟨_, _, (heap_set hh).1, hM u⟩)
theorem EV.mapUpdate (k : κ) (j : Nat) (u : β) (hU : MapT P U Kt E) (hK : KeyT P Kt ke) (hx : σ.ev x = some (g, .map (some b))) (hg : g = true) (hy : σ.ev y = some (g', ke k)) (hg' : g' = true) (hz : σ.ev z = some (g'', ve u)) (hg'' : g'' = true) (hj : H[j]? = some (mapR b ke ve L))
    (kk : WK n K σ (Own M w0 (H.set j (mapR b ke ve (mput L k u))))) : EV P n ⟨none, .mapUpdate U x y z, T, pos, after, gd⟩ σ (Own M w0 H) K Q := fun a w ha hw => by
  refine .inl ?_
  obtain ⟨es, c, hh, hM⟩ := hw.at j hj
  obtain ⟨r, h1, h2⟩ := hK.find k w es.toList (L.map (·.1)) hM.keys
  have hgo : (getObj b).run P w = .ok (.map es c) w := by simp [getObj, Sem.run, hh]
  have hc := hK.check k w false
  rcases h2 with ⟨rfl, hnk⟩ | ⟨i, e, rfl, he, hk, hjj⟩
  · have hrun : (execOp a.eval ⟨none, .mapUpdate U x y z, T, pos, after, gd⟩).run P w = .ok .skip { w with heap := w.heap.setIfInBounds b (.map (es.push { key := ke k, val := ve u, born := c }) (c + 1)) } := by
      simp [execOp, Instr.mapUpdate, ha.ev hx hg, ha.ev hy hg', ha.ev hz hg'', run_underlying hU, hgo, hc, h1, run_setObj_map _ hh, Result.andThen]
    unfold Oper.wp
    rw [hrun]
    show K (a.put none undef) _
    refine kk a _ ha (map_upd' hw hj (fun _ => Iff.rfl) (fun _ => Iff.rfl) hh ⟨_, _, (heap_set hh).1, ?_⟩)
    rw [mput_not hnk]
    exact hM.push k u
  · obtain ⟨p, q1, q2, q3⟩ := mget_at (d := u) hk hjj
    obtain ⟨m, q4, q5⟩ := hM.ent i p q1
    have hev : e = ⟨ke p.1, ve p.2, m⟩ := by rw [Array.getElem?_toList, q4] at he; cases he; rfl
    subst hev
    subst q2
    have hstay : (Instr.keyThatStays (ke p.1) (ke p.1)).run P w = .ok (ke p.1) w := by simp [Instr.keyThatStays, hK.same]
    have hmod : (es.modify i fun e => { e with key := ke p.1, val := ve u }) = (es.modify i fun e => { e with val := ve u }) := by
      apply Array.ext_getElem?
      intro q
      rw [Array.getElem?_modify, Array.getElem?_modify]
      split
      · rename_i hq; subst hq; rw [q4]; rfl
      · rfl
    have hrun : (execOp a.eval ⟨none, .mapUpdate U x y z, T, pos, after, gd⟩).run P w = .ok .skip { w with heap := w.heap.setIfInBounds b (.map (es.modify i fun e => { e with val := ve u }) c) } := by
      simp [execOp, Instr.mapUpdate, ha.ev hx hg, ha.ev hy hg', ha.ev hz hg'', run_underlying hU, hgo, hc, h1, q4, hstay, hmod, run_setObj_map _ hh, Result.andThen]
    unfold Oper.wp
    rw [hrun]
    show K (a.put none undef) _
    refine kk a _ ha (map_upd' hw hj (fun _ => Iff.rfl) (fun _ => Iff.rfl) hh ⟨_, _, (heap_set hh).1, ?_⟩)
    rw [mput_at hk hjj]
    exact hM.setVal ⟨p, q1, rfl⟩
/-- A resource tells less. -/
theorem Own.weak {r r' : Res} {w : World} (k : Nat) (hk : H[k]? = some r) (hr : r.holds w → r'.holds w) (hf : ∀ x, r'.foot x → r.foot x) (h : Own M w0 H w) : Own M w0 (H.set k r') w :=
  h.upd k hk rfl rfl ⟨rfl, Nat.le_refl _⟩ (Nat.le_refl _) (fun _ _ _ => rfl) (hr (h.at k hk)) fun b hb => ⟨.inl (hf b hb), (h.2.lt r (List.mem_of_getElem? hk) b (hf b hb)).2⟩
theorem Own.mapWeak {w : World} (k : Nat) (dft : β) (hk : H[k]? = some (mapR b ke ve L)) (h : Own M w0 H w) : Own M w0 (H.set k (mapW b ke ve dft L)) w :=
  h.weak k hk (fun x => ⟨L, x, fun _ => rfl⟩) fun _ x => x
theorem Own.midWeak {w : World} (k : Nat) {dft : β} {key : κ} {s : Nat} (hk : H[k]? = some (mapMid b ke ve dft L key s)) (h : Own M w0 H w) : Own M w0 (H.set k (mapW b ke ve dft L)) w :=
  h.weak k hk (fun ⟨es, c, i, h1, ⟨L', h2, h3⟩, _⟩ => ⟨L', ⟨es, c, h1, h2⟩, h3⟩) fun _ x => x
theorem QV.lookupW {k : κ} (j : Nat) (dft : β) (hU : MapT P U Kt E) (hK : KeyT P Kt ke) (hz : ZVal P E (ve dft)) (hx : σ.ev x = some (g, .map (some b))) (hg : g = true) (hy : σ.ev y = some (g', ke k)) (hg' : g' = true) (hj : H[j]? = some (mapW b ke ve dft L)) :
    QV P ⟨d, .lookup U x y false, T, pos, after, gd⟩ σ (Own M w0 H) (ve (mget L k dft)) := .of_run fun n a ha w hw => by
  obtain ⟨L', h1, h2⟩ := hw.at j hj
  have := run_lookup (k := k) (ok := false) hU hK hz h1
  rw [h2] at this
  simp only [execOp, ha.ev hx hg, ha.ev hy hg', Sem.run_bind, this, Result.andThen_ok, Sem.run_pure]
  rfl
end
end Go.Rd
end

section
namespace Go.Rd
open Go.RowKit
set_option linter.unusedVariables false
theorem putL_append : ∀ (vs a c : List Value) (off : Nat), off + vs.length ≤ a.length → putL (a ++ c) off vs = putL a off vs ++ c
  | [], a, c, off, _ => rfl
  | v :: vs, a, c, off, h => by
    simp only [List.length_cons] at h
    unfold putL
    rw [List.set_append_left _ _ (by omega), putL_append vs (a.set off v) c (off + 1) (by simp; omega)]
theorem putL_right : ∀ (vs a c : List Value) (off : Nat), putL (a ++ c) (a.length + off) vs = a ++ putL c off vs
  | [], a, c, off => rfl
  | v :: vs, a, c, off => by
    unfold putL
    rw [List.set_append_right _ _ (by omega), Nat.add_sub_cancel_left, Nat.add_assoc, putL_right vs a (c.set off v) (off + 1)]
theorem putL_flatten {sz : Nat} {vs : List Value} {off : Nat} (hl : off + vs.length ≤ sz) : ∀ {rows : List (List Value)} {i : Nat}, (∀ r ∈ rows, r.length = sz) → i < rows.length → putL rows.flatten (i * sz + off) vs = (rows.set i (putL (rows.getD i []) off vs)).flatten
  | [], i, _, h => by simp at h
  | r :: rows, 0, hr, _ => by
    have := hr r (by simp)
    simp [putL_append vs r rows.flatten off (by omega)]
  | r :: rows, i + 1, hr, h => by
    have h1 := hr r (by simp)
    have ih := putL_flatten (vs := vs) (off := off) hl (rows := rows) (i := i) (fun q hq => hr q (by simp [hq])) (by simpa using h)
    rw [List.flatten_cons, show (i + 1) * sz + off = r.length + (i * sz + off) from by rw [h1, Nat.succ_mul]; omega, putL_right, ih]
    simp
theorem map_set_putL {α : Type} [Inhabited α] {enc : α → List Value} {xs : List α} {i : Nat} {z : α} {off : Nat} {vs : List Value} (hi : i < xs.length) (he : enc z = putL (enc (xs.getD i default)) off vs) : (xs.map enc).set i (putL ((xs.map enc).getD i []) off vs) = (xs.set i z).map enc := by
  have : (xs.map enc).getD i [] = enc (xs.getD i default) := by simp [List.getD_eq_getElem?_getD, List.getElem?_eq_getElem hi]
  rw [this, ← he, List.map_set]
section
variable {P : Program} {n : Nat} {σ : Env} {M : Nat → Prop} {w0 : World} {H : List Res} {d : Option Tmp} {T U E S T2 : TypeId} {pos : String} {after : Array Edge} {gd : Option (Nat × Bool)} {x y z : Operand} {g g' g'' : Bool} {v yv : Value}
  {K : Act → World → Prop} {Q : Exit → Act → World → Prop}
/-- A store into a part of an element of a slice of the call's own. -/
theorem EV.storeE {α : Type} [Inhabited α] {enc : α → List Value} {sz : Nat} (k : Nat) (u : α) {xs : List α} {i : Int} {p q : Addr} {off : Nat} {vs : List Value} (hx : σ.ev x = some (g, .pointer (some q))) (hg : g = true) (hy : σ.ev y = some (g', yv)) (hg' : g' = true)
    (hk : H[k]? = some (vec v E sz (xs.map enc))) (hp : ElemP v i sz p) (hi : IX i (ln xs)) (hq : q = p.add off) (hv : yv.cells = vs.toArray) (hs : SizeT P T vs.length) (hl : off + vs.length ≤ sz) (ho : ∀ u ∈ vs, u.oneCell' = true) (he : enc u = putL (enc (ele xs i)) off vs)
    (kk : WK n K σ (Own M w0 (H.set k (vec v E sz ((upd xs i u).map enc))))) : EV P n ⟨none, .store T x y, U, pos, after, gd⟩ σ (Own M w0 H) K Q := fun a w ha hw => by
  refine .inl ?_
  have hvh := hw.at k hk
  obtain ⟨⟨h1, h2⟩, h3⟩ := hvh
  rcases h2 with ⟨rfl, _⟩ | ⟨b, cap, cur, rfl, hb, hh, hnc, hcm, hcs, ht⟩
  · obtain ⟨a, n, c', he', _⟩ := hp; simp at he'
  obtain ⟨aa, n', c', he', h0, hlt, rfl⟩ := hp
  simp only [Value.slice.injEq, Option.some.injEq] at he'
  obtain ⟨rfl, hn', rfl⟩ := he'
  have hxs : i.toNat < xs.length := by have := hi.2; unfold ln at this; omega
  have hrl : (xs.map enc).length = xs.length := List.length_map _
  have hq2 : q = ⟨b, i.toNat * sz + off, none⟩ := by rw [hq, Addr.add_add, Addr.add_lit]; simp
  subst hq2
  have hcl : cur.toList.length = cap * sz := by simpa using hcs
  have hle : (i.toNat + 1) * sz ≤ cap * sz := Nat.mul_le_mul_right _ (by rw [hrl] at hnc; omega)
  rw [Nat.succ_mul] at hle
  obtain ⟨w', q1, q2, q3, q4, q5, q6, q7⟩ := run_storeCells_blk (P := P) vs ⟨b, i.toNat * sz + off, none⟩ 0 (i.toNat * sz + off) cur.toList w (by simpa using hh) (by simp [Addr.add]) (by omega) ho
  obtain ⟨inf, hinf, hsz⟩ := Option.map_eq_some_iff.1 hs
  have hrun : (execOp a.eval ⟨none, .store T x y, U, pos, after, gd⟩).run P w = .ok .skip w' := by
    simp [execOp, ha.ev hx hg, ha.ev hy hg', Instr.storeAt, Instr.sureAddr, storeVar, hv, sizeOf, typeInfo, hinf, hsz, q1]
  unfold Oper.wp
  rw [hrun]
  show K (a.put none undef) w'
  have hbl : b < w.heap.size := (Array.getElem?_eq_some_iff.1 hh).1
  have hfl := flatten_len h3
  have hrows : ((upd xs i u).map enc).flatten = putL (xs.map enc).flatten (i.toNat * sz + off) vs := by
    rw [putL_flatten hl h3 (by rw [hrl]; exact hxs), map_set_putL hxs he]
    rfl
  have hur : ((upd xs i u).map enc).length = (xs.map enc).length := by simp [upd]
  have hholds : (vec (.slice (some ⟨b, 0, none⟩) (xs.map enc).length cap) E sz ((upd xs i u).map enc)).holds w' := by
    refine ⟨⟨by rw [hrows, putL_length, hur]; exact h1, .inr ⟨b, cap, (putL cur.toList (i.toNat * sz + off) vs).toArray, by rw [hur], hb, q2, by rw [hur]; exact hnc, hcm, by simp [putL_length, hcs], ?_⟩⟩, fun r hr => ?_⟩
    · rw [hrows]
      have e1 : cur.toList = (xs.map enc).flatten ++ cur.toList.drop ((xs.map enc).length * sz) := by
        conv => lhs; rw [← List.take_append_drop ((xs.map enc).length * sz) cur.toList]
        rw [ht]
      have hmul : (i.toNat + 1) * sz ≤ (xs.map enc).length * sz := Nat.mul_le_mul_right _ (by rw [hrl]; omega)
      rw [Nat.succ_mul] at hmul
      rw [e1, putL_append vs _ _ _ (by rw [hfl]; omega), hur, List.take_append_of_le_length (by rw [putL_length, hfl]; exact Nat.le_refl _), List.take_of_length_le (by rw [putL_length, hfl]; exact Nat.le_refl _)]
    · obtain ⟨s, hs', rfl⟩ := List.mem_map.1 hr
      rcases List.mem_or_eq_of_mem_set hs' with hm | rfl
      · exact h3 _ (List.mem_map_of_mem hm)
      · rw [he, putL_length]
        have := h3 (enc (ele xs i)) (List.mem_map_of_mem (by unfold ele; rw [List.getD_eq_getElem?_getD, List.getElem?_eq_getElem hxs]; exact List.getElem_mem hxs))
        exact this
  refine kk a w' ha (hw.upd k hk q5 q6 q7 (by omega) (fun c hc hne => q3 c fun e => hne (by subst e; exact ⟨_, _, rfl⟩)) hholds fun c hc => ?_)
  obtain ⟨n2, k2, he2⟩ := hc
  simp only [Value.slice.injEq, Option.some.injEq, Addr.mk.injEq] at he2
  obtain ⟨⟨rfl, _⟩, _⟩ := he2
  exact ⟨.inl ⟨_, _, rfl⟩, by omega⟩
theorem QV.max3 {ats : Array TypeId} {k : IntKind} {i j m : Int} (hx : σ.ev x = some (g, .int k i)) (hg : g = true) (hy : σ.ev y = some (g', .int k j)) (hg' : g' = true) (hz : σ.ev z = some (g'', .int k m)) (hg'' : g'' = true) {C : World → Prop} :
    QV P ⟨d, .call ⟨.builtin .max, #[x, y, z], ats⟩, T, pos, after, gd⟩ σ C (.int k (max (max i j) m)) := .of_run fun n ac ha w hw => by
  have e : ∀ a b : Int, (if b > a then b else a) = max a b := fun a b => by split <;> omega
  simp [execOp, resolve, invoke, builtin, ha.ev hx hg, ha.ev hy hg', ha.ev hz hg'', Builtin.max_, Builtin.max2, List.foldlM, e, Int.max_assoc]
theorem WQ.ret3 {fn : Func} {R : Ending → World → Prop} {C : World → Prop} {t u s : Nat} {v1 v2 v3 : Value} (hr : fn.results = #[.tmp t, .tmp u, .tmp s]) (h1 : σ.look t = some (true, v1)) (h2 : σ.look u = some (true, v2)) (h3 : σ.look s = some (true, v3)) (h : ∀ w, C w → R (.returned (.tuple #[v1, v2, v3])) w) :
    WK n (bodyPost P fn R .ret) σ C := fun a w ha hw => by
  refine ⟨ha.defers, _, ?_, h w hw⟩
  have a1 := ha.look t true v1 h1
  have a2 := ha.look u true v2 h2
  have a3 := ha.look s true v3 h3
  simp at a1 a2 a3
  simp [results, hr, a1, a2, a3]
theorem WQ.retCellTmp2 {fn : Func} {R : Ending → World → Prop} {C : World → Prop} {ty : TypeId} {p u s sz : Nat} {q : Addr} {cs : List Value} {v2 v3 : Value} (hr : fn.results = #[.cell p ty, .tmp u, .tmp s]) (hT : AggT P ty sz) (hl : cs.length = sz) (hp : σ.look p = some (true, .pointer (some q)))
    (h2 : σ.look u = some (true, v2)) (h3 : σ.look s = some (true, v3)) (hc : ∀ w, C w → CellsAt w q cs 0) (h : ∀ w, C w → R (.returned (.tuple #[.agg cs.toArray, v2, v3])) w) : WK n (bodyPost P fn R .ret) σ C := fun a w ha hw => by
  refine ⟨ha.defers, _, ?_, h w hw⟩
  have hp' := ha.look p true _ hp
  have a2 := ha.look u true v2 h2
  have a3 := ha.look s true v3 h3
  simp at hp' a2 a3
  have := run_loadVar_cells (P := P) hT hl (hc w hw)
  simp [results, hr, hp', asAddr, this, a2, a3]
def ptrsVO (b off m : Nat) : List Value := (List.range m).map fun j => .pointer (some ⟨b, off + j, none⟩)
theorem QV.indexPtrsO {b m off : Nat} {k : IntKind} {i : Int} {C : World → Prop} (hU : P.underlying U = some (.array m E)) (hE : Plain P E) (hs : SizeT P E 1) (hx : σ.ev x = some (g, .agg (ptrsVO b off m).toArray)) (hg : g = true) (hy : σ.ev y = some (g', .int k i)) (hg' : g' = true) (hi : IX i m) :
    QV P ⟨d, .index U x y, T, pos, after, gd⟩ σ C (.pointer (some (((⟨b, 0, none⟩ : Addr).add off).add (i.toNat * 1)))) := .of_run fun n a ha w hw => by
  obtain ⟨inf, hin, hsz⟩ := Option.map_eq_some_iff.1 hs
  have h0 := hi.1; have h1 := hi.2
  have hlt : i.toNat < m := by omega
  have hA := run_isAgg_plain hE w
  have e : (((⟨b, 0, none⟩ : Addr).add off).add (i.toNat * 1)) = ⟨b, off + i.toNat, none⟩ := by rw [Nat.mul_one, Addr.add_lit, Addr.add_lit, Nat.zero_add]
  have hget : (ptrsVO b off m)[i.toNat]? = some (.pointer (some ⟨b, off + i.toNat, none⟩)) := by simp [ptrsVO, hlt]
  rw [e]
  simp [execOp, ha.ev hx hg, ha.ev hy hg', Instr.index, asIntOf, run_underlying hU, h0, h1, sizeOf, typeInfo, hin, hsz, part, hA, hget]
theorem QV.indexL {xs : List Int} {m : Nat} {k : IntKind} {i : Int} {C : World → Prop} (hU : P.underlying U = some (.array m E)) (hE : Plain P E) (hs : SizeT P E 1) (hx : σ.ev x = some (g, .agg (xs.map i64v).toArray)) (hg : g = true) (hy : σ.ev y = some (g', .int k i)) (hg' : g' = true) (hl : xs.length = m) (hi : IX i m) :
    QV P ⟨d, .index U x y, T, pos, after, gd⟩ σ C (.int .i64 (ele xs i)) := .of_run fun n a ha w hw => by
  obtain ⟨inf, hin, hsz⟩ := Option.map_eq_some_iff.1 hs
  have h0 := hi.1; have h1 := hi.2
  have hlt : i.toNat < xs.length := by omega
  have hA := run_isAgg_plain hE w
  have hget : (xs.map i64v)[i.toNat]? = some (.int .i64 (ele xs i)) := by
    rw [List.getElem?_map, List.getElem?_eq_getElem hlt]
    simp [ele, List.getD_eq_getElem?_getD, List.getElem?_eq_getElem hlt, i64v]
  have hget' : (List.map i64v xs).toArray[i.toNat]? = some (.int .i64 (ele xs i)) := by simpa using hget
  simp [execOp, ha.ev hx hg, ha.ev hy hg', Instr.index, asIntOf, run_underlying hU, h0, h1, sizeOf, typeInfo, hin, hsz, part, hA, -List.map_toArray, -List.getElem?_toArray, hget']
end
end Go.Rd
end

section
namespace Go.Rd
open Go.RowKit
set_option linter.unusedVariables false
theorem sub_len {α : Type} {xs : List α} {i j : Int} (h : SX i j (ln xs)) : (sub xs i j).length = (j - i).toNat := by
  obtain ⟨h1, h2, h3⟩ := h
  unfold sub ln at *
  rw [List.length_take, List.length_drop]; omega
theorem subS_slen {α : Type} {xs : List α} {v : Value} {sz : Nat} {i j : Int} (hv : SliceLen v xs.length) (h : SX i j (ln xs)) : SliceLen (subS v sz i.toNat j.toNat) (sub xs i j).length := by
  rw [sub_len h]
  obtain ⟨h1, h2, h3⟩ := h
  unfold ln at h3
  have := subS_len (sz := sz) hv (l := i.toNat) (h := j.toNat) (by omega) (by omega)
  rwa [show (j - i).toNat = j.toNat - i.toNat from by omega]
section
variable {P : Program} {n : Nat} {σ : Env} {M : Nat → Prop} {w0 : World} {H : List Res} {d : Option Tmp} {T U E : TypeId} {pos : String} {after : Array Edge} {gd : Option (Nat × Bool)} {x y : Operand} {g g' : Bool} {v : Value}
  {K : Act → World → Prop} {Q : Exit → Act → World → Prop}
theorem zero_cells {α : Type} {enc : α → List Value} {z : α} {sz m : Nat} (hl : (enc z).length = sz) (h0 : 0 < sz) : (Builtin.zeroCells (enc z).toArray m).toList = ((List.replicate m z).map enc).flatten := by
  apply List.ext_getElem?
  intro j
  have hall : ∀ r ∈ (List.replicate m z).map enc, r.length = sz := by intro r hr; obtain ⟨u, hu, rfl⟩ := List.mem_map.1 hr; rw [List.mem_replicate] at hu; rw [hu.2, hl]
  have hfl : ((List.replicate m z).map enc).flatten.length = m * sz := by rw [flatten_len hall]; simp
  have hs : (enc z).toArray.size = sz := by simpa using hl
  by_cases hj : j < m * sz
  · have hq : j / sz < m := Nat.div_lt_of_lt_mul (by rwa [Nat.mul_comm] at hj)
    have hd := drop_flatten (sz := sz) (rows := (List.replicate m z).map enc) (i := j / sz) (r := enc z) hall (by simp [hq])
    have hmod : j % sz < sz := Nat.mod_lt _ h0
    have e1 : ((List.replicate m z).map enc).flatten[j]? = (enc z)[j % sz]? := by
      have : (enc z)[j % sz]? = ((((List.replicate m z).map enc).flatten.drop (j / sz * sz)).take (enc z).length)[j % sz]? := by rw [hd]
      rw [this, List.getElem?_take, hl, if_pos hmod, List.getElem?_drop, Nat.mul_comm, Nat.div_add_mod]
    rw [e1]
    have hlt : j % sz < (enc z).length := by rw [hl]; exact hmod
    simp [Builtin.zeroCells, hj, hl, List.getElem?_eq_getElem hlt]
  · have hj' := Nat.le_of_not_lt hj
    rw [List.getElem?_eq_none (by rw [Array.length_toList, size_zeroCells, hs]; exact hj'), List.getElem?_eq_none (by rw [hfl]; exact hj')]
/-- What stands from i on is cleared. -/
def clr {α : Type} (xs : List α) (i : Int) (z : α) : List α := xs.take i.toNat ++ List.replicate (xs.length - i.toNat) z
theorem addr_zero (p : Addr) : p = p.add 0 := (by cases p; simp [Addr.add])
theorem clr_len {α : Type} {xs : List α} {i : Int} {z : α} (h : i ≤ ln xs) : (clr xs i z).length = xs.length := by
  unfold clr ln at *
  rw [List.length_append, List.length_take, List.length_replicate]; omega
theorem putL_all : ∀ (vs a : List Value) (off : Nat), off + vs.length = a.length → putL a off vs = a.take off ++ vs
  | [], a, off, h => by simp only [List.length_nil, Nat.add_zero] at h; subst h; simp [putL]
  | v :: vs, a, off, h => by
    simp only [List.length_cons] at h
    unfold putL
    rw [putL_all vs (a.set off v) (off + 1) (by simp; omega)]
    have : (a.set off v).take (off + 1) = a.take off ++ [v] := by
      rw [List.take_add_one, List.take_set_of_le (Nat.le_refl _), List.getElem?_set_self (by omega)]; rfl
    rw [this, List.append_assoc]; rfl
theorem flatten_take {sz : Nat} : ∀ {rows : List (List Value)} (i : Nat), (∀ r ∈ rows, r.length = sz) → (rows.take i).flatten = rows.flatten.take (i * sz)
  | [], i, _ => by simp
  | r :: rows, 0, _ => by simp
  | r :: rows, i + 1, h => by
    have h1 := h r (by simp)
    rw [List.take_succ_cons, List.flatten_cons, List.flatten_cons, flatten_take i (fun q hq => h q (by simp [hq])), show (i + 1) * sz = r.length + i * sz from by rw [h1, Nat.succ_mul]; omega, List.take_length_add_append]
theorem EV.clear {α : Type} {enc : α → List Value} {sz : Nat} (k : Nat) (z : α) {xs : List α} {lo hi : Int} (hT : SliceT P U E sz) (hz : ZeroT P E (enc z)) (hlen : ∀ u, (enc u).length = sz) (h0 : 0 < sz) (h1 : ∀ c ∈ enc z, c.oneCell' = true)
    (hx : σ.ev x = some (g, subS v sz lo.toNat hi.toNat)) (hg : g = true) (hk : H[k]? = some (vec v E sz (xs.map enc))) (hS : SX lo hi (ln xs)) (hh : hi = ln xs) {dd : Nat} (hd : d = some dd ∧ dd < n ∨ d = none)
    (kk : WK n K σ (Own M w0 (H.set k (vec v E sz ((clr xs lo z).map enc))))) (kd : ∀ dd, d = some dd → WK n K ((dd, (true, .tuple #[])) :: σ) (Own M w0 (H.set k (vec v E sz ((clr xs lo z).map enc))))) :
    EV P n ⟨d, .call ⟨.builtin .clear, #[x], #[U]⟩, T, pos, after, gd⟩ σ (Own M w0 H) K Q := fun a w ha hw => by
  refine .inl ?_
  obtain ⟨s1, s2, s3⟩ := hS
  subst hh
  obtain ⟨⟨q1, q2⟩, q3⟩ := hw.at k hk
  obtain ⟨hU, hSz⟩ := hT
  obtain ⟨inf, zv, z1, z2, z3⟩ := hz.out
  have hrl : (xs.map enc).length = xs.length := List.length_map _
  have hhi : (ln xs).toNat = xs.length := by unfold ln; omega
  have hend : ∀ w', (vec v E sz ((clr xs lo z).map enc)).holds w' → Own M w0 (H.set k (vec v E sz ((clr xs lo z).map enc))) w' → K (a.put d (.tuple #[])) w' := fun w' _ ho => by
    cases d with
    | none => exact kk a w' ha ho
    | some dd' =>
      rcases hd with ⟨hd1, hd2⟩ | hd
      · cases hd1; exact kd _ rfl _ w' (ha.put hd2 true _) ho
      · cases hd
  rcases q2 with ⟨rfl, hl0⟩ | ⟨b, cap, cur, rfl, hb, hh, hnc, hcm, hcs, ht⟩
  · have hx0 : xs = [] := List.length_eq_zero_iff.1 (by rw [← hrl]; exact hl0)
    subst hx0
    have hl0 : lo = 0 := by unfold ln at s3; simp at s3; omega
    subst hl0
    have hrun : (execOp a.eval ⟨d, .call ⟨.builtin .clear, #[x], #[U]⟩, T, pos, after, gd⟩).run P w = .ok (.value (.tuple #[])) w := by
      simp [execOp, resolve, invoke, builtin, ha.ev hx hg, Builtin.clear_, run_underlying hU, subS, ln, Result.andThen]
    unfold Oper.wp
    rw [hrun]
    have e : clr ([] : List α) 0 z = [] := rfl
    have es : H.set k (vec (.slice none 0 0) E sz (([] : List α).map enc)) = H := by
      apply List.ext_getElem?
      intro j
      rw [List.getElem?_set]
      split
      · rename_i hj; subst hj
        split
        · exact hk.symm
        · rw [List.getElem?_eq_none (by omega)] at hk; cases hk
      · rfl
    have hown : Own M w0 (H.set k (vec (.slice none 0 0) E sz ((clr ([] : List α) 0 z).map enc))) w := by rw [e, es]; exact hw
    exact hend w (hown.at k (by rw [List.getElem?_set_self (List.getElem?_eq_some_iff.1 hk).1])) hown
  · by_cases hm : xs.length - lo.toNat = 0
    · have e : clr xs lo z = xs := by unfold clr; rw [hm, List.replicate_zero, List.append_nil, List.take_of_length_le (by omega)]
      have es : H.set k (vec (.slice (some ⟨b, 0, none⟩) (xs.map enc).length cap) E sz (xs.map enc)) = H := by
        apply List.ext_getElem?
        intro j
        rw [List.getElem?_set]
        split
        · rename_i hj; subst hj
          split
          · exact hk.symm
          · rw [List.getElem?_eq_none (by omega)] at hk; cases hk
        · rfl
      have hrun : (execOp a.eval ⟨d, .call ⟨.builtin .clear, #[x], #[U]⟩, T, pos, after, gd⟩).run P w = .ok (.value (.tuple #[])) w := by
        have ex := ha.ev hx hg
        simp only [subS, hhi, hm] at ex
        split at ex <;> simp [execOp, resolve, invoke, builtin, ex, Builtin.clear_, run_underlying hU, Result.andThen]
      unfold Oper.wp
      rw [hrun]
      have hown : Own M w0 (H.set k (vec (.slice (some ⟨b, 0, none⟩) (xs.map enc).length cap) E sz ((clr xs lo z).map enc))) w := by rw [e, es]; exact hw
      exact hend w (hown.at k (by rw [List.getElem?_set_self (List.getElem?_eq_some_iff.1 hk).1])) hown
    · have hne : ¬ cap = lo.toNat := by rw [hrl] at hnc; omega
      have hzl : (enc z).length = sz := hlen z
      have hzc := zero_cells (enc := enc) (z := z) (m := xs.length - lo.toNat) hzl h0
      have hfz := flatten_len (sz := sz) (rows := (List.replicate (xs.length - lo.toNat) z).map enc) (by intro r hr; obtain ⟨u, hu, rfl⟩ := List.mem_map.1 hr; rw [List.mem_replicate] at hu; rw [hu.2, hzl])
      rw [List.length_map, List.length_replicate] at hfz
      have hcl : cur.toList.length = cap * sz := by simpa using hcs
      have hmul : (lo.toNat + (xs.length - lo.toNat)) * sz ≤ cap * sz := Nat.mul_le_mul_right _ (by rw [hrl] at hnc; omega)
      rw [Nat.add_mul] at hmul
      obtain ⟨w', q1', r2, r3, r4, r5, r6, r7⟩ := run_storeCells_blk (P := P) ((List.replicate (xs.length - lo.toNat) z).map enc).flatten ⟨b, lo.toNat * sz, none⟩ 0 (lo.toNat * sz) cur.toList w (by simpa using hh) (by simp [Addr.add]) (by rw [hfz]; omega)
        (fun u hu => by obtain ⟨r, hr, hu⟩ := List.mem_flatten.1 hu; obtain ⟨v, hv, rfl⟩ := List.mem_map.1 hr; rw [List.mem_replicate] at hv; rw [hv.2] at hu; exact h1 u hu)
      have hrun : (execOp a.eval ⟨d, .call ⟨.builtin .clear, #[x], #[U]⟩, T, pos, after, gd⟩).run P w = .ok (.value (.tuple #[])) w' := by
        have ex := ha.ev hx hg
        simp only [subS, hhi, if_neg hne, Option.map_some, Addr.add_lit, Nat.zero_add] at ex
        obtain ⟨m', hm'⟩ : ∃ m', xs.length - lo.toNat = m' + 1 := ⟨xs.length - lo.toNat - 1, by omega⟩
        rw [hm'] at ex hzc q1'
        rw [List.map_replicate] at hzc q1'
        have hzr : (zeroValue E).run P w = .ok zv w := by simp [zeroValue, typeInfo, z1, z2]
        simp [execOp, resolve, invoke, builtin, ex, Builtin.clear_, run_underlying hU, Result.andThen, hzr, z3, hzc, q1']
      unfold Oper.wp
      rw [hrun]
      have hbl : b < w.heap.size := (Array.getElem?_eq_some_iff.1 hh).1
      have hcl2 : ((clr xs lo z).map enc).length = (xs.map enc).length := by rw [List.length_map, List.length_map, clr_len s2]
      have hflat : ((clr xs lo z).map enc).flatten = putL (xs.map enc).flatten (lo.toNat * sz) ((List.replicate (xs.length - lo.toNat) z).map enc).flatten := by
        have hfx := flatten_len q3
        rw [putL_all _ _ _ (by rw [hfz, hfx, hrl, ← Nat.add_mul]; congr 1; omega), ← flatten_take _ q3]
        unfold clr
        rw [List.map_append, List.flatten_append, List.map_take]
      have hholds : (vec (.slice (some ⟨b, 0, none⟩) (xs.map enc).length cap) E sz ((clr xs lo z).map enc)).holds w' := by
        refine ⟨⟨by rw [hflat, putL_length, hcl2]; exact q1, .inr ⟨b, cap, (putL cur.toList (lo.toNat * sz) ((List.replicate (xs.length - lo.toNat) z).map enc).flatten).toArray, by rw [hcl2], hb, r2, by rw [hcl2]; exact hnc, hcm, by simp [putL_length, hcs], ?_⟩⟩, fun r hr => ?_⟩
        · have e1 : cur.toList = (xs.map enc).flatten ++ cur.toList.drop ((xs.map enc).length * sz) := by
            conv => lhs; rw [← List.take_append_drop ((xs.map enc).length * sz) cur.toList]
            rw [ht]
          have hfx := flatten_len q3
          rw [hflat, e1, putL_append _ _ _ _ (by rw [hfz, hfx, hrl, ← Nat.add_mul]; exact Nat.mul_le_mul_right _ (by omega)), hcl2, List.take_append_of_le_length (by rw [putL_length, hfx]; exact Nat.le_refl _), List.take_of_length_le (by rw [putL_length, hfx]; exact Nat.le_refl _)]
        · obtain ⟨u, hu, rfl⟩ := List.mem_map.1 hr
          exact hlen u
      refine hend w' hholds (hw.upd k hk r5 r6 r7 (by omega) (fun c hc hne => r3 c fun e => hne (by subst e; exact ⟨_, _, rfl⟩)) hholds fun c hc => ?_)
      obtain ⟨n2, k2, he2⟩ := hc
      simp only [Value.slice.injEq, Option.some.injEq, Addr.mk.injEq] at he2
      obtain ⟨⟨rfl, _⟩, _⟩ := he2
      exact ⟨.inl ⟨_, _, rfl⟩, by omega⟩
end
/-! ### edges in order -/
def ordV (a b : Edg) : Int := if a.fr < b.fr then -1 else if b.fr < a.fr then 1 else if a.to < b.to then -1 else if b.to < a.to then 1 else if a.bk < b.bk then -1 else if b.bk < a.bk then 1 else if a.wt < b.wt then -1 else if b.wt < a.wt then 1 else 0
def sortE (xs : List Edg) : List Edg := xs.mergeSort fun x y => !decide (ordV y x < 0)
def SortFunc_m (xs : List Edg) : Option (List Edg) := ck (xs.length < 4611686018427387904) (some (sortE xs))
end Go.Rd
end

section
namespace Go.Rd
set_option linter.unusedVariables false
noncomputable def num_Index_c1_m (n_ : Int) : Option (Bool) :=
 some ((decide (n_ ≥ (-64))) && (decide (n_ ≤ 64)))

noncomputable def num_Index_m (step : Int) (plus : Int) (turn : Int) (log : Int) : Option (Int) :=
 bdG (!((decide (log < 0)) || (decide (log > 5)))) (num_Index_c1_m step) fun x1 =>
 bdG (!(((decide (log < 0)) || (decide (log > 5))) || (!x1))) (num_Index_c1_m plus) fun x4 =>
 br ((((((decide (log < 0)) || (decide (log > 5))) || (!x1)) || (!x4)) || (decide (turn < 0))) || (decide (turn > 200))) (
 some 0) (
 ck (IR (step * turn)) <|
 ck (IR ((step * turn) + plus)) <|
 ck (0 ≤ log) <|
 ck (IR ((shlD 1 log) - 1)) <|
 some (bitAnd ((step * turn) + plus) ((shlD 1 log) - 1)))

noncomputable def num_Op_c1_m (is : Bool) : Option (Int) :=
 br is (
 some 1) (
 some 0)

noncomputable def num_Op_m (op : Int) (a : Int) (b : Int) : Option (Int) :=
 br (op == 1) (
 some (IntKind.i64.wrap (a + b))) (
 br (op == 2) (
 some (IntKind.i64.wrap (a - b))) (
 br (op == 3) (
 some (IntKind.i64.wrap (a * b))) (
 br (op == 4) (
 some (bitAnd a b)) (
 br (op == 5) (
 some (bitOr a b)) (
 br (op == 6) (
 some (bitXor a b)) (
 br (op == 7) (
 bd (num_Op_c1_m (decide (a < b))) fun x21 =>
 some x21) (
 br (op == 8) (
 bd (num_Op_c1_m (a == b)) fun x27 =>
 some x27) (
 some 0))))))))

noncomputable def num_Class_m (op : Int) : Option (Int) :=
 br (op == 3) (
 br (op == 3) (
 some 2) (
 br (op == 13) (
 some 1) (
 some 0))) (
 br (op == 4) (
 some 2) (
 br (op == 13) (
 some 1) (
 some 0)))

noncomputable def roundelayref1_Class_m (op : Int) : Option (Int) :=
 br ((op == 3) || (op == 4)) (
 some 2) (
 br (op == 13) (
 some 1) (
 some 0))

noncomputable def roundelayref1_Size_L0 (log : Int) : (Int × Int) → Option (Stp (Int × Int) (Empty)) := fun (n3_1, i4_1) =>
 br (decide (i4_1 < log)) (
 ck (IR (n3_1 + n3_1)) <|
 ck (IR (i4_1 + 1)) <|
 some (.next ((n3_1 + n3_1), (i4_1 + 1)))) (
 some (.brk (n3_1, i4_1)))
noncomputable def roundelayref1_Size_m (log : Int) : Option (Int) :=
 bd (lp (roundelayref1_Size_L0 log) (1, 0)) fun o1 => o1.on (fun (n3_1, i4_1) =>
 some n3_1) (fun r => r.elim)

noncomputable def roundelayref1_Rest_m (a : Int) (b : Int) : Option (Int) :=
 ck (b ≠ 0) <|
 br (decide ((Int.tmod a b) < 0)) (
 ck (IR ((Int.tmod a b) + b)) <|
 some ((Int.tmod a b) + b)) (
 some (Int.tmod a b))

noncomputable def roundelayref1_bits_L0 (op : Int) : (Int × Int × Int × Int × Int) → Option (Stp (Int × Int × Int × Int × Int) (Empty)) := fun (a1_1, b2_1, n7_1, power8_1, i9_1) =>
 br (decide (i9_1 < 64)) (
 br (((((op == 4) && ((Int.tmod a1_1 2) != 0)) && ((Int.tmod b2_1 2) != 0)) || ((op == 5) && (((Int.tmod a1_1 2) != 0) || ((Int.tmod b2_1 2) != 0)))) || ((op == 6) && (!(((Int.tmod a1_1 2) != 0) == ((Int.tmod b2_1 2) != 0))))) (
 br (decide ((Int.tmod a1_1 2) < 0)) (
 br (decide ((Int.tmod b2_1 2) < 0)) (
 ck (IR (Int.tdiv (IntKind.i64.wrap (a1_1 - (IntKind.i64.wrap ((Int.tmod a1_1 2) + 2)))) 2)) <|
 ck (IR (Int.tdiv (IntKind.i64.wrap (b2_1 - (IntKind.i64.wrap ((Int.tmod b2_1 2) + 2)))) 2)) <|
 some (.next ((Int.tdiv (IntKind.i64.wrap (a1_1 - (IntKind.i64.wrap ((Int.tmod a1_1 2) + 2)))) 2), (Int.tdiv (IntKind.i64.wrap (b2_1 - (IntKind.i64.wrap ((Int.tmod b2_1 2) + 2)))) 2), (IntKind.i64.wrap (n7_1 + power8_1)), (IntKind.i64.wrap (power8_1 + power8_1)), (IntKind.i64.wrap (i9_1 + 1))))) (
 ck (IR (Int.tdiv (IntKind.i64.wrap (a1_1 - (IntKind.i64.wrap ((Int.tmod a1_1 2) + 2)))) 2)) <|
 ck (IR (Int.tdiv (IntKind.i64.wrap (b2_1 - (Int.tmod b2_1 2))) 2)) <|
 some (.next ((Int.tdiv (IntKind.i64.wrap (a1_1 - (IntKind.i64.wrap ((Int.tmod a1_1 2) + 2)))) 2), (Int.tdiv (IntKind.i64.wrap (b2_1 - (Int.tmod b2_1 2))) 2), (IntKind.i64.wrap (n7_1 + power8_1)), (IntKind.i64.wrap (power8_1 + power8_1)), (IntKind.i64.wrap (i9_1 + 1)))))) (
 br (decide ((Int.tmod b2_1 2) < 0)) (
 ck (IR (Int.tdiv (IntKind.i64.wrap (a1_1 - (Int.tmod a1_1 2))) 2)) <|
 ck (IR (Int.tdiv (IntKind.i64.wrap (b2_1 - (IntKind.i64.wrap ((Int.tmod b2_1 2) + 2)))) 2)) <|
 some (.next ((Int.tdiv (IntKind.i64.wrap (a1_1 - (Int.tmod a1_1 2))) 2), (Int.tdiv (IntKind.i64.wrap (b2_1 - (IntKind.i64.wrap ((Int.tmod b2_1 2) + 2)))) 2), (IntKind.i64.wrap (n7_1 + power8_1)), (IntKind.i64.wrap (power8_1 + power8_1)), (IntKind.i64.wrap (i9_1 + 1))))) (
 ck (IR (Int.tdiv (IntKind.i64.wrap (a1_1 - (Int.tmod a1_1 2))) 2)) <|
 ck (IR (Int.tdiv (IntKind.i64.wrap (b2_1 - (Int.tmod b2_1 2))) 2)) <|
 some (.next ((Int.tdiv (IntKind.i64.wrap (a1_1 - (Int.tmod a1_1 2))) 2), (Int.tdiv (IntKind.i64.wrap (b2_1 - (Int.tmod b2_1 2))) 2), (IntKind.i64.wrap (n7_1 + power8_1)), (IntKind.i64.wrap (power8_1 + power8_1)), (IntKind.i64.wrap (i9_1 + 1))))))) (
 br (decide ((Int.tmod a1_1 2) < 0)) (
 br (decide ((Int.tmod b2_1 2) < 0)) (
 ck (IR (Int.tdiv (IntKind.i64.wrap (a1_1 - (IntKind.i64.wrap ((Int.tmod a1_1 2) + 2)))) 2)) <|
 ck (IR (Int.tdiv (IntKind.i64.wrap (b2_1 - (IntKind.i64.wrap ((Int.tmod b2_1 2) + 2)))) 2)) <|
 some (.next ((Int.tdiv (IntKind.i64.wrap (a1_1 - (IntKind.i64.wrap ((Int.tmod a1_1 2) + 2)))) 2), (Int.tdiv (IntKind.i64.wrap (b2_1 - (IntKind.i64.wrap ((Int.tmod b2_1 2) + 2)))) 2), n7_1, (IntKind.i64.wrap (power8_1 + power8_1)), (IntKind.i64.wrap (i9_1 + 1))))) (
 ck (IR (Int.tdiv (IntKind.i64.wrap (a1_1 - (IntKind.i64.wrap ((Int.tmod a1_1 2) + 2)))) 2)) <|
 ck (IR (Int.tdiv (IntKind.i64.wrap (b2_1 - (Int.tmod b2_1 2))) 2)) <|
 some (.next ((Int.tdiv (IntKind.i64.wrap (a1_1 - (IntKind.i64.wrap ((Int.tmod a1_1 2) + 2)))) 2), (Int.tdiv (IntKind.i64.wrap (b2_1 - (Int.tmod b2_1 2))) 2), n7_1, (IntKind.i64.wrap (power8_1 + power8_1)), (IntKind.i64.wrap (i9_1 + 1)))))) (
 br (decide ((Int.tmod b2_1 2) < 0)) (
 ck (IR (Int.tdiv (IntKind.i64.wrap (a1_1 - (Int.tmod a1_1 2))) 2)) <|
 ck (IR (Int.tdiv (IntKind.i64.wrap (b2_1 - (IntKind.i64.wrap ((Int.tmod b2_1 2) + 2)))) 2)) <|
 some (.next ((Int.tdiv (IntKind.i64.wrap (a1_1 - (Int.tmod a1_1 2))) 2), (Int.tdiv (IntKind.i64.wrap (b2_1 - (IntKind.i64.wrap ((Int.tmod b2_1 2) + 2)))) 2), n7_1, (IntKind.i64.wrap (power8_1 + power8_1)), (IntKind.i64.wrap (i9_1 + 1))))) (
 ck (IR (Int.tdiv (IntKind.i64.wrap (a1_1 - (Int.tmod a1_1 2))) 2)) <|
 ck (IR (Int.tdiv (IntKind.i64.wrap (b2_1 - (Int.tmod b2_1 2))) 2)) <|
 some (.next ((Int.tdiv (IntKind.i64.wrap (a1_1 - (Int.tmod a1_1 2))) 2), (Int.tdiv (IntKind.i64.wrap (b2_1 - (Int.tmod b2_1 2))) 2), n7_1, (IntKind.i64.wrap (power8_1 + power8_1)), (IntKind.i64.wrap (i9_1 + 1)))))))) (
 some (.brk (a1_1, b2_1, n7_1, power8_1, i9_1)))
noncomputable def roundelayref1_bits_m (op : Int) (a : Int) (b : Int) : Option (Int) :=
 bd (lp (roundelayref1_bits_L0 op) (a, b, 0, 1, 0)) fun o1 => o1.on (fun (a1_1, b2_1, n7_1, power8_1, i9_1) =>
 some n7_1) (fun r => r.elim)

noncomputable def roundelayref1_Op_m (op : Int) (a : Int) (b : Int) : Option (Int) :=
 br (op == 1) (
 some (IntKind.i64.wrap (a + b))) (
 br (op == 2) (
 some (IntKind.i64.wrap (a - b))) (
 br (op == 3) (
 some (IntKind.i64.wrap (a * b))) (
 br (op == 4) (
 br (op == 4) (
 bd (roundelayref1_bits_m op a b) fun x14 =>
 some x14) (
 br (op == 7) (
 br (decide (a < b)) (
 some 1) (
 some 0)) (
 br (op == 8) (
 br (a == b) (
 some 1) (
 some 0)) (
 some 0)))) (
 br (op == 5) (
 br (op == 5) (
 bd (roundelayref1_bits_m op a b) fun x35 =>
 some x35) (
 br (op == 7) (
 br (decide (a < b)) (
 some 1) (
 some 0)) (
 br (op == 8) (
 br (a == b) (
 some 1) (
 some 0)) (
 some 0)))) (
 br (op == 6) (
 bd (roundelayref1_bits_m op a b) fun x54 =>
 some x54) (
 br (op == 7) (
 br (decide (a < b)) (
 some 1) (
 some 0)) (
 br (op == 8) (
 br (a == b) (
 some 1) (
 some 0)) (
 some 0))))))))

noncomputable def roundelayref1_Index_m (step : Int) (plus : Int) (turn : Int) (log : Int) : Option (Int) :=
 br ((((((((decide (log < 0)) || (decide (log > 5))) || (decide (step < (-64)))) || (decide (step > 64))) || (decide (plus < (-64)))) || (decide (plus > 64))) || (decide (turn < 0))) || (decide (turn > 200))) (
 some 0) (
 ck (IR (step * turn)) <|
 ck (IR ((step * turn) + plus)) <|
 bd (roundelayref1_Size_m log) fun x8 =>
 bd (roundelayref1_Rest_m ((step * turn) + plus) x8) fun x11 =>
 some x11)
end Go.Rd
end

section
namespace Go.Rd
set_option linter.unusedVariables false
theorem num_Index_s (step plus turn log : Int) : num_Index_m step plus turn log = some (idx step plus turn log) := by
  unfold num_Index_m num_Index_c1_m bdG idx
  simp only [bd_ret, br_eq]
  by_cases h : OkIdx step plus turn log
  · have hb := h
    unfold OkIdx at hb
    obtain ⟨h1, h2, h3, h4, h5, h6, h7, h8⟩ := hb
    have hp2 := two_pow_5 log.toNat (by omega)
    have hst := step_turn h3 h4 h7 h8
    have hg := idx_go h
    have hs : shlD 1 log = 2 ^ log.toNat := shl_one log h1 h2
    simp only [show ¬ log < 0 from by omega, show ¬ log > 5 from by omega, show step ≥ -64 from h3, h4, show plus ≥ -64 from h5, h6, show ¬ turn < 0 from by omega, show ¬ turn > 200 from by omega, decide_false, decide_true, Bool.or_self, Bool.and_self, Bool.not_true, Bool.not_false, if_true, Bool.or_false, Bool.false_eq_true, if_false, if_pos h, hs]
    rw [ck_IR (by omega) (by omega), ck_IR (by omega) (by omega), ck_yes (by omega), ck_IR (by omega) (by omega)]
    congr 1
    unfold bitAnd
    rw [and_mask _ _ (by omega), wrap_i64]
    · have := Int.emod_nonneg (step * turn + plus) (show (2 : Int) ^ log.toNat ≠ 0 from by omega)
      omega
    · have := Int.emod_lt_of_pos (step * turn + plus) (show (0 : Int) < 2 ^ log.toNat from by omega)
      omega
  · rw [if_neg h]
    unfold OkIdx at h
    by_cases g1 : log < 0 ∨ log > 5
    · rcases g1 with g | g <;> simp [g]
    · by_cases g2 : step ≥ -64 ∧ step ≤ 64
      · by_cases g3 : plus ≥ -64 ∧ plus ≤ 64
        · by_cases g4 : turn < 0 ∨ turn > 200
          · rcases g4 with g | g <;> simp [g, show ¬ log < 0 from by omega, show ¬ log > 5 from by omega, g2.1, g2.2, g3.1, g3.2]
          · exact absurd ⟨by omega, by omega, by omega, by omega, by omega, by omega, by omega, by omega⟩ h
        · have : (decide (plus ≥ -64) && decide (plus ≤ 64)) = false := by simp; omega
          simp [this, show ¬ log < 0 from by omega, show ¬ log > 5 from by omega, g2.1, g2.2]
      · have : (decide (step ≥ -64) && decide (step ≤ 64)) = false := by simp; omega
        simp [this, show ¬ log < 0 from by omega, show ¬ log > 5 from by omega]
theorem num_Op_s (op a b : Int) : num_Op_m op a b = some (opV op a b) := by
  unfold num_Op_m num_Op_c1_m opV
  simp only [br_eq, beq_iff_eq]
  (repeat' split) <;> (try simp_all) <;> (try rfl)
theorem num_Class_s (op : Int) : num_Class_m op = some (clsV op) := by
  unfold num_Class_m clsV
  simp only [br_eq, beq_iff_eq]
  (repeat' split) <;> simp_all
theorem ref_Class_s (op : Int) : roundelayref1_Class_m op = some (clsV op) := by
  unfold roundelayref1_Class_m clsV
  simp only [br_eq, Bool.or_eq_true, beq_iff_eq]
  (repeat' split) <;> simp_all
theorem Size_loop (log : Int) (hl : log ≤ 5) : ∀ (m i : Nat), i + m = log.toNat → lp (roundelayref1_Size_L0 log) (2 ^ i, i) = some (.go (2 ^ log.toNat, (log.toNat : Int)))
  | 0, i, h => by
    have hi : i = log.toNat := by omega
    subst hi
    refine lp_brk ?_
    unfold roundelayref1_Size_L0
    exact br_F (by omega)
  | m + 1, i, h => by
    have hp := two_pow_5 i (by omega)
    refine lp_step ?_ (Size_loop log hl m (i + 1) (by omega))
    unfold roundelayref1_Size_L0
    simp only
    rw [br_T (by omega), ck_IR (by omega) (by omega), ck_IR (by omega) (by omega), pow_next]
    rfl
theorem Size_s (log : Int) (hl : log ≤ 5) : roundelayref1_Size_m log = some (2 ^ log.toNat) := by
  have := Size_loop log hl log.toNat 0 (by omega)
  unfold roundelayref1_Size_m
  rw [show ((1 : Int), (0 : Int)) = ((2 : Int) ^ 0, ((0 : Nat) : Int)) from rfl, this]
  rfl
theorem Rest_s (a b : Int) (hb : 0 < b) (hB : b ≤ 9223372036854775807) : roundelayref1_Rest_m a b = some (a % b) := by
  have ht := tmod_lt' a hb
  have hf := tmod_fix (a := a) hb
  unfold roundelayref1_Rest_m
  rw [ck_yes (by omega)]
  by_cases h : Int.tmod a b < 0
  · rw [if_pos h] at hf
    rw [br_T h, ck_IR (by omega) (by omega), hf]
  · rw [if_neg h] at hf
    rw [br_F h, hf]
theorem ref_Index_s (step plus turn log : Int) : roundelayref1_Index_m step plus turn log = some (idx step plus turn log) := by
  unfold roundelayref1_Index_m idx
  by_cases h : OkIdx step plus turn log
  · have hb := h
    unfold OkIdx at hb
    obtain ⟨h1, h2, h3, h4, h5, h6, h7, h8⟩ := hb
    have hp2 := two_pow_5 log.toNat (by omega)
    have hst := step_turn h3 h4 h7 h8
    simp only [show ¬ log < 0 from by omega, show ¬ log > 5 from by omega, show ¬ step < -64 from by omega, show ¬ step > 64 from by omega, show ¬ plus < -64 from by omega, show ¬ plus > 64 from by omega, show ¬ turn < 0 from by omega, show ¬ turn > 200 from by omega, decide_false, Bool.or_self, br_false, if_pos h]
    rw [ck_IR (by omega) (by omega), ck_IR (by omega) (by omega), Size_s log h2, bd_ret, Rest_s _ _ (by omega) (by omega), bd_ret]
  · rw [if_neg h]
    have hc : (((((((decide (log < 0) || decide (log > 5)) || decide (step < -64)) || decide (step > 64)) || decide (plus < -64)) || decide (plus > 64)) || decide (turn < 0)) || decide (turn > 200)) = true := by
      unfold OkIdx at h
      simp only [Bool.or_eq_true, decide_eq_true_eq]
      omega
    rw [hc]; rfl
theorem tdiv2_bd {x : Int} (h : -9223372036854775808 ≤ x ∧ x ≤ 9223372036854775807) : -9223372036854775808 ≤ x.tdiv 2 ∧ x.tdiv 2 ≤ 9223372036854775807 := by
  have h1 := Int.tmod_add_mul_tdiv x 2
  have h2 := tmod_lt' x (m := 2) (by decide)
  omega
theorem bits_loop (op a b : Int) (ha : -9223372036854775808 ≤ a ∧ a ≤ 9223372036854775807) (hb : -9223372036854775808 ≤ b ∧ b ≤ 9223372036854775807) : ∀ (m i : Nat), i + m = 64 →
    ∃ x y z t, lp (roundelayref1_bits_L0 op) (a / 2 ^ i, b / 2 ^ i, IntKind.i64.wrap (bitsN op a b i), IntKind.i64.wrap (2 ^ i), i) = some (.go (x, y, IntKind.i64.wrap (bitsN op a b 64), z, t))
  | 0, i, h => by
    have hi : i = 64 := by omega
    subst hi
    refine ⟨a / 2 ^ 64, b / 2 ^ 64, IntKind.i64.wrap (2 ^ 64), ((64 : Nat) : Int), lp_brk ?_⟩
    unfold roundelayref1_bits_L0
    exact br_F (by omega)
  | m + 1, i, h => by
    obtain ⟨x, y, z, t, ih⟩ := bits_loop op a b ha hb m (i + 1) (by omega)
    refine ⟨x, y, z, t, lp_step ?_ ih⟩
    have hba := half_bd ha.1 ha.2 i
    have hbb := half_bd hb.1 hb.2 i
    have hcd := bits_cond op a b i
    have key : ∀ {A : Int}, (-9223372036854775808 ≤ A ∧ A ≤ 9223372036854775807) →
        (A.tmod 2 < 0 → IR (Int.tdiv (IntKind.i64.wrap (A - IntKind.i64.wrap (A.tmod 2 + 2))) 2) ∧ Int.tdiv (IntKind.i64.wrap (A - IntKind.i64.wrap (A.tmod 2 + 2))) 2 = A / 2) ∧
        (¬ A.tmod 2 < 0 → IR (Int.tdiv (IntKind.i64.wrap (A - A.tmod 2)) 2) ∧ Int.tdiv (IntKind.i64.wrap (A - A.tmod 2)) 2 = A / 2) := fun {A} hA => by
      constructor
      · intro hn
        have h1 := tdiv2_bd (wrap_bd (A - IntKind.i64.wrap (A.tmod 2 + 2)))
        have h2 := half_neg hA.1 hA.2 hn
        rw [wrap_i64 h1.1 h1.2] at h2
        exact ⟨h1, h2⟩
      · intro hn
        have h1 := tdiv2_bd (wrap_bd (A - A.tmod 2))
        have h2 := half_pos hA.1 hA.2 hn
        rw [wrap_i64 h1.1 h1.2] at h2
        exact ⟨h1, h2⟩
    have ka := key hba
    have kb := key hbb
    have hpw : IntKind.i64.wrap (IntKind.i64.wrap (2 ^ i) + IntKind.i64.wrap (2 ^ i)) = IntKind.i64.wrap (2 ^ (i + 1)) := by rw [wrap_add2, pow_next]
    have hi1 : IntKind.i64.wrap ((i : Int) + 1) = ((i + 1 : Nat) : Int) := by rw [wrap_i64 (by omega) (by omega)]; rfl
    unfold roundelayref1_bits_L0
    simp only
    rw [br_T (by omega), hcd, hpw, hi1]
    have ea := half_next a i
    have eb := half_next b i
    cases hc : bitC op (bitA a i) (bitA b i) with
    | true =>
      have hn := bits_n_yes (op := op) (a := a) (b := b) (i := i) hc rfl
      rw [br_true, hn]
      by_cases na : (a / 2 ^ i).tmod 2 < 0 <;> by_cases nb : (b / 2 ^ i).tmod 2 < 0
      · rw [br_T na, br_T nb, ck_yes (ka.1 na).1, ck_yes (kb.1 nb).1, (ka.1 na).2, (kb.1 nb).2, ea, eb]
      · rw [br_T na, br_F nb, ck_yes (ka.1 na).1, ck_yes (kb.2 nb).1, (ka.1 na).2, (kb.2 nb).2, ea, eb]
      · rw [br_F na, br_T nb, ck_yes (ka.2 na).1, ck_yes (kb.1 nb).1, (ka.2 na).2, (kb.1 nb).2, ea, eb]
      · rw [br_F na, br_F nb, ck_yes (ka.2 na).1, ck_yes (kb.2 nb).1, (ka.2 na).2, (kb.2 nb).2, ea, eb]
    | false =>
      have hn := bits_n_no (op := op) (a := a) (b := b) (i := i) hc rfl
      rw [br_false, hn]
      by_cases na : (a / 2 ^ i).tmod 2 < 0 <;> by_cases nb : (b / 2 ^ i).tmod 2 < 0
      · rw [br_T na, br_T nb, ck_yes (ka.1 na).1, ck_yes (kb.1 nb).1, (ka.1 na).2, (kb.1 nb).2, ea, eb]
      · rw [br_T na, br_F nb, ck_yes (ka.1 na).1, ck_yes (kb.2 nb).1, (ka.1 na).2, (kb.2 nb).2, ea, eb]
      · rw [br_F na, br_T nb, ck_yes (ka.2 na).1, ck_yes (kb.1 nb).1, (ka.2 na).2, (kb.1 nb).2, ea, eb]
      · rw [br_F na, br_F nb, ck_yes (ka.2 na).1, ck_yes (kb.2 nb).1, (ka.2 na).2, (kb.2 nb).2, ea, eb]
theorem bits_s (op a b : Int) (ha : -9223372036854775808 ≤ a ∧ a ≤ 9223372036854775807) (hb : -9223372036854775808 ≤ b ∧ b ≤ 9223372036854775807) : roundelayref1_bits_m op a b = some (IntKind.i64.wrap (bitsN op a b 64)) := by
  obtain ⟨x, y, z, t, h⟩ := bits_loop op a b ha hb 64 0 (by omega)
  simp only [Int.pow_zero, Int.ediv_one] at h
  unfold roundelayref1_bits_m
  rw [show (a, b, (0 : Int), (1 : Int), (0 : Int)) = (a, b, IntKind.i64.wrap (bitsN op a b 0), IntKind.i64.wrap 1, ((0 : Nat) : Int)) from rfl, h]
  rfl
theorem ref_Op_s (op a b : Int) (ha : -9223372036854775808 ≤ a ∧ a ≤ 9223372036854775807) (hb : -9223372036854775808 ≤ b ∧ b ≤ 9223372036854775807) : roundelayref1_Op_m op a b = some (opV op a b) := by
  unfold roundelayref1_Op_m
  rw [bits_s op a b ha hb]
  simp only [bd_ret, br_eq, beq_iff_eq]
  by_cases h4 : op = 4
  · have := opV_bits op a b (.inl (by simp [h4]))
    subst h4; simp [this]
  · by_cases h5 : op = 5
    · have := opV_bits op a b (.inr (.inl (by simp [h5])))
      subst h5; simp [this]
    · by_cases h6 : op = 6
      · have := opV_bits op a b (.inr (.inr (by simp [h6])))
        subst h6; simp [this]
      · unfold opV
        (repeat' split) <;> simp_all
end Go.Rd
end

section
namespace Go.Rd
set_option linter.unusedVariables false
noncomputable def target_May_L0 (t : Tgt) : Int → Option (Stp (Int) (Bool)) := fun x4_1 =>
 br (decide (x4_1 < 3)) (
 ck (IX x4_1 3) <|
 ck ((!(decide ((sel3 t.u0 t.u1 t.u2 x4_1) < 1))) = true → IX x4_1 3) <|
 ck ((!((decide ((sel3 t.u0 t.u1 t.u2 x4_1) < 1)) || (decide ((sel3 t.u0 t.u1 t.u2 x4_1) > 4)))) = true → IX x4_1 3) <|
 ck ((!(((decide ((sel3 t.u0 t.u1 t.u2 x4_1) < 1)) || (decide ((sel3 t.u0 t.u1 t.u2 x4_1) > 4))) || (decide ((sel3 t.w0 t.w1 t.w2 x4_1) < 1)))) = true → IX x4_1 3) <|
 br ((((decide ((sel3 t.u0 t.u1 t.u2 x4_1) < 1)) || (decide ((sel3 t.u0 t.u1 t.u2 x4_1) > 4))) || (decide ((sel3 t.w0 t.w1 t.w2 x4_1) < 1))) || (decide ((sel3 t.w0 t.w1 t.w2 x4_1) > 6))) (
 some (.ret false)) (
 ck (IR (x4_1 + 1)) <|
 some (.next (x4_1 + 1)))) (
 some (.brk x4_1))
noncomputable def target_May_m (t : Tgt) : Option (Bool) :=
 bd (lp (target_May_L0 t) 0) fun o2 => o2.on (fun x4_1 =>
 some ((decide (t.regs ≥ 1)) && (decide (t.regs ≤ 128)))) (fun r => some r)

noncomputable def target_Wait_m (t : Tgt) (op : Int) : Option (Int) :=
 bd (target_May_m t) fun x2 =>
 br (!x2) (
 some 0) (
 bd (num_Class_m op) fun x8 =>
 ck (IX x8 3) <|
 some (sel3 t.w0 t.w1 t.w2 x8))

noncomputable def roundelayref4_May_L0 (t : Tgt) : Int → Option (Stp (Int) (Bool)) := fun k3_1 =>
 br (decide (k3_1 < 3)) (
 ck (IX k3_1 3) <|
 ck ((!(decide ((sel3 t.u0 t.u1 t.u2 k3_1) < 1))) = true → IX k3_1 3) <|
 ck ((!((decide ((sel3 t.u0 t.u1 t.u2 k3_1) < 1)) || (decide ((sel3 t.u0 t.u1 t.u2 k3_1) > 4)))) = true → IX k3_1 3) <|
 ck ((!(((decide ((sel3 t.u0 t.u1 t.u2 k3_1) < 1)) || (decide ((sel3 t.u0 t.u1 t.u2 k3_1) > 4))) || (decide ((sel3 t.w0 t.w1 t.w2 k3_1) < 1)))) = true → IX k3_1 3) <|
 br ((((decide ((sel3 t.u0 t.u1 t.u2 k3_1) < 1)) || (decide ((sel3 t.u0 t.u1 t.u2 k3_1) > 4))) || (decide ((sel3 t.w0 t.w1 t.w2 k3_1) < 1))) || (decide ((sel3 t.w0 t.w1 t.w2 k3_1) > 6))) (
 some (.ret false)) (
 ck (IR (k3_1 + 1)) <|
 some (.next (k3_1 + 1)))) (
 some (.brk k3_1))
noncomputable def roundelayref4_May_m (t : Tgt) : Option (Bool) :=
 bd (lp (roundelayref4_May_L0 t) 0) fun o2 => o2.on (fun k3_1 =>
 some ((decide (t.regs > 0)) && (decide (t.regs ≤ 128)))) (fun r => some r)

noncomputable def roundelayref4_Wait_m (t : Tgt) (op : Int) : Option (Int) :=
 bd (roundelayref4_May_m t) fun x2 =>
 br (!x2) (
 some 0) (
 bd (roundelayref1_Class_m op) fun x8 =>
 ck (IX x8 3) <|
 some (sel3 t.w0 t.w1 t.w2 x8))

noncomputable def loop_in_m (n_ : Int) (from_ : Int) (below : Int) : Option (Bool) :=
 some ((decide (n_ ≥ from_)) && (decide (n_ < below)))

noncomputable def loop_Uses_m (s : Stm) : Option (List Rf) :=
 br (s.op == 4) (
 some [s.a]) (
 br (decide (s.op > 10)) (
 some [s.a, s.b]) (
 some []))

noncomputable def loop_ref_m (l : Lp) (k_ : Int) (r_ : Rf) : Option (Bool) :=
 br (r_.bk == 0) (
 bd (loop_in_m r_.bk 0 4) fun x5 =>
 bdG (x5) (loop_in_m r_.st 0 k_) fun x8 =>
 some (x5 && x8)) (
 bd (loop_in_m r_.bk 0 4) fun x12 =>
 bdG (x12) (loop_in_m r_.st 0 (ln l.body)) fun x15 =>
 some (x12 && x15))

noncomputable def loop_stmt_L0 (l : Lp) (k_ : Int) (x17 : List Rf) : Int → Option (Stp (Int) (Bool)) := fun x49_1 =>
 br (decide (x49_1 < (ln x17))) (
 ck (IX x49_1 (ln x17)) <|
 bd (loop_ref_m l k_ (ele x17 x49_1)) fun x33 =>
 br (!x33) (
 some (.ret false)) (
 ck (IR (x49_1 + 1)) <|
 some (.next (x49_1 + 1)))) (
 some (.brk x49_1))
noncomputable def loop_stmt_m (l : Lp) (k_ : Int) : Option (Bool) :=
 ck (IX k_ (ln l.body)) <|
 bd (loop_in_m ((ele l.body k_).ar) 0 (ln l.logs)) fun x8 =>
 bdG (x8) (loop_in_m ((ele l.body k_).sp) (-64) 65) fun x11 =>
 bdG (x8 && x11) (loop_in_m ((ele l.body k_).pl) (-64) 65) fun x14 =>
 bd (loop_Uses_m (Stm.mk ((ele l.body k_).op) ((ele l.body k_).a) ((ele l.body k_).b) ((ele l.body k_).ar) ((ele l.body k_).sp) ((ele l.body k_).pl) ((ele l.body k_).n))) fun x17 =>
 bd (lp (loop_stmt_L0 l k_ x17) 0) fun o21 => o21.on (fun x49_1 =>
 br ((ele l.body k_).op == 1) (
 some ((((((ele l.body k_).ar == 0) && ((ele l.body k_).sp == 0)) && ((ele l.body k_).pl == 0)) && ([((ele l.body k_).a).st, ((ele l.body k_).a).bk] == [0, 0])) && ([((ele l.body k_).b).st, ((ele l.body k_).b).bk] == [0, 0]))) (
 br ((ele l.body k_).n != 0) (
 some false) (
 br ((ele l.body k_).op == 2) (
 some ((((((ele l.body k_).ar == 0) && ((ele l.body k_).sp == 0)) && ((ele l.body k_).pl == 0)) && ([((ele l.body k_).a).st, ((ele l.body k_).a).bk] == [0, 0])) && ([((ele l.body k_).b).st, ((ele l.body k_).b).bk] == [0, 0]))) (
 br ((ele l.body k_).op == 3) (
 some ((((x8 && x11) && x14) && ([((ele l.body k_).a).st, ((ele l.body k_).a).bk] == [0, 0])) && ([((ele l.body k_).b).st, ((ele l.body k_).b).bk] == [0, 0]))) (
 br ((ele l.body k_).op == 4) (
 some (((x8 && x11) && x14) && ([((ele l.body k_).b).st, ((ele l.body k_).b).bk] == [0, 0]))) (
 bdG ((((ele l.body k_).ar == 0) && ((ele l.body k_).sp == 0)) && ((ele l.body k_).pl == 0)) (loop_in_m (IntKind.i64.wrap ((ele l.body k_).op - 10)) 1 9) fun x41 =>
 some (((((ele l.body k_).ar == 0) && ((ele l.body k_).sp == 0)) && ((ele l.body k_).pl == 0)) && x41))))))) (fun r => some r)

noncomputable def loop_May_L0 (l : Lp) : Int → Option (Stp (Int) (Bool)) := fun x12_1 =>
 br (decide (x12_1 < (ln l.logs))) (
 ck (IX x12_1 (ln l.logs)) <|
 bd (loop_in_m (ele l.logs x12_1) 0 6) fun x13 =>
 br (!x13) (
 some (.ret false)) (
 ck (IR (x12_1 + 1)) <|
 some (.next (x12_1 + 1)))) (
 some (.brk x12_1))
noncomputable def loop_May_L2 (l : Lp) : (Int × Int) → Option (Stp (Int × Int) (Bool)) := fun (last5_2, x23_2) =>
 br (decide (x23_2 < (ln l.outs))) (
 ck (IX x23_2 (ln l.outs)) <|
 ck (IR (last5_2 + 1)) <|
 bd (loop_in_m (ele l.outs x23_2) (last5_2 + 1) (ln l.body)) fun x20 =>
 br (!x20) (
 some (.ret false)) (
 ck (IR (x23_2 + 1)) <|
 some (.next ((ele l.outs x23_2), (x23_2 + 1))))) (
 some (.brk (last5_2, x23_2)))
noncomputable def loop_May_L4 (l : Lp) : Int → Option (Stp (Int) (Bool)) := fun x40_3 =>
 br (decide (x40_3 < (ln l.body))) (
 bdG (!(decide ((ln l.body) > 16))) (loop_stmt_m l x40_3) fun x19 =>
 br ((decide ((ln l.body) > 16)) || (!x19)) (
 some (.ret false)) (
 ck (IR (x40_3 + 1)) <|
 some (.next (x40_3 + 1)))) (
 some (.brk x40_3))
noncomputable def loop_May_m (l : Lp) : Option (Bool) :=
 bd (lp (loop_May_L0 l) 0) fun o2 => o2.on (fun x12_1 =>
 bd (lp (loop_May_L2 l) ((-1), 0)) fun o7 => o7.on (fun (last5_2, x23_2) =>
 bd (lp (loop_May_L4 l) 0) fun o12 => o12.on (fun x40_3 =>
 some ((decide ((ln l.logs) ≤ 3)) && (decide ((ln l.body) > 0)))) (fun r => some r)) (fun r => some r)) (fun r => some r)

noncomputable def roundelayref2_Within_m (n_ : Int) (least : Int) (most : Int) : Option (Bool) :=
 some ((decide (n_ ≥ least)) && (decide (n_ ≤ most)))

noncomputable def roundelayref2_Uses_m (s : Stm) : Option (List Rf) :=
 br (s.op == 4) (
 some [s.a]) (
 br (decide (s.op > 10)) (
 some [s.a, s.b]) (
 some []))

noncomputable def roundelayref2_stmt_L0 (l : Lp) (k_ : Int) (x7 : List Rf) : Int → Option (Stp (Int) (Bool)) := fun i7_1 =>
 br (decide (i7_1 < (ln x7))) (
 ck (IR ((ln l.body) - 1)) <|
 ck (IX i7_1 (ln x7)) <|
 br ((ele x7 i7_1).bk == 0) (
 ck (IR (k_ - 1)) <|
 ck (IX i7_1 (ln x7)) <|
 bd (roundelayref2_Within_m ((ele x7 i7_1).bk) 0 3) fun x32 =>
 ck ((!(!x32)) = true → IX i7_1 (ln x7)) <|
 bdG (!(!x32)) (roundelayref2_Within_m ((ele x7 i7_1).st) 0 (k_ - 1)) fun x39 =>
 br ((!x32) || (!x39)) (
 some (.ret false)) (
 ck (IR (i7_1 + 1)) <|
 some (.next (i7_1 + 1)))) (
 ck (IX i7_1 (ln x7)) <|
 bd (roundelayref2_Within_m ((ele x7 i7_1).bk) 0 3) fun x52 =>
 ck ((!(!x52)) = true → IX i7_1 (ln x7)) <|
 bdG (!(!x52)) (roundelayref2_Within_m ((ele x7 i7_1).st) 0 ((ln l.body) - 1)) fun x59 =>
 br ((!x52) || (!x59)) (
 some (.ret false)) (
 ck (IR (i7_1 + 1)) <|
 some (.next (i7_1 + 1))))) (
 some (.brk i7_1))
noncomputable def roundelayref2_stmt_m (l : Lp) (k_ : Int) : Option (Bool) :=
 ck (IX k_ (ln l.body)) <|
 bd (roundelayref2_Uses_m (Stm.mk ((ele l.body k_).op) ((ele l.body k_).a) ((ele l.body k_).b) ((ele l.body k_).ar) ((ele l.body k_).sp) ((ele l.body k_).pl) ((ele l.body k_).n))) fun x7 =>
 bd (lp (roundelayref2_stmt_L0 l k_ x7) 0) fun o11 => o11.on (fun i7_1 =>
 br (((decide ((ln x7) < 2)) && ((((ele l.body k_).b).st != 0) || (((ele l.body k_).b).bk != 0))) || ((decide ((ln x7) < 1)) && ((((ele l.body k_).a).st != 0) || (((ele l.body k_).a).bk != 0)))) (
 some false) (
 br (((ele l.body k_).op != 1) && ((ele l.body k_).n != 0)) (
 some false) (
 br (((ele l.body k_).op == 3) || ((ele l.body k_).op == 4)) (
 ck (IR ((ln l.logs) - 1)) <|
 bd (roundelayref2_Within_m ((ele l.body k_).ar) 0 ((ln l.logs) - 1)) fun x26 =>
 bdG (x26) (roundelayref2_Within_m ((ele l.body k_).sp) (-64) 64) fun x29 =>
 bdG (x26 && x29) (roundelayref2_Within_m ((ele l.body k_).pl) (-64) 64) fun x32 =>
 some ((x26 && x29) && x32)) (
 br ((((ele l.body k_).ar != 0) || ((ele l.body k_).sp != 0)) || ((ele l.body k_).pl != 0)) (
 some false) (
 bdG (!(((ele l.body k_).op == 1) || ((ele l.body k_).op == 2))) (roundelayref2_Within_m ((ele l.body k_).op) 11 18) fun x39 =>
 some ((((ele l.body k_).op == 1) || ((ele l.body k_).op == 2)) || x39)))))) (fun r => some r)

noncomputable def roundelayref2_May_L0 (l : Lp) : Int → Option (Stp (Int) (Bool)) := fun i4_1 =>
 br (decide (i4_1 < (ln l.logs))) (
 ck (IX i4_1 (ln l.logs)) <|
 bd (roundelayref2_Within_m (ele l.logs i4_1) 0 5) fun x16 =>
 br (!x16) (
 some (.ret false)) (
 ck (IR (i4_1 + 1)) <|
 some (.next (i4_1 + 1)))) (
 some (.brk i4_1))
noncomputable def roundelayref2_May_L2 (l : Lp) : Int → Option (Stp (Int) (Bool)) := fun i5_2 =>
 br (decide (i5_2 < (ln l.outs))) (
 ck (IX i5_2 (ln l.outs)) <|
 ck (IR ((ln l.body) - 1)) <|
 bd (roundelayref2_Within_m (ele l.outs i5_2) 0 ((ln l.body) - 1)) fun x23 =>
 ck ((!(!x23) && (decide (i5_2 > 0))) = true → IX i5_2 (ln l.outs)) <|
 ck ((!(!x23) && (decide (i5_2 > 0))) = true → IR (i5_2 - 1)) <|
 ck ((!(!x23) && (decide (i5_2 > 0))) = true → IX (i5_2 - 1) (ln l.outs)) <|
 br ((!x23) || ((decide (i5_2 > 0)) && (decide ((ele l.outs i5_2) ≤ (ele l.outs (i5_2 - 1)))))) (
 some (.ret false)) (
 ck (IR (i5_2 + 1)) <|
 some (.next (i5_2 + 1)))) (
 some (.brk i5_2))
noncomputable def roundelayref2_May_L4 (l : Lp) : Int → Option (Stp (Int) (Bool)) := fun k6_3 =>
 br (decide (k6_3 < (ln l.body))) (
 bd (roundelayref2_stmt_m l k6_3) fun x22 =>
 br (!x22) (
 some (.ret false)) (
 ck (IR (k6_3 + 1)) <|
 some (.next (k6_3 + 1)))) (
 some (.brk k6_3))
noncomputable def roundelayref2_May_m (l : Lp) : Option (Bool) :=
 br (((decide ((ln l.logs) > 3)) || (decide ((ln l.body) < 1))) || (decide ((ln l.body) > 16))) (
 some false) (
 bd (lp (roundelayref2_May_L0 l) 0) fun o5 => o5.on (fun i4_1 =>
 bd (lp (roundelayref2_May_L2 l) 0) fun o10 => o10.on (fun i5_2 =>
 bd (lp (roundelayref2_May_L4 l) 0) fun o15 => o15.on (fun k6_3 =>
 some true) (fun r => some r)) (fun r => some r)) (fun r => some r))

noncomputable def roundelayref2_Fits_L0 (s : Sta) : Int → Option (Stp (Int) (Bool)) := fun i5_1 =>
 br (decide (i5_1 < (ln s.bef))) (
 ck (IX i5_1 (ln s.bef)) <|
 br ((ln (ele s.bef i5_1)) != 3) (
 some (.ret false)) (
 ck (IR (i5_1 + 1)) <|
 some (.next (i5_1 + 1)))) (
 some (.brk i5_1))
noncomputable def roundelayref2_Fits_L2 (l : Lp) (s : Sta) : Int → Option (Stp (Int) (Bool)) := fun i6_2 =>
 br (decide (i6_2 < (ln s.mem))) (
 ck (IX i6_2 (ln l.logs)) <|
 bd (roundelayref1_Size_m (ele l.logs i6_2)) fun x25 =>
 ck (IX i6_2 (ln s.mem)) <|
 br ((ln (ele s.mem i6_2)) != x25) (
 some (.ret false)) (
 ck (IR (i6_2 + 1)) <|
 some (.next (i6_2 + 1)))) (
 some (.brk i6_2))
noncomputable def roundelayref2_Fits_m (l : Lp) (s : Sta) : Option (Bool) :=
 bd (roundelayref2_May_m l) fun x3 =>
 br (((!x3) || ((ln s.bef) != (ln l.body))) || ((ln s.mem) != (ln l.logs))) (
 some false) (
 bd (lp (roundelayref2_Fits_L0 s) 0) fun o9 => o9.on (fun i5_1 =>
 bd (lp (roundelayref2_Fits_L2 l s) 0) fun o14 => o14.on (fun i6_2 =>
 some true) (fun r => some r)) (fun r => some r))
end Go.Rd
end
