/- Texts for the law, 2. -/
import Derived.Test.YtaimbkndebaaiabZLkernelRuns1
import Derived.MapKept
import Derived.ChangeMaps5
import Derived.KernelRfl
set_option linter.unusedVariables false
set_option linter.unusedSimpArgs false
set_option maxRecDepth 8000
section
namespace Go.Rd
open Go.RowKit
def hcell (h : Value) : List Value := [h]
def nilS : Value := .slice none 0 0
def hat (hs : List Value) (i : Int) : Value := hs.getD i.toNat nilS
def vfoot (h : Value) (b : Nat) : Prop := ∃ n c, h = .slice (some ⟨b, 0, none⟩) n c
def updG (xss : List (List Int)) (i j : Int) (z : Int) : List (List Int) := upd xss i (upd (ele xss i) j z)
def GL (hs : List Value) (xss : List (List Int)) : Prop := hs.length = xss.length ∧ ∀ i : Nat, SliceLen (hs.getD i nilS) (xss.getD i []).length
def grid (v : Value) (hs : List Value) (E1 E2 : TypeId) (xss : List (List Int)) : Res where
 foot := fun b => vfoot v b ∨ ∃ i : Nat, i < hs.length ∧ vfoot (hs.getD i nilS) b
 holds := fun w => (vec v E1 1 (hs.map hcell)).holds w ∧ hs.length = xss.length ∧ (∀ i : Nat, i < hs.length → (vec (hs.getD i nilS) E2 1 ((xss.getD i []).map icell)).holds w) ∧
  (∀ i j : Nat, i < hs.length → j < hs.length → i ≠ j → ∀ b, vfoot (hs.getD i nilS) b → ¬ vfoot (hs.getD j nilS) b) ∧ ∀ i : Nat, i < hs.length → ∀ b, vfoot (hs.getD i nilS) b → ¬ vfoot v b
 stable := fun w w' ⟨h1, h2, h3, h4, h5⟩ hk => ⟨(vec v E1 1 (hs.map hcell)).stable w w' h1 fun b hb => hk b (.inl hb), h2, fun i hi => (vec _ E2 1 _).stable w w' (h3 i hi) fun b hb => hk b (.inr ⟨i, hi, hb⟩), h4, h5⟩
section
variable {w : World} {v : Value} {hs : List Value} {E1 E2 : TypeId} {xss : List (List Int)} {i j : Int} {p : Addr}
theorem getD_some {α : Type} {l : List α} {d : α} {i : Nat} (h : i < l.length) : l[i]? = some (l.getD i d) := by
 rw [List.getD_eq_getElem?_getD, List.getElem?_eq_getElem h]; rfl
theorem ele_getD (xss : List (List Int)) (i : Int) : ele xss i = xss.getD i.toNat [] := rfl
theorem vec_slen {v : Value} {E sz : Nat} {rows : List (List Value)} (h : (vec v E sz rows).holds w) : SliceLen v rows.length := (vec_arr h).len
theorem GL.ix (h : GL hs xss) (i : Int) : SliceLen (hat hs i) (ele xss i).length := h.2 i.toNat
theorem slen_upd {α : Type} {v : Value} {xs : List α} {i : Int} {z : α} (h : SliceLen v xs.length) : SliceLen v (upd xs i z).length := by rw [upd_length]; exact h
theorem slen_updG {v : Value} {xss : List (List Int)} {i j z : Int} (h : SliceLen v xss.length) : SliceLen v (Rd.updG xss i j z).length := by unfold Rd.updG; rw [upd_length]; exact h
theorem GL.nil : GL [] [] := ⟨rfl, fun _ => SliceLen.nil⟩
theorem GL.snoc {u : Value} {xs : List Int} (h : GL hs xss) (hu : SliceLen u xs.length) : GL (hs ++ [u]) (xss ++ [xs]) := by
 refine ⟨by simp [h.1], fun i => ?_⟩
 rcases Nat.lt_trichotomy i hs.length with hi | hi | hi
 ·have h1 : (hs ++ [u]).getD i nilS = hs.getD i nilS := by simp [List.getD_eq_getElem?_getD, List.getElem?_append_left hi]
  have h2 : (xss ++ [xs]).getD i [] = xss.getD i [] := by simp [List.getD_eq_getElem?_getD, List.getElem?_append_left (h.1 ▸ hi)]
  rw [h1, h2]; exact h.2 i
 ·subst hi
  have h1 : (hs ++ [u]).getD hs.length nilS = u := by simp [List.getD_eq_getElem?_getD]
  have h2 : (xss ++ [xs]).getD hs.length [] = xs := by rw [h.1]; simp [List.getD_eq_getElem?_getD]
  rw [h1, h2]; exact hu
 ·have h1 : (hs ++ [u]).getD i nilS = nilS := by rw [List.getD_eq_getElem?_getD, List.getElem?_eq_none (by simp; omega)]; rfl
  have h2 : (xss ++ [xs]).getD i [] = [] := by rw [List.getD_eq_getElem?_getD, List.getElem?_eq_none (by simp; have := h.1; omega)]; rfl
  rw [h1, h2]; exact SliceLen.nil
theorem getD_upd {α : Type} {l : List α} {d z : α} {k : Nat} {i : Int} : (upd l i z).getD k d = if i.toNat = k ∧ k < l.length then z else l.getD k d := by
 unfold upd
 rw [List.getD_eq_getElem?_getD, List.getElem?_set, List.getD_eq_getElem?_getD]
 by_cases h : i.toNat = k
 ·subst h
  by_cases hl : i.toNat < l.length
  ·simp [hl]
  ·simp [hl, List.getElem?_eq_none (Nat.le_of_not_lt hl)]
 ·simp [h]
theorem GL.upd {u : Value} {xs : List Int} (h : GL hs xss) (hu : SliceLen u xs.length) (i : Int) : GL (upd hs i u) (upd xss i xs) := by
 refine ⟨by simp [upd_length, h.1], fun k => ?_⟩
 rw [getD_upd, getD_upd, h.1]
 split
 ·exact hu
 ·exact h.2 k
theorem GL.updG (h : GL hs xss) (i j z : Int) : GL hs (updG xss i j z) := by
 refine ⟨by simp [Rd.updG, upd_length, h.1], fun k => ?_⟩
 unfold Rd.updG
 rw [getD_upd]
 split
 ·rename_i hk
  obtain ⟨rfl, _⟩ := hk
  rw [upd_length]; exact h.2 i.toNat
 ·exact h.2 k
theorem grid_rows (h : (grid v hs E1 E2 xss).holds w) : RowsA w v xss := by
 obtain ⟨h1, h2, h3, h4, h5⟩ := h
 refine ⟨hs.zip xss, by rw [List.map_snd_zip (by omega)], ?_, fun q hq => ?_⟩
 ·have := vec_arr h1
  have e : (hs.zip xss).map vcell = hs.map hcell := by
   have : (hs.zip xss).map vcell = ((hs.zip xss).map (·.1)).map hcell := by rw [List.map_map]; rfl
   rw [this, List.map_fst_zip (by omega)]
  rw [e]; exact this
 ·obtain ⟨k, hk, rfl⟩ := List.mem_iff_getElem.1 hq
  have hk1 : k < hs.length := by simp at hk; omega
  have hk2 : k < xss.length := by simp at hk; omega
  have := vec_arr (h3 k hk1)
  rw [List.getD_eq_getElem?_getD, List.getElem?_eq_getElem hk1, List.getD_eq_getElem?_getD, List.getElem?_eq_getElem hk2] at this
  simpa using this
theorem grid_hdr (h : (grid v hs E1 E2 xss).holds w) (hp : ElemP v i 1 p) (hi : IX i (ln xss)) : w.cell? p = some (hat hs i) := by
 obtain ⟨h1, h2, _⟩ := h
 have hlt : i.toNat < hs.length := by have := hi.1; have := hi.2; unfold ln at this; omega
 have := (vec_arr h1).row i.toNat [hs.getD i.toNat nilS] p (by rw [List.getElem?_map, getD_some hlt]; rfl) (by rwa [Int.toNat_of_nonneg hi.1])
 have h := this.1
 simpa [Addr.add, hat, List.getD_eq_getElem?_getD] using h
theorem grid_arr (h : (grid v hs E1 E2 xss).holds w) (hi : IX i (ln xss)) : Arr w (hat hs i) 1 ((ele xss i).map icell) := by
 obtain ⟨h1, h2, h3, _⟩ := h
 have hlt : i.toNat < hs.length := by have := hi.1; have := hi.2; unfold ln at this; omega
 exact vec_arr (h3 i.toNat hlt)
theorem vec_same {w w' : World} {h : Value} {E sz : Nat} {rows : List (List Value)} (hv : (vec h E sz rows).holds w) (hk : ∀ b, vfoot h b → w'.heap[b]? = w.heap[b]?) : (vec h E sz rows).holds w' := (vec h E sz rows).stable w w' hv hk
theorem grid_lt (h : (grid v hs E1 E2 xss).holds w) : ∀ b, (grid v hs E1 E2 xss).foot b → b < w.heap.size := fun b hb => by
 rcases hb with hb | ⟨i, hi, hb⟩
 ·exact vec_foot_lt h.1 b hb
 ·exact vec_foot_lt (h.2.2.1 i hi) b hb
end
section
variable {M : Nat → Prop} {w0 : World} {H : List Res} {v : Value} {hs : List Value} {E1 E2 : TypeId} {xss : List (List Int)} {i j : Int} {p : Addr}
theorem Own.gridHdr (k : Nat) (hk : H[k]? = some (grid v hs E1 E2 xss)) (hp : ElemP v i 1 p) (hi : IX i (ln xss)) : ∀ w, Own M w0 H w → w.cell? p = some (hat hs i) := fun w hw => grid_hdr (hw.at k hk) hp hi
theorem Own.gridArr (k : Nat) (hk : H[k]? = some (grid v hs E1 E2 xss)) (hi : IX i (ln xss)) : ∀ w, Own M w0 H w → Arr w (hat hs i) 1 ((ele xss i).map icell) := fun w hw => grid_arr (hw.at k hk) hi
theorem Own.gridNil {w : World} (h : Own M w0 H w) {E1 E2 : TypeId} : Own M w0 (grid nilS [] E1 E2 [] :: H) w := by
 refine ⟨h.1, ⟨⟨vec_nil (α := Value) (enc := hcell), rfl, fun i hi => absurd hi (Nat.not_lt_zero _), fun i j hi => absurd hi (Nat.not_lt_zero _), fun i hi => absurd hi (Nat.not_lt_zero _)⟩, fun b hb => ?_, fun s _ b hb => ?_⟩, h.2⟩
 ·rcases hb with ⟨_, _, hb⟩ | ⟨i, hi, _⟩
  ·simp [nilS] at hb
  ·exact absurd hi (Nat.not_lt_zero _)
 ·rcases hb with ⟨_, _, hb⟩ | ⟨i, hi, _⟩
  ·simp [nilS] at hb
  ·exact absurd hi (Nat.not_lt_zero _)
end
section
variable {P : Program} {n : Nat} {σ : Env} {M : Nat → Prop} {w0 : World} {H : List Res} {d : Option Tmp} {T U E E1 E2 : TypeId} {pos : String} {after : Array Edge} {gd : Option (Nat × Bool)} {x y : Operand} {g g' : Bool} {v u yv : Value} {hs : List Value} {xss : List (List Int)} {xs : List Int}
 {K : Act → World → Prop} {Q : Exit → Act → World → Prop} {i j : Int} {p : Addr} {w : World}
theorem grid_set (h : (grid v hs E1 E2 xss).holds w) (hi : IX i (ln xss)) (hp : ElemP (hat hs i) j 1 p) (z : Int) :
  ∃ b, (grid v hs E1 E2 xss).foot b ∧ (store p (i64v z)).run P w = .ok () (w.setCell p (i64v z)) ∧ (grid v hs E1 E2 (updG xss i j z)).holds (w.setCell p (i64v z)) ∧ (∀ k, k ≠ b → (w.setCell p (i64v z)).heap[k]? = w.heap[k]?) := by
 obtain ⟨h1, h2, h3, h4, h5⟩ := h
 have hlt : i.toNat < hs.length := by have := hi.1; have := hi.2; unfold ln at this; omega
 obtain ⟨b, ⟨n1, k1, hb⟩, rfl, hst, hv, hsame⟩ := vec_set1 (P := P) (c := i64v) icell_eq (z := z) (h3 i.toNat hlt) hp rfl
 have hbf : vfoot (hs.getD i.toNat nilS) b := ⟨n1, k1, hb⟩
 refine ⟨b, .inr ⟨_, hlt, hbf⟩, hst, ⟨vec_same h1 fun c hc => hsame c fun e => h5 _ hlt b hbf (e ▸ hc), by simp [updG, upd_length, h2], fun k hk => ?_, h4, h5⟩, hsame⟩
 unfold updG
 rw [getD_upd]
 split
 ·rename_i e
  obtain ⟨rfl, _⟩ := e
  exact hv
 ·rename_i e
  have hne : ¬ i.toNat = k := fun e' => e ⟨e', by omega⟩
  exact vec_same (h3 k hk) fun c hc => hsame c fun e' => h4 i.toNat k hlt hk hne b hbf (e' ▸ hc)
theorem EV.storeG (k : Nat) (z : Int) (hx : σ.ev x = some (g, .pointer (some p))) (hg : g = true) (hy : σ.ev y = some (g', .int .i64 z)) (hg' : g' = true) (hk : H[k]? = some (grid v hs E1 E2 xss)) (hi : IX i (ln xss)) (hp : ElemP (hat hs i) j 1 p) (hs' : SizeT P T 1)
  (kk : WK n K σ (Own M w0 (H.set k (grid v hs E1 E2 (updG xss i j z))))) : EV P n ⟨none, .store T x y, U, pos, after, gd⟩ σ (Own M w0 H) K Q := fun a w ha hw => by
 refine .inl ?_
 obtain ⟨b, hbf, h3, h4, h5⟩ := grid_set (P := P) (hw.at k hk) hi hp z
 obtain ⟨inf, hin, hsz⟩ := Option.map_eq_some_iff.1 hs'
 have hrun : (execOp a.eval ⟨none, .store T x y, U, pos, after, gd⟩).run P w = .ok .skip (w.setCell p (i64v z)) := by
  have h3' : (Go.store (p.add 0) (.int .i64 z)).run P w = .ok () (w.setCell p (i64v z)) := by simpa [Addr.add, i64v] using h3
  simp [execOp, ha.ev hx hg, ha.ev hy hg', Instr.storeAt, Instr.sureAddr, storeVar, Value.cells, sizeOf, typeInfo, hin, hsz, storeCells, h3']
 unfold Oper.wp
 rw [hrun]
 show K (a.put none undef) _
 have hlt := grid_lt (hw.at k hk)
 exact kk a _ ha (hw.upd k hk rfl rfl ⟨rfl, Nat.le_refl _⟩ (by simp [World.setCell]) (fun c hc hne => h5 c fun e => hne (e ▸ hbf)) h4 fun c hc => ⟨.inl hc, by simpa [World.setCell] using hlt c hc⟩)
theorem Own.two {r s : Res} {w : World} (h : Own M w0 (r :: s :: H) w) : r.holds w ∧ s.holds w ∧ (∀ b, r.foot b → ¬ s.foot b) := ⟨h.2.1.1, h.2.2.1.1, fun b hb => h.2.1.2.2 s (by simp) b hb⟩
theorem Own.merge {r s t : Res} {w w' : World} (h : Own M w0 (r :: s :: H) w) (hos : w'.os = w.os) (htape : w'.tape = w.tape) (hout : w'.output = w.output ∧ w.drawn ≤ w'.drawn) (hsz : w.heap.size ≤ w'.heap.size)
  (hch : ∀ b, b < w.heap.size → ¬ r.foot b → ¬ s.foot b → w'.heap[b]? = w.heap[b]?) (ht : t.holds w') (hf : ∀ b, t.foot b → (r.foot b ∨ s.foot b ∨ w.heap.size ≤ b) ∧ b < w'.heap.size) : Own M w0 (t :: H) w' := by
 obtain ⟨h0, ⟨r1, r2, r3⟩, ⟨s1, s2, s3⟩, h4⟩ := h
 refine ⟨h0.trans ⟨hos, htape, hout, hsz, fun b hb hM => hch b hb (fun hr => hM (r2 b hr).1) fun hs => hM (s2 b hs).1⟩, ⟨ht, fun b hb => ⟨?_, (hf b hb).2⟩, fun q hq b hb hqb => ?_⟩, ?_⟩
 ·rcases (hf b hb).1 with h | h | h
  ·exact (r2 b h).1
  ·exact (s2 b h).1
  ·exact .inr (Nat.le_trans h0.size h)
 ·rcases (hf b hb).1 with h | h | h
  ·exact r3 q (List.mem_cons_of_mem _ hq) b h hqb
  ·exact s3 q hq b h hqb
  ·have := (h4.lt q hq b hqb).2; omega
 ·exact h4.change hsz fun q hq b hqb => hch b (h4.lt q hq b hqb).2 (fun hr => r3 q (List.mem_cons_of_mem _ hq) b hr hqb) fun hs => s3 q hq b hs hqb
theorem EV.appendG {dd bytes : Nat} (hn : dd < n) (hV : VecT P U E1 1 bytes) (hx : σ.ev x = some (g, v)) (hg : g = true) (hy : σ.ev y = some (g', yv)) (hg' : g' = true) (hu : SliceLen u xs.length)
  (hnew : ∀ w, Own M w0 (grid v hs E1 E2 xss :: vec u E2 1 (xs.map icell) :: H) w → Arr w yv 1 [[u]]) (hA : AL (xss ++ [xs]).length bytes) (hGL : GL hs xss)
  (kk : ∀ v', SliceLen v' (xss ++ [xs]).length → WK n K ((dd, (true, v')) :: σ) (Own M w0 (grid v' (hs ++ [u]) E1 E2 (xss ++ [xs]) :: H))) :
  EV P n ⟨some dd, .call ⟨.builtin .append, #[x, y], #[U, U]⟩, T, pos, after, gd⟩ σ (Own M w0 (grid v hs E1 E2 xss :: vec u E2 1 (xs.map icell) :: H)) K Q := fun a w ha hw => by
 refine .inl ?_
 obtain ⟨⟨h1, h2, h3, h4, h5⟩, hv, hdis⟩ := hw.two
 have hlen : (hs.map hcell).length = xss.length := by simp [h2]
 have hA1 := hA.1; have hA2 := hA.2
 simp only [List.length_append, List.length_singleton] at hA1 hA2
 obtain ⟨v', w', hr, g1, g2, g3, g4, g5, g6, g7⟩ := run_append_vec (T := T) hV h1 (hnew w hw) (fun r hr => by simp at hr; subst hr; rfl) (fun r hr c hc => by simp at hr; subst hr; simp at hc; subst hc; exact hu.one) (by rw [hlen]; simpa using hA1) (by rw [hlen]; simpa using hA2)
 have hrun : (execOp a.eval ⟨some dd, .call ⟨.builtin .append, #[x, y], #[U, U]⟩, T, pos, after, gd⟩).run P w = .ok (.value v') w' := by
  simp [execOp, resolve, invoke, builtin, ha.ev hx hg, ha.ev hy hg', hr, Result.andThen]
 unfold Oper.wp
 rw [hrun]
 show K (a.put (some dd) _) _
 have hmap : hs.map hcell ++ [[u]] = (hs ++ [u]).map hcell := by simp [hcell]
 rw [hmap] at g1 g7
 have hrows : ∀ k, k < hs.length → ∀ b, vfoot (hs.getD k nilS) b → w'.heap[b]? = w.heap[b]? := fun k hk b hb => g6 b (vec_foot_lt (h3 k hk) b hb) (h5 k hk b hb)
 have hub : ∀ b, vfoot u b → w'.heap[b]? = w.heap[b]? := fun b hb => g6 b (vec_foot_lt hv b hb) fun hvb => hdis b (.inl hvb) hb
 have hget : ∀ k, k < (hs ++ [u]).length → (k < hs.length ∧ (hs ++ [u]).getD k nilS = hs.getD k nilS ∧ (xss ++ [xs]).getD k [] = xss.getD k []) ∨ (k = hs.length ∧ (hs ++ [u]).getD k nilS = u ∧ (xss ++ [xs]).getD k [] = xs) := fun k hk => by
  rcases Nat.lt_or_ge k hs.length with h | h
  ·exact .inl ⟨h, by simp [List.getD_eq_getElem?_getD, List.getElem?_append_left h], by simp [List.getD_eq_getElem?_getD, List.getElem?_append_left (h2 ▸ h)]⟩
  ·have e : k = hs.length := by simp at hk; omega
   subst e
   exact .inr ⟨rfl, by simp [List.getD_eq_getElem?_getD], by rw [h2]; simp [List.getD_eq_getElem?_getD]⟩
 have hvnew : ∀ b, vfoot v' b → vfoot v b ∨ w.heap.size ≤ b := fun b hb => (g7 b hb).1
 have hsl : SliceLen v' (xss ++ [xs]).length := by
  have := vec_slen g1
  rw [List.length_map] at this
  rwa [show (xss ++ [xs]).length = (hs ++ [u]).length from by simp [h2]]
 refine kk v' hsl _ _ (ha.put hn true _) (hw.merge g2 g3 g4 g5 (fun b hb hr hs' => g6 b hb fun hvb => hr (.inl hvb)) ⟨g1, by simp [h2], fun k hk => ?_, fun k l hk hl hne b hb hb' => ?_, fun k hk b hb hb' => ?_⟩ fun b hb => ?_)
 ·rcases hget k hk with ⟨q1, q2, q3⟩ | ⟨q1, q2, q3⟩
  ·rw [q2, q3]; exact vec_same (h3 k q1) (hrows k q1)
  ·rw [q2, q3]; exact vec_same hv hub
 ·rcases hget k hk with ⟨q1, q2, _⟩ | ⟨q1, q2, _⟩ <;> rcases hget l hl with ⟨r1, r2, _⟩ | ⟨r1, r2, _⟩ <;> rw [q2] at hb <;> rw [r2] at hb'
  ·exact h4 k l q1 r1 hne b hb hb'
  ·exact hdis b (.inr ⟨k, q1, hb⟩) hb'
  ·exact hdis b (.inr ⟨l, r1, hb'⟩) hb
  ·omega
 ·rcases hget k hk with ⟨q1, q2, _⟩ | ⟨q1, q2, _⟩ <;> rw [q2] at hb
  ·rcases hvnew b hb' with h | h
   ·exact h5 k q1 b hb h
   ·have := vec_foot_lt (h3 k q1) b hb; omega
  ·rcases hvnew b hb' with h | h
   ·exact hdis b (.inl h) hb
   ·have := vec_foot_lt hv b hb; omega
 ·rcases hb with hb | ⟨k, hk, hb⟩
  ·rcases g7 b hb with ⟨h | h, h'⟩
   ·exact ⟨.inl (.inl h), h'⟩
   ·exact ⟨.inr (.inr h), h'⟩
  ·rcases hget k hk with ⟨q1, q2, _⟩ | ⟨q1, q2, _⟩ <;> rw [q2] at hb
   ·exact ⟨.inl (.inr ⟨k, q1, hb⟩), Nat.lt_of_lt_of_le (vec_foot_lt (h3 k q1) b hb) g5⟩
   ·exact ⟨.inr (.inl hb), Nat.lt_of_lt_of_le (vec_foot_lt hv b hb) g5⟩
end
end Go.Rd
end
section
namespace Go.Rd
open Go.RowKit
section
variable {P : Program} {n : Nat} {σ : Env} {C : World → Prop} {M : Nat → Prop} {w0 : World} {H : List Res} {d : Option Tmp} {T U E D : TypeId} {pos : String} {after : Array Edge} {gd : Option (Nat × Bool)} {x y : Operand} {g g' : Bool} {v : Value}
 {K : Act → World → Prop} {Q : Exit → Act → World → Prop} {α : Type} {c : α → Value} {xs : List α} {b : Nat} {i : Int} {q : Addr}
theorem ele_lt {α : Type} [Inhabited α] {l : List α} {i : Int} (h : IX i (ln l)) : l[i.toNat]? = some (ele l i) := by
 have hlt : i.toNat < l.length := by have := h.1; have := h.2; unfold ln at this; omega
 simp [ele, List.getD_eq_getElem?_getD, List.getElem?_eq_getElem hlt]
theorem QV.indexStr {k : IntKind} {s : List UInt8} (hU : P.underlying U = some .string) (hx : σ.ev x = some (g, strV s)) (hg : g = true) (hy : σ.ev y = some (g', .int k i)) (hg' : g' = true) (hi : IX i (ln s)) :
  QV P ⟨d, .index U x y, T, pos, after, gd⟩ σ C (.int .u8 ((ele s i).toNat : Int)) := .of_run fun n a ha w hw => by
 have h0 := hi.1
 have hget : (ByteArray.mk s.toArray)[i.toNat]? = some (ele s i) := by
  have hlt : i.toNat < s.length := by have := hi.2; unfold ln at this; omega
  have h1 : i.toNat < (ByteArray.mk s.toArray).size := by simpa [ByteArray.size] using hlt
  have := ele_lt hi
  rw [List.getElem?_eq_getElem hlt] at this
  rw [getElem?_pos (ByteArray.mk s.toArray) i.toNat h1]
  have e : (ByteArray.mk s.toArray)[i.toNat] = s[i.toNat] := by
   show (s.toArray)[i.toNat]'_ = _
   simp
  rw [e, this]
 simp [execOp, ha.ev hx hg, ha.ev hy hg', Instr.index, asIntOf, run_underlying hU, h0, strV, hget]
end
theorem rows_one {u : Value} : ∀ r ∈ [[u]], r.length = 1 := fun r hr => by simp at hr; subst hr; rfl
def Clone_m (xs : List Int) : Option (List Int) := ck (AL xs.length 8) (some xs)
end Go.Rd
end
section
namespace Go.Rd
theorem br_T {α : Type} {p : Prop} [Decidable p] {a b : α} (h : p) : br (decide p) a b = a := by rw [decide_eq_true h]; rfl
theorem br_F {α : Type} {p : Prop} [Decidable p] {a b : α} (h : ¬ p) : br (decide p) a b = b := by rw [decide_eq_false h]; rfl
theorem br_eq {α : Type} {c : Bool} {a b : α} : br c a b = if c = true then a else b := by cases c <;> rfl
theorem ck_IR {α : Type} {n : Int} {x : Option α} (h1 : -9223372036854775808 ≤ n) (h2 : n ≤ 9223372036854775807) : ck (IR n) x = x := ck_yes ⟨h1, h2⟩
theorem ck_IX {α : Type} {i n : Int} {x : Option α} (h1 : 0 ≤ i) (h2 : i < n) : ck (IX i n) x = x := ck_yes ⟨h1, h2⟩
theorem ck_SX {α : Type} {i j n : Int} {x : Option α} (h1 : 0 ≤ i) (h2 : i ≤ j) (h3 : j ≤ n) : ck (SX i j n) x = x := ck_yes ⟨h1, h2, h3⟩
theorem ck_imp {α : Type} {c : Bool} {p : Prop} [Decidable p] {x : Option α} (h : c = true → p) : ck (c = true → p) x = x := ck_yes h
@[simp] theorem bd_some' {α β : Type} {x : α} {k : α → Option β} : bd (some x) k = k x := rfl
@[simp] theorem bdG_t {α β : Type} [Inhabited α] {m : Option α} {k : α → Option β} : bdG true m k = bd m k := rfl
@[simp] theorem bdG_f {α β : Type} [Inhabited α] {m : Option α} {k : α → Option β} : bdG false m k = k default := rfl
theorem ele_nat {α : Type} [Inhabited α] (xs : List α) (i : Nat) : ele xs (i : Int) = xs.getD i default := rfl
theorem lp_step {γ ρ : Type} {f : γ → Option (Stp γ ρ)} {g g' : γ} {o : Out γ ρ} (h : f g = some (.next g')) (k : lp f g' = some o) : lp f g = some o := (lp_next h).trans k
theorem ele_all {α : Type} [Inhabited α] {p : α → Prop} {l : List α} (h : ∀ x ∈ l, p x) {i : Nat} (hi : i < l.length) : p (ele l i) := by
 have : ele l i = l[i] := by simp [Rd.ele, List.getD_eq_getElem?_getD, List.getElem?_eq_getElem hi]
 rw [this]; exact h _ (List.getElem_mem hi)
theorem bdG_some' {α : Type} (c b : Bool) (k : Bool → Option α) : bdG c (some b) k = k (if c = true then b else false) := by cases c <;> rfl
theorem lp_all {f : Int → Option (Stp Int Bool)} {n : Nat} {p : Nat → Prop} (step : ∀ i : Nat, i < n → (∀ j, j < i → p j) → (p i → f i = some (.next ((i : Int) + 1))) ∧ (¬ p i → f i = some (.ret false))) (hend : f n = some (.brk n)) :
  ((∀ i, i < n → p i) ∧ lp f 0 = some (.go (n : Int))) ∨ (¬ (∀ i, i < n → p i) ∧ lp f 0 = some (.ret false)) := by
 have key : ∀ (m i : Nat), i + m = n → (∀ j, j < i → p j) → ((∀ i, i < n → p i) ∧ lp f i = some (.go (n : Int))) ∨ (¬ (∀ i, i < n → p i) ∧ lp f i = some (.ret false)) := by
  intro m
  induction m with
  | zero =>
   intro i h hp
   have hi : i = n := by omega
   subst hi
   exact .inl ⟨hp, lp_brk hend⟩
  | succ m ih =>
   intro i h hp
   obtain ⟨h1, h2⟩ := step i (by omega) hp
   by_cases hpi : p i
   ·have hs : ∀ j, j < i + 1 → p j := fun j hj => by
     rcases Nat.lt_or_ge j i with h | h
     ·exact hp j h
     ·have : j = i := by omega
      subst this; exact hpi
    rcases ih (i + 1) (by omega) hs with ⟨a, b⟩ | ⟨a, b⟩
    ·exact .inl ⟨a, (lp_next (h1 hpi)).trans b⟩
    ·exact .inr ⟨a, (lp_next (h1 hpi)).trans b⟩
   ·exact .inr ⟨fun h => hpi (h i (by omega)), lp_ret (h2 hpi)⟩
 exact key n 0 (by omega) (fun j hj => absurd hj (Nat.not_lt_zero _))
theorem take_next {α : Type} [Inhabited α] {xs : List α} {i : Nat} (h : i < xs.length) : xs.take (i + 1) = xs.take i ++ [ele xs i] := by
 rw [List.take_add_one, List.getElem?_eq_getElem h, Option.toList_some]
 simp [ele, List.getD_eq_getElem?_getD, List.getElem?_eq_getElem h]
theorem lp_build {α ρ : Type} {f : List α × Int → Option (Stp (List α × Int) ρ)} {n : Nat} {h : Nat → α} (step : ∀ i : Nat, i < n → f ((List.range i).map h, (i : Int)) = some (.next ((List.range i).map h ++ [h i], (i : Int) + 1)))
  (hend : f ((List.range n).map h, (n : Int)) = some (.brk ((List.range n).map h, (n : Int)))) : lp f ([], 0) = some (.go ((List.range n).map h, (n : Int))) := by
 have key : ∀ m i : Nat, i + m = n → lp f ((List.range i).map h, (i : Int)) = some (.go ((List.range n).map h, (n : Int))) := by
  intro m
  induction m with
  | zero =>
   intro i hi
   have : i = n := by omega
   subst this
   exact lp_brk hend
  | succ m ih =>
   intro i hi
   refine lp_step (step i (by omega)) ?_
   have := ih (i + 1) (by omega)
   rw [List.range_succ, List.map_append] at this
   exact this
 exact key n 0 (by omega)
theorem range_map {α : Type} [Inhabited α] (l : List α) : (List.range l.length).map (fun i : Nat => ele l (i : Int)) = l := by
 apply List.ext_getElem?
 intro i
 by_cases h : i < l.length
 ·simp [h, ele_nat, List.getD_eq_getElem?_getD]
 ·simp [List.getElem?_eq_none (Nat.le_of_not_lt h), h]
theorem ele_mem' {α : Type} [Inhabited α] {l : List α} {i : Nat} (h : i < l.length) : ele l (i : Int) ∈ l := by
 rw [ele_nat, List.getD_eq_getElem?_getD, List.getElem?_eq_getElem h]; exact List.getElem_mem h
theorem mem_ele {α : Type} [Inhabited α] {l : List α} {x : α} (h : x ∈ l) : ∃ i : Nat, i < l.length ∧ ele l (i : Int) = x := by
 obtain ⟨i, hi, rfl⟩ := List.getElem_of_mem h
 exact ⟨i, hi, by rw [ele_nat, List.getD_eq_getElem?_getD, List.getElem?_eq_getElem hi]; rfl⟩
theorem lp_chk {α ρ : Type} {f : α × Int → Option (Stp (α × Int) ρ)} {n : Nat} {r0 : ρ} (p : Nat → Prop) (Inv : Nat → α → Prop) (step : ∀ (i : Nat) g, i < n → Inv i g → (p i ∧ ∃ g', f (g, (i : Int)) = some (.next (g', (i : Int) + 1)) ∧ Inv (i + 1) g') ∨ (¬ p i ∧ f (g, (i : Int)) = some (.ret r0)))
  (hend : ∀ g, f (g, (n : Int)) = some (.brk (g, (n : Int)))) (g0 : α) (h0 : Inv 0 g0) : ((∀ i, i < n → p i) ∧ ∃ g, lp f (g0, 0) = some (.go (g, (n : Int))) ∧ Inv n g) ∨ (¬ (∀ i, i < n → p i) ∧ lp f (g0, 0) = some (.ret r0)) := by
 have key : ∀ m i : Nat, i + m = n → (∀ j, j < i → p j) → ∀ g, Inv i g → ((∀ i, i < n → p i) ∧ ∃ g', lp f (g, (i : Int)) = some (.go (g', (n : Int))) ∧ Inv n g') ∨ (¬ (∀ i, i < n → p i) ∧ lp f (g, (i : Int)) = some (.ret r0)) := by
  intro m
  induction m with
  | zero =>
   intro i hi hp g hg
   have : i = n := by omega
   subst this
   exact .inl ⟨hp, g, lp_brk (hend g), hg⟩
  | succ m ih =>
   intro i hi hp g hg
   rcases step i g (by omega) hg with ⟨h1, g', h2, h3⟩ | ⟨h1, h2⟩
   ·have hp' : ∀ j, j < i + 1 → p j := fun j hj => by
     by_cases e : j = i
     ·subst e; exact h1
     ·exact hp j (by omega)
    rcases ih (i + 1) (by omega) hp' g' h3 with ⟨a, g2, b, c⟩ | ⟨a, b⟩
    ·exact .inl ⟨a, g2, (lp_next h2).trans b, c⟩
    ·exact .inr ⟨a, (lp_next h2).trans b⟩
   ·exact .inr ⟨fun h => h1 (h i (by omega)), lp_ret h2⟩
 exact key n 0 (by omega) (fun j hj => absurd hj (Nat.not_lt_zero _)) g0 h0
end Go.Rd
end
section
namespace Go.Rd
open Go.RowKit
section
variable {P : Program} {n : Nat} {ops : Array Oper} {σ : Env} {C S : World → Prop}
def endAt (R : Act → World → Prop) (Q : Exit → Act → World → Prop) : Exit → Act → World → Prop
 | .normal => R
 | e => Q e
variable {Q : Exit → Act → World → Prop} {R : Act → World → Prop}
instance {R : Act → World → Prop} {Q : Exit → Act → World → Prop} [h : POk Q] : POk (endAt R Q) := ⟨h.ok⟩
variable {M : Nat → Prop} {w0 : World} {H : List Res}
def eachOkL (ops : Array Oper) (is : List Nat) (m k : Nat) : Bool := Region.ready .any ops (lst m k) == is && !is.isEmpty
theorem WD.each (is : List Nat) (k : Nat) {m fuel : Nat} (hr : eachOkL ops is m k = true)
  (h : ∀ i ∈ is, ∃ oi k', ops[i]? = some oi ∧ oi.guard = none ∧ (lst m k).setIfInBounds i true = lst m k' ∧
   EV P n oi σ (Own M w0 H) (fun a' w' => ∃ C' S' : World → Prop, Closed C' ∧ (∀ x, C' x → S' x) ∧ (∀ x, S' x → S x) ∧ C' w' ∧ wpAnyG P .any ops Q S' fuel (lst m k') C' a') Q) : WD P n ops Q S (fuel + 1) (lst m k) σ (Own M w0 H) := fun hCS a ha => by
 unfold eachOkL at hr
 simp only [Bool.and_eq_true, beq_iff_eq, Bool.not_eq_true', List.isEmpty_eq_false_iff] at hr
 intro _
 refine .inl ⟨fun h0 => absurd (hr.1.symm.trans h0) hr.2, fun j hj w hw => ?_⟩
 rw [hr.1] at hj
 obtain ⟨oi, k', h1, h2, h3, h4⟩ := h j hj
 rw [h3]
 unfold Go.wpOp
 simp only [h1]
 rw [if_pos (by simp [Region.wanted, h2])]
 exact h4 a w ha hw
def stepOkL (ops : Array Oper) (i m k k' : Nat) : Bool := (lst m k).setIfInBounds i true == lst m k'
theorem WD.two {o1 o2 : Oper} (i1 i2 k k1 k2 : Nat) {m fuel : Nat} (hr : eachOkL ops [i1, i2] m k = true) (h1 : ops[i1]? = some o1) (h2 : ops[i2]? = some o2) (g1 : o1.guard = none) (g2 : o2.guard = none) (s1 : stepOkL ops i1 m k k1 = true) (s2 : stepOkL ops i2 m k k2 = true)
  (e1 : EV P n o1 σ (Own M w0 H) (fun a' w' => ∃ C' S' : World → Prop, Closed C' ∧ (∀ x, C' x → S' x) ∧ (∀ x, S' x → S x) ∧ C' w' ∧ wpAnyG P .any ops Q S' fuel (lst m k1) C' a') Q)
  (e2 : EV P n o2 σ (Own M w0 H) (fun a' w' => ∃ C' S' : World → Prop, Closed C' ∧ (∀ x, C' x → S' x) ∧ (∀ x, S' x → S x) ∧ C' w' ∧ wpAnyG P .any ops Q S' fuel (lst m k2) C' a') Q) : WD P n ops Q S (fuel + 1) (lst m k) σ (Own M w0 H) :=
 WD.each [i1, i2] k hr fun i hi => by
  simp only [List.mem_cons, List.not_mem_nil, or_false] at hi
  unfold stepOkL at s1 s2
  rcases hi with rfl | rfl
  ·exact ⟨o1, k1, h1, g1, beq_iff_eq.1 s1, e1⟩
  ·exact ⟨o2, k2, h2, g2, beq_iff_eq.1 s2, e2⟩
end
end Go.Rd
end
section
namespace Go.Rd
open Go.RowKit Go.MapKept
section
variable {κ β : Type} [DecidableEq κ]
def mhas (m : List (κ × β)) (k : κ) : Bool := m.any fun p => decide (p.1 = k)
def mget (m : List (κ × β)) (k : κ) (d : β) : β := match m.find? (fun p => decide (p.1 = k)) with
 | some p => p.2
 | none => d
def mput (m : List (κ × β)) (k : κ) (v : β) : List (κ × β) := match m with
 | [] => [(k, v)]
 | p :: r => if p.1 = k then (k, v) :: r else p :: mput r k v
theorem mget_cons {p : κ × β} {m : List (κ × β)} {k : κ} {d : β} : mget (p :: m) k d = if p.1 = k then p.2 else mget m k d := by
 unfold mget
 rw [List.find?_cons]
 by_cases h : p.1 = k <;> simp [h]
theorem mget_mput {m : List (κ × β)} {k k' : κ} {v d : β} : mget (mput m k v) k' d = if k = k' then v else mget m k' d := by
 induction m with
 | nil => unfold mput; rw [mget_cons]
 | cons p m ih =>
  unfold mput
  by_cases h : p.1 = k
  ·rw [if_pos h, mget_cons, mget_cons]
   subst h
   by_cases h2 : p.1 = k' <;> simp [h2]
  ·rw [if_neg h, mget_cons, mget_cons, ih]
   by_cases h2 : p.1 = k'
   ·have : ¬ k = k' := fun e => h (h2.trans e.symm)
    simp [h2, this]
   ·simp [h2]
end
def kI (n : Int) : Value := .int .i64 n
def kP (p : Int × Int) : Value := .agg #[.int .i64 p.1, .int .i64 p.2]
structure KeyT (P : Program) {κ : Type} [DecidableEq κ] (K : TypeId) (ke : κ → Value) : Prop where
 check : ∀ k w b, (Instr.checkKey b 10000 K (ke k)).run P w = .ok () w
 find : ∀ (k : κ) w (es : List MapEntry) (ks : List κ), es.map (·.key) = ks.map ke → ∃ r, (Instr.findKey K (ke k) es).run P w = .ok r w ∧
  ((r = none ∧ ∀ j ∈ ks, j ≠ k) ∨ (∃ i e, r = some (i, e.val) ∧ es[i]? = some e ∧ ks[i]? = some k ∧ ∀ j < i, ks[j]? ≠ some k))
 same : ∀ k, Instr.sameBits 10000 (ke k) (ke k) = true
theorem find_asking {P : Program} {κ : Type} [DecidableEq κ] {K : TypeId} {ke : κ → Value} (heq : ∀ a b w, (Op.equal K (ke a) (ke b)).run P w = .ok (decide (b = a)) w) (k : κ) (w : World) : ∀ (es : List MapEntry) (ks : List κ) (n : Nat), es.map (·.key) = ks.map ke →
  ∃ r, (Instr.findAsking K (ke k) es n).run P w = .ok r w ∧ ((r = none ∧ ∀ j ∈ ks, j ≠ k) ∨ (∃ i e, r = some (n + i, e.val) ∧ es[i]? = some e ∧ ks[i]? = some k ∧ ∀ j < i, ks[j]? ≠ some k))
 | [], [], n, _ => ⟨none, by simp [Instr.findAsking], .inl ⟨rfl, fun j hj => by cases hj⟩⟩
 | [], _ :: _, n, h => by simp at h
 | _ :: _, [], n, h => by simp at h
 | e :: es, k' :: ks, n, h => by
  simp only [List.map_cons, List.cons.injEq] at h
  have hq := heq k k' w
  by_cases hk : k' = k
  ·subst hk
   refine ⟨some (n, e.val), ?_, .inr ⟨0, e, rfl, rfl, rfl, fun j hj => by omega⟩⟩
   simp [Instr.findAsking, h.1, hq]
  ·obtain ⟨r, hr, hh⟩ := find_asking heq k w es ks (n + 1) h.2
   refine ⟨r, ?_, ?_⟩
   ·simp [Instr.findAsking, h.1, hq, hk, hr]
   ·rcases hh with ⟨a, b⟩ | ⟨i, e', a, b, c, d⟩
    ·exact .inl ⟨a, fun j hj => by rcases List.mem_cons.1 hj with rfl | hj; exact hk; exact b j hj⟩
    ·refine .inr ⟨i + 1, e', by rw [a]; congr 2; omega, by simpa using b, by simpa using c, fun j hj => ?_⟩
     cases j with
     | zero => simpa using hk
     | succ j => simpa using d j (by omega)
theorem find_now {P : Program} {K : TypeId} {t : IntKind} (k : Int) : ∀ (es : List MapEntry) (ks : List Int) (n : Nat), es.map (·.key) = ks.map kI →
  ∃ r, Instr.findNow (.int t) (kI k) es n = some r ∧ ((r = none ∧ ∀ j ∈ ks, j ≠ k) ∨ (∃ i e, r = some (n + i, e.val) ∧ es[i]? = some e ∧ ks[i]? = some k ∧ ∀ j < i, ks[j]? ≠ some k))
 | [], [], n, _ => ⟨none, by simp [Instr.findNow], .inl ⟨rfl, fun j hj => by cases hj⟩⟩
 | [], _ :: _, n, h => by simp at h
 | _ :: _, [], n, h => by simp at h
 | e :: es, k' :: ks, n, h => by
  simp only [List.map_cons, List.cons.injEq] at h
  by_cases hk : k' = k
  ·subst hk
   exact ⟨some (n, e.val), by simp [Instr.findNow, h.1, kI, Instr.sameNow], .inr ⟨0, e, rfl, rfl, rfl, fun j hj => by omega⟩⟩
  ·obtain ⟨r, hr, hh⟩ := find_now (P := P) (K := K) (t := t) k es ks (n + 1) h.2
   refine ⟨r, ?_, ?_⟩
   ·have hk2 : (k == k') = false := by simp; exact fun e => hk e.symm
    unfold kI at hr
    simp [Instr.findNow, h.1, kI, Instr.sameNow, hk2, hr]
   ·rcases hh with ⟨a, b⟩ | ⟨i, e', a, b, c, d⟩
    ·exact .inl ⟨a, fun j hj => by rcases List.mem_cons.1 hj with rfl | hj; exact hk; exact b j hj⟩
    ·refine .inr ⟨i + 1, e', by rw [a]; congr 2; omega, by simpa using b, by simpa using c, fun j hj => ?_⟩
     cases j with
     | zero => simpa using hk
     | succ j => simpa using d j (by omega)
theorem KeyT.int {P : Program} {K : TypeId} (h : P.underlying K = some (.int .i64)) : KeyT P K kI where
 check := fun k w b => by rw [show (10000 : Nat) = 9999 + 1 from rfl, Instr.checkKey]; simp [run_underlying h, kI]
 find := fun k w es ks he => by
  obtain ⟨r, h1, h2⟩ := find_now (P := P) (K := K) (t := .i64) k es ks 0 he
  refine ⟨r, by rw [run_findKey h h1], ?_⟩
  simpa using h2
 same := fun k => by simp [kI, Instr.sameBits]
theorem KeyT.pair {P : Program} {K I : TypeId} (h : P.underlying K = some (.array 2 I)) (hI : P.underlying I = some (.int .i64)) (hs : (P.info? I).map (·.size) = some 1) : KeyT P K kP where
 check := fun k w b => by
  have hag : (isAgg I).run P w = .ok false w := by simp [isAgg, run_underlying hI]
  have hz := run_sizeOf (w := w) hs
  have hc : ∀ n : Int, (Instr.checkKey b 9999 I (.int .i64 n)).run P w = .ok () w := fun n => by rw [show (9999 : Nat) = 9998 + 1 from rfl, Instr.checkKey]; simp [run_underlying hI]
  rw [show (10000 : Nat) = 9999 + 1 from rfl, Instr.checkKey]
  simp only [Sem.run_bind, run_underlying h, Result.andThen_ok, kP, Std.Legacy.Range.forIn_eq_forIn_range', Std.Legacy.Range.size, Nat.sub_zero, Nat.add_one_sub_one, Nat.div_one]
  simp [List.range', hz, part, hag, hc]
 find := fun k w es ks he => by
  have heq : ∀ a b w, (Op.equal K (kP a) (kP b)).run P w = .ok (decide (b = a)) w := fun a b w => by
   have hag : (isAgg I).run P w = .ok false w := by simp [isAgg, run_underlying hI]
   have hz := run_sizeOf (w := w) hs
   have e1 : ∀ x y : Int, (Op.equalIn 9999 I (.int .i64 x) (.int .i64 y)).run P w = .ok (x == y) w := fun x y => run_equalIn_int (P := P) (w := w) 9998 I .i64 .i64 x y hI
   obtain ⟨a1, a2⟩ := a
   obtain ⟨b1, b2⟩ := b
   simp only [Op.equal, Op.maxDepth, kP]
   rw [Op.equalIn]
   simp only [Sem.run_bind, run_underlying h, Result.andThen_ok, Std.Legacy.Range.forIn_eq_forIn_range', Std.Legacy.Range.size, Nat.sub_zero, Nat.add_one_sub_one, Nat.div_one]
   simp [List.range', hz, part, hag, e1]
   by_cases h1 : a1 = b1
   ·subst h1
    by_cases h2 : a2 = b2
    ·subst h2; simp
    ·have : ¬ b2 = a2 := fun e => h2 e.symm
     simp [h2, this]
   ·have : ¬ b1 = a1 := fun e => h1 e.symm
    simp [h1, this]
  obtain ⟨r, h1, h2⟩ := find_asking heq k w es ks 0 he
  have hn : ∀ es : List MapEntry, es ≠ [] → Instr.findNow (.array 2 I) (kP k) es 0 = none := fun es hes => by
   cases es with
   | nil => exact absurd rfl hes
   | cons e es => simp [Instr.findNow, Instr.sameNow]
  refine ⟨r, ?_, by simpa using h2⟩
  cases es with
  | nil =>
   have : r = none := by simpa [Instr.findAsking] using h1.symm
   subst this
   simp [Instr.findKey, run_underlying h, Instr.findNow]
  | cons e es => simp [Instr.findKey, run_underlying h, hn (e :: es) (by simp), h1]
 same := fun k => by simp [kP, Instr.sameBits]
end Go.Rd
namespace Go.Rd
open Go.RowKit Go.MapKept
section
variable {κ β : Type} {ke : κ → Value} {ve : β → Value}
structure MapOk (ke : κ → Value) (ve : β → Value) (es : Array MapEntry) (c : Nat) (L : List (κ × β)) : Prop where
 size : es.size = L.length
 ent : ∀ (i : Nat) (p : κ × β), L[i]? = some p → ∃ n, es[i]? = some (MapEntry.mk (ke p.1) (ve p.2) n) ∧ n < c
 born : ∀ (i j : Nat) (e e' : MapEntry), es[i]? = some e → es[j]? = some e' → e.born = e'.born → i = j
theorem MapOk.nil : MapOk ke ve #[] 0 ([] : List (κ × β)) := ⟨rfl, fun i p h => by simp at h, fun i j e e' h => by simp at h⟩
theorem MapOk.keys {es : Array MapEntry} {c : Nat} {L : List (κ × β)} (h : MapOk ke ve es c L) : es.toList.map (·.key) = (L.map (·.1)).map ke := by
 apply List.ext_getElem?
 intro i
 simp only [List.getElem?_map, Array.getElem?_toList]
 cases hL : L[i]? with
 | none =>
  have : es[i]? = none := by
   rw [Array.getElem?_eq_none_iff, h.size]
   exact List.getElem?_eq_none_iff.1 hL
  simp [this]
 | some p =>
  obtain ⟨n, h1, _⟩ := h.ent i p hL
  simp [h1]
theorem MapOk.setVal {es : Array MapEntry} {c : Nat} {L : List (κ × β)} (h : MapOk ke ve es c L) {i : Nat} {k : κ} {v : β} (hk : ∃ p : κ × β, L[i]? = some p ∧ p.1 = k) : MapOk ke ve (es.modify i fun e => { e with val := ve v }) c (L.set i (k, v)) := by
 obtain ⟨p, hp, rfl⟩ := hk
 refine ⟨by simp [h.size], fun j q hq => ?_, fun a b e e' h1 h2 h3 => ?_⟩
 ·rw [List.getElem?_set] at hq
  rw [Array.getElem?_modify]
  by_cases hj : i = j
  ·subst hj
   obtain ⟨n, hn, hc⟩ := h.ent i p hp
   split at hq
   ·split at hq
    ·cases hq; exact ⟨n, by simp [hn], hc⟩
    ·cases hq
   ·contradiction
  ·rw [if_neg hj] at hq ⊢
   exact h.ent j q hq
 ·rw [Array.getElem?_modify] at h1 h2
  have key : ∀ a e, (if i = a then Option.map (fun e : MapEntry => { e with val := ve v }) es[a]? else es[a]?) = some e → ∃ e0, es[a]? = some e0 ∧ e0.born = e.born := fun a e h => by
   split at h
   ·cases hq : es[a]? with
    | none => simp [hq] at h
    | some e0 => simp [hq] at h; exact ⟨e0, rfl, by rw [← h]⟩
   ·exact ⟨e, h, rfl⟩
  obtain ⟨e0, q1, q2⟩ := key a e h1
  obtain ⟨e1, q3, q4⟩ := key b e' h2
  exact h.born a b e0 e1 q1 q3 (by rw [q2, q4, h3])
theorem MapOk.push {es : Array MapEntry} {c : Nat} {L : List (κ × β)} (h : MapOk ke ve es c L) (k : κ) (v : β) : MapOk ke ve (es.push { key := ke k, val := ve v, born := c }) (c + 1) (L ++ [(k, v)]) := by
 have old : ∀ (i : Nat) (e : MapEntry), es[i]? = some e → e.born < c := fun i e he => by
  have hlt : i < L.length := by rw [← h.size]; exact (Array.getElem?_eq_some_iff.1 he).1
  obtain ⟨n, h1, h2⟩ := h.ent i L[i] (List.getElem?_eq_getElem hlt)
  rw [he] at h1; cases h1; exact h2
 refine ⟨by simp [h.size], fun j q hq => ?_, fun a b e e' h1 h2 h3 => ?_⟩
 ·rw [Array.getElem?_push]
  by_cases hj : j = es.size
  ·rw [if_pos hj]
   have : q = (k, v) := by
    rw [hj, h.size] at hq; simpa using hq.symm
   subst this
   exact ⟨c, rfl, by omega⟩
  ·rw [if_neg hj]
   have hlt : j < L.length := by
    have := (List.getElem?_eq_some_iff.1 hq).1
    simp at this
    rw [h.size] at hj; omega
   rw [List.getElem?_append_left hlt] at hq
   obtain ⟨n, q1, q2⟩ := h.ent j q hq
   exact ⟨n, q1, by omega⟩
 ·rw [Array.getElem?_push] at h1 h2
  split at h1 <;> split at h2
  ·omega
  ·cases h1; have := old b e' h2; simp only at h3; omega
  ·cases h2; have := old a e h1; simp only at h3; omega
  ·exact h.born a b e e' h1 h2 h3
def mapR (b : Nat) (ke : κ → Value) (ve : β → Value) (L : List (κ × β)) : Res where
 foot := fun x => x = b
 holds := fun w => ∃ es c, w.heap[b]? = some (.map es c) ∧ MapOk ke ve es c L
 stable := fun w w' ⟨es, c, h, h2⟩ hk => ⟨es, c, (hk b rfl).trans h, h2⟩
theorem MapOk.find {es : Array MapEntry} {c : Nat} {L : List (κ × β)} (h : MapOk ke ve es c L) {i : Nat} {e : MapEntry} (he : es[i]? = some e) : es.findIdx? (fun x => (x.born : Int) == (e.born : Int)) = some i := by
 obtain ⟨hi, rfl⟩ := Array.getElem?_eq_some_iff.1 he
 rw [Array.findIdx?_eq_some_iff_getElem]
 refine ⟨hi, by simp, fun j hj hc => ?_⟩
 have hji : j < es.size := by omega
 have := h.born j i _ _ (Array.getElem?_eq_getElem hji) (Array.getElem?_eq_getElem hi) (by simp at hc; omega)
 omega
variable [DecidableEq κ]
theorem mget_at {k : κ} {d : β} : ∀ {L : List (κ × β)} {i : Nat}, (L.map (·.1))[i]? = some k → (∀ j < i, (L.map (·.1))[j]? ≠ some k) → ∃ p : κ × β, L[i]? = some p ∧ p.1 = k ∧ mget L k d = p.2
 | [], i, h, _ => by simp at h
 | p :: L, 0, h, _ => by
  simp at h
  exact ⟨p, rfl, h, by rw [mget_cons, if_pos h]⟩
 | p :: L, i + 1, h, hj => by
  have h0 : ¬ p.1 = k := by simpa using hj 0 (by omega)
  obtain ⟨q, h1, h2, h3⟩ := mget_at (k := k) (d := d) (L := L) (i := i) (by simpa using h) (fun j hlt => by simpa using hj (j + 1) (by omega))
  exact ⟨q, by simpa using h1, h2, by rw [mget_cons, if_neg h0, h3]⟩
theorem mget_not {k : κ} {d : β} : ∀ {L : List (κ × β)}, (∀ j ∈ L.map (·.1), j ≠ k) → mget L k d = d
 | [], _ => rfl
 | p :: L, h => by
  rw [mget_cons, if_neg (h p.1 (by simp)), mget_not fun j hj => h j (by simp at hj ⊢; exact .inr hj)]
theorem mput_at {k : κ} {v : β} : ∀ {L : List (κ × β)} {i : Nat}, (L.map (·.1))[i]? = some k → (∀ j < i, (L.map (·.1))[j]? ≠ some k) → mput L k v = L.set i (k, v)
 | [], i, h, _ => by simp at h
 | p :: L, 0, h, _ => by
  simp at h
  simp [mput, h]
 | p :: L, i + 1, h, hj => by
  have h0 : ¬ p.1 = k := by simpa using hj 0 (by omega)
  unfold mput
  rw [if_neg h0, List.set_cons_succ, mput_at (L := L) (i := i) (by simpa using h) (fun j hlt => by simpa using hj (j + 1) (by omega))]
theorem mput_not {k : κ} {v : β} : ∀ {L : List (κ × β)}, (∀ j ∈ L.map (·.1), j ≠ k) → mput L k v = L ++ [(k, v)]
 | [], _ => rfl
 | p :: L, h => by
  unfold mput
  rw [if_neg (h p.1 (by simp)), mput_not fun j hj => h j (by simp at hj ⊢; exact .inr hj)]
  rfl
def mapW (b : Nat) (ke : κ → Value) (ve : β → Value) (dft : β) (L : List (κ × β)) : Res where
 foot := fun x => x = b
 holds := fun w => ∃ L', (mapR b ke ve L').holds w ∧ ∀ key, mget L' key dft = mget L key dft
 stable := fun w w' ⟨L', h, h2⟩ hk => ⟨L', (mapR b ke ve L').stable w w' h hk, h2⟩
def mapMid (b : Nat) (ke : κ → Value) (ve : β → Value) (dft : β) (L : List (κ × β)) (k : κ) (s : Nat) : Res where
 foot := fun x => x = b
 holds := fun w => ∃ es c i, w.heap[b]? = some (.map es c) ∧ (∃ L', MapOk ke ve es c L' ∧ ∀ key, mget L' key dft = mget L key dft) ∧ es.findIdx? (fun e => (e.born : Int) == (s : Int)) = some i ∧ ∀ v, MapOk ke ve (es.modify i fun e => { e with val := ve v }) c (mput L k v)
 stable := fun w w' ⟨es, c, i, h, h2⟩ hk => ⟨es, c, i, (hk b rfl).trans h, h2⟩
end
section
variable {P : Program} {n : Nat} {σ : Env} {M : Nat → Prop} {w0 : World} {H : List Res} {d : Option Tmp} {T U E Kt : TypeId} {pos : String} {after : Array Edge} {gd : Option (Nat × Bool)} {x y z : Operand} {g g' g'' : Bool} {v : Value}
 {K : Act → World → Prop} {Q : Exit → Act → World → Prop} {κ β : Type} {ke : κ → Value} {ve : β → Value} {L : List (κ × β)} {b : Nat}
def MapT (P : Program) (U Kt E : TypeId) : Prop := P.underlying U = some (.map Kt E)
def ZVal (P : Program) (E : TypeId) (v : Value) : Prop := ((P.info? E).map fun i => i.zero) = some (some v)
theorem run_zeroV {w : World} (h : ZVal P E v) : (zeroValue E).run P w = .ok v w := by
 obtain ⟨i, hi, hz⟩ := Option.map_eq_some_iff.1 h
 simp [zeroValue, typeInfo, hi, hz]
theorem EV.makeMap {dd : Nat} (hn : dd < n) (kk : ∀ b, WK n K ((dd, (true, .map (some b))) :: σ) (Own M w0 (mapR b ke ve ([] : List (κ × β)) :: H))) : EV P n ⟨some dd, .makeMap U none, T, pos, after, gd⟩ σ (Own M w0 H) K Q := fun a w ha hw => by
 refine .inl ?_
 have hrun : (execOp a.eval ⟨some dd, .makeMap U none, T, pos, after, gd⟩).run P w = .ok (.value (.map (some w.heap.size))) (w.alloc (.map #[] 0)) := by
  simp [execOp, Instr.makeMap, newObj, Sem.run, Result.andThen]
 unfold Oper.wp
 rw [hrun]
 show K (a.put (some dd) _) _
 refine kk w.heap.size _ _ (ha.put hn true _) (hw.push (w' := w.alloc (.map #[] 0)) ?_ (mapR w.heap.size ke ve []) ⟨#[], 0, heap_alloc_new w _, MapOk.nil⟩ ?_)
 ·exact Grow.alloc _
 ·intro b hb
  cases hb
  simp
variable [DecidableEq κ]
theorem run_lookup {w : World} {k : κ} {dft : β} {ok : Bool} (hU : MapT P U Kt E) (hK : KeyT P Kt ke) (hz : ZVal P E (ve dft)) (h : (mapR b ke ve L).holds w) : (Instr.lookup U (.map (some b)) (ke k) ok).run P w = .ok (if ok then .tuple #[ve (mget L k dft), .bool (mhas L k)] else ve (mget L k dft)) w := by
 obtain ⟨es, c, hh, hM⟩ := h
 obtain ⟨r, h1, h2⟩ := hK.find k w es.toList (L.map (·.1)) hM.keys
 have hg : (getObj b).run P w = .ok (.map es c) w := by simp [getObj, Sem.run, hh]
 have hc := hK.check k w es.isEmpty
 unfold Instr.lookup
 rcases h2 with ⟨rfl, hn⟩ | ⟨i, e, rfl, he, hk, hj⟩
 ·have e1 : mget L k dft = dft := mget_not hn
  have e2 : mhas L k = false := by
   unfold mhas
   rw [List.any_eq_false]
   intro p hp
   simpa using hn p.1 (List.mem_map_of_mem hp)
  simp [run_underlying hU, hg, hc, h1, run_zeroV hz, e1, e2]
 ·obtain ⟨p, q1, q2, q3⟩ := mget_at (d := dft) hk hj
  obtain ⟨m, q4, _⟩ := hM.ent i p q1
  have : e.val = ve p.2 := by rw [Array.getElem?_toList, q4] at he; cases he; rfl
  have e2 : mhas L k = true := by
   unfold mhas
   rw [List.any_eq_true]
   exact ⟨p, List.mem_of_getElem? q1, by simpa using q2⟩
  simp [run_underlying hU, hg, hc, h1, q3, this, e2]
theorem QV.lookup {k : κ} (j : Nat) (dft : β) (hU : MapT P U Kt E) (hK : KeyT P Kt ke) (hz : ZVal P E (ve dft)) (hx : σ.ev x = some (g, .map (some b))) (hg : g = true) (hy : σ.ev y = some (g', ke k)) (hg' : g' = true) (hj : H[j]? = some (mapR b ke ve L)) :
  QV P ⟨d, .lookup U x y false, T, pos, after, gd⟩ σ (Own M w0 H) (ve (mget L k dft)) := .of_run fun n a ha w hw => by
 have := run_lookup (k := k) (ok := false) hU hK hz (hw.at j hj)
 simp only [execOp, ha.ev hx hg, ha.ev hy hg', Sem.run_bind, this, Result.andThen_ok, Sem.run_pure]
 rfl
theorem map_upd' {w : World} {o : Obj} {r' : Res} {j : Nat} {r : Res} (hw : Own M w0 H w) (hj : H[j]? = some r) (hf : ∀ x, r.foot x ↔ x = b) (hf' : ∀ x, r'.foot x ↔ x = b) {o0 : Obj} (hb : w.heap[b]? = some o0) (hr : r'.holds { w with heap := w.heap.setIfInBounds b o }) :
  Own M w0 (H.set j r') { w with heap := w.heap.setIfInBounds b o } := by
 have hlt : b < w.heap.size := (Array.getElem?_eq_some_iff.1 hb).1
 refine hw.upd j hj rfl rfl ⟨rfl, Nat.le_refl _⟩ (by simp) (fun x hx hn => ?_) hr fun x hx => ?_
 ·exact (heap_set hb).2 x fun e => hn ((hf x).2 e)
 ·exact ⟨.inl ((hf x).2 ((hf' x).1 hx)), by rw [(hf' x).1 hx]; simpa using hlt⟩
theorem EV.mapEntry {dd : Nat} (hn : dd < n) (k : κ) (j : Nat) (dft : β) (hU : MapT P U Kt E) (hK : KeyT P Kt ke) (hz : ZVal P E (ve dft)) (hx : σ.ev x = some (g, .map (some b))) (hg : g = true) (hy : σ.ev y = some (g', ke k)) (hg' : g' = true) (hj : H[j]? = some (mapR b ke ve L))
  (kk : ∀ s : Nat, WK n K ((dd, (true, .tuple #[ve (mget L k dft), .int .i64 s])) :: σ) (Own M w0 (H.set j (mapMid b ke ve dft L k s)))) : EV P n ⟨some dd, .mapEntry U x y, T, pos, after, gd⟩ σ (Own M w0 H) K Q := fun a w ha hw => by
 refine .inl ?_
 obtain ⟨es, c, hh, hM⟩ := hw.at j hj
 obtain ⟨r, h1, h2⟩ := hK.find k w es.toList (L.map (·.1)) hM.keys
 have hgo : (getObj b).run P w = .ok (.map es c) w := by simp [getObj, Sem.run, hh]
 have hc := hK.check k w false
 rcases h2 with ⟨rfl, hnk⟩ | ⟨i, e, rfl, he, hk, hjj⟩
 ·have e1 : mget L k dft = dft := mget_not hnk
  have hrun : (execOp a.eval ⟨some dd, .mapEntry U x y, T, pos, after, gd⟩).run P w = .ok (.value (.tuple #[ve (mget L k dft), .int .i64 c])) { w with heap := w.heap.setIfInBounds b (.map (es.push { key := ke k, val := ve dft, born := c }) (c + 1)) } := by
   simp [execOp, Instr.mapEntry, ha.ev hx hg, ha.ev hy hg', run_underlying hU, hgo, hc, h1, run_zeroV hz, run_setObj_map _ hh, e1, goInt, Result.andThen]
  unfold Oper.wp
  rw [hrun]
  show K (a.put (some dd) _) _
  have hP := hM.push k dft
  refine kk c _ _ (ha.put hn true _) (map_upd' hw hj (fun _ => Iff.rfl) (fun _ => Iff.rfl) hh ⟨_, _, es.size, (heap_set hh).1, ⟨_, hP, fun key => ?_⟩, ?_, fun v => ?_⟩)
  ·rw [← mput_not (v := dft) hnk, mget_mput]
   split
   ·rename_i e; subst e; exact e1.symm
   ·rfl
  ·exact hP.find (e := { key := ke k, val := ve dft, born := c }) (by simp)
  ·have := hP.setVal (i := es.size) (k := k) (v := v) ⟨(k, dft), by rw [hM.size]; simp, rfl⟩
   rw [mput_not hnk]
   rw [hM.size] at this ⊢
   simpa using this
 ·obtain ⟨p, q1, q2, q3⟩ := mget_at (d := dft) hk hjj
  obtain ⟨m, q4, q5⟩ := hM.ent i p q1
  have hev : e = ⟨ke p.1, ve p.2, m⟩ := by rw [Array.getElem?_toList, q4] at he; cases he; rfl
  subst hev
  subst q2
  have hstay : (Instr.keyThatStays (ke p.1) (ke p.1)).run P w = .ok (ke p.1) w := by simp [Instr.keyThatStays, hK.same]
  have hmod : (es.modify i fun e => { e with key := ke p.1 }) = es := by
   apply Array.ext_getElem?
   intro q
   rw [Array.getElem?_modify]
   split
   ·rename_i hq; subst hq; rw [q4]; rfl
   ·rfl
  have hrun : (execOp a.eval ⟨some dd, .mapEntry U x y, T, pos, after, gd⟩).run P w = .ok (.value (.tuple #[ve (mget L p.1 dft), .int .i64 m])) { w with heap := w.heap.setIfInBounds b (.map es c) } := by
   simp [execOp, Instr.mapEntry, ha.ev hx hg, ha.ev hy hg', run_underlying hU, hgo, hc, h1, q4, hstay, hmod, run_setObj_map _ hh, q3, goInt, Result.andThen]
  unfold Oper.wp
  rw [hrun]
  show K (a.put (some dd) _) _
  refine kk m _ _ (ha.put hn true _) (map_upd' hw hj (fun _ => Iff.rfl) (fun _ => Iff.rfl) hh ⟨_, _, i, (heap_set hh).1, ⟨_, hM, fun _ => rfl⟩, hM.find q4, fun v => ?_⟩)
  rw [mput_at hk hjj]
  exact hM.setVal ⟨p, q1, rfl⟩
theorem EV.entryStore (k : κ) (j : Nat) (u : β) (s : Nat) (hx : σ.ev x = some (g, .map (some b))) (hg : g = true) (hy : σ.ev y = some (g', .int .i64 s)) (hg' : g' = true) (hz : σ.ev z = some (g'', ve u)) (hg'' : g'' = true) {dft : β} (hj : H[j]? = some (mapMid b ke ve dft L k s))
  (kk : WK n K σ (Own M w0 (H.set j (mapR b ke ve (mput L k u))))) : EV P n ⟨none, .entryStore U x y z, T, pos, after, gd⟩ σ (Own M w0 H) K Q := fun a w ha hw => by
 refine .inl ?_
 obtain ⟨es, c, i, hh, _, hf, hM⟩ := hw.at j hj
 have hgo : (getObj b).run P w = .ok (.map es c) w := by simp [getObj, Sem.run, hh]
 have hrun : (execOp a.eval ⟨none, .entryStore U x y z, T, pos, after, gd⟩).run P w = .ok .skip { w with heap := w.heap.setIfInBounds b (.map (es.modify i fun e => { e with val := ve u }) c) } := by
  simp [execOp, Instr.entryStore, ha.ev hx hg, ha.ev hy hg', ha.ev hz hg'', hgo, hf, asInt, asIntOf, run_setObj_map _ hh, Result.andThen]
 unfold Oper.wp
 rw [hrun]
 show K (a.put none undef) _
 exact kk a _ ha (map_upd' hw hj (fun _ => Iff.rfl) (fun _ => Iff.rfl) hh ⟨_, _, (heap_set hh).1, hM u⟩)
theorem Own.weak {r r' : Res} {w : World} (k : Nat) (hk : H[k]? = some r) (hr : r.holds w → r'.holds w) (hf : ∀ x, r'.foot x → r.foot x) (h : Own M w0 H w) : Own M w0 (H.set k r') w :=
 h.upd k hk rfl rfl ⟨rfl, Nat.le_refl _⟩ (Nat.le_refl _) (fun _ _ _ => rfl) (hr (h.at k hk)) fun b hb => ⟨.inl (hf b hb), (h.2.lt r (List.mem_of_getElem? hk) b (hf b hb)).2⟩
theorem Own.mapWeak {w : World} (k : Nat) (dft : β) (hk : H[k]? = some (mapR b ke ve L)) (h : Own M w0 H w) : Own M w0 (H.set k (mapW b ke ve dft L)) w :=
 h.weak k hk (fun x => ⟨L, x, fun _ => rfl⟩) fun _ x => x
theorem Own.midWeak {w : World} (k : Nat) {dft : β} {key : κ} {s : Nat} (hk : H[k]? = some (mapMid b ke ve dft L key s)) (h : Own M w0 H w) : Own M w0 (H.set k (mapW b ke ve dft L)) w :=
 h.weak k hk (fun ⟨es, c, i, h1, ⟨L', h2, h3⟩, _⟩ => ⟨L', ⟨es, c, h1, h2⟩, h3⟩) fun _ x => x
theorem QV.lookupW {k : κ} (j : Nat) (dft : β) (hU : MapT P U Kt E) (hK : KeyT P Kt ke) (hz : ZVal P E (ve dft)) (hx : σ.ev x = some (g, .map (some b))) (hg : g = true) (hy : σ.ev y = some (g', ke k)) (hg' : g' = true) (hj : H[j]? = some (mapW b ke ve dft L)) :
  QV P ⟨d, .lookup U x y false, T, pos, after, gd⟩ σ (Own M w0 H) (ve (mget L k dft)) := .of_run fun n a ha w hw => by
 obtain ⟨L', h1, h2⟩ := hw.at j hj
 have := run_lookup (k := k) (ok := false) hU hK hz h1
 rw [h2] at this
 simp only [execOp, ha.ev hx hg, ha.ev hy hg', Sem.run_bind, this, Result.andThen_ok, Sem.run_pure]
 rfl
end
end Go.Rd
end
section
namespace Go.Rd
open Go.RowKit
theorem putL_append : ∀ (vs a c : List Value) (off : Nat), off + vs.length ≤ a.length → putL (a ++ c) off vs = putL a off vs ++ c
 | [], a, c, off, _ => rfl
 | v :: vs, a, c, off, h => by
  simp only [List.length_cons] at h
  unfold putL
  rw [List.set_append_left _ _ (by omega), putL_append vs (a.set off v) c (off + 1) (by simp; omega)]
theorem putL_right : ∀ (vs a c : List Value) (off : Nat), putL (a ++ c) (a.length + off) vs = a ++ putL c off vs
 | [], a, c, off => rfl
 | v :: vs, a, c, off => by
  unfold putL
  rw [List.set_append_right _ _ (by omega), Nat.add_sub_cancel_left, Nat.add_assoc, putL_right vs a (c.set off v) (off + 1)]
theorem putL_flatten {sz : Nat} {vs : List Value} {off : Nat} (hl : off + vs.length ≤ sz) : ∀ {rows : List (List Value)} {i : Nat}, (∀ r ∈ rows, r.length = sz) → i < rows.length → putL rows.flatten (i * sz + off) vs = (rows.set i (putL (rows.getD i []) off vs)).flatten
 | [], i, _, h => by simp at h
 | r :: rows, 0, hr, _ => by
  have := hr r (by simp)
  simp [putL_append vs r rows.flatten off (by omega)]
 | r :: rows, i + 1, hr, h => by
  have h1 := hr r (by simp)
  have ih := putL_flatten (vs := vs) (off := off) hl (rows := rows) (i := i) (fun q hq => hr q (by simp [hq])) (by simpa using h)
  rw [List.flatten_cons, show (i + 1) * sz + off = r.length + (i * sz + off) from by rw [h1, Nat.succ_mul]; omega, putL_right, ih]
  simp
theorem map_set_putL {α : Type} [Inhabited α] {enc : α → List Value} {xs : List α} {i : Nat} {z : α} {off : Nat} {vs : List Value} (hi : i < xs.length) (he : enc z = putL (enc (xs.getD i default)) off vs) : (xs.map enc).set i (putL ((xs.map enc).getD i []) off vs) = (xs.set i z).map enc := by
 have : (xs.map enc).getD i [] = enc (xs.getD i default) := by simp [List.getD_eq_getElem?_getD, List.getElem?_eq_getElem hi]
 rw [this, ← he, List.map_set]
section
variable {P : Program} {n : Nat} {σ : Env} {M : Nat → Prop} {w0 : World} {H : List Res} {d : Option Tmp} {T U E S T2 : TypeId} {pos : String} {after : Array Edge} {gd : Option (Nat × Bool)} {x y z : Operand} {g g' g'' : Bool} {v yv : Value}
 {K : Act → World → Prop} {Q : Exit → Act → World → Prop}
theorem WQ.ret3 {fn : Func} {R : Ending → World → Prop} {C : World → Prop} {t u s : Nat} {v1 v2 v3 : Value} (hr : fn.results = #[.tmp t, .tmp u, .tmp s]) (h1 : σ.look t = some (true, v1)) (h2 : σ.look u = some (true, v2)) (h3 : σ.look s = some (true, v3)) (h : ∀ w, C w → R (.returned (.tuple #[v1, v2, v3])) w) :
  WK n (bodyPost P fn R .ret) σ C := fun a w ha hw => by
 refine ⟨ha.defers, _, ?_, h w hw⟩
 have a1 := ha.look t true v1 h1
 have a2 := ha.look u true v2 h2
 have a3 := ha.look s true v3 h3
 simp at a1 a2 a3
 simp [results, hr, a1, a2, a3]
end
end Go.Rd
end
section
namespace Go.Rd
open Go.RowKit
theorem sub_len {α : Type} {xs : List α} {i j : Int} (h : SX i j (ln xs)) : (sub xs i j).length = (j - i).toNat := by
 obtain ⟨h1, h2, h3⟩ := h
 unfold sub ln at *
 rw [List.length_take, List.length_drop]; omega
theorem subS_slen {α : Type} {xs : List α} {v : Value} {sz : Nat} {i j : Int} (hv : SliceLen v xs.length) (h : SX i j (ln xs)) : SliceLen (subS v sz i.toNat j.toNat) (sub xs i j).length := by
 rw [sub_len h]
 obtain ⟨h1, h2, h3⟩ := h
 unfold ln at h3
 have := subS_len (sz := sz) hv (l := i.toNat) (h := j.toNat) (by omega) (by omega)
 rwa [show (j - i).toNat = j.toNat - i.toNat from by omega]
section
variable {P : Program} {n : Nat} {σ : Env} {M : Nat → Prop} {w0 : World} {H : List Res} {d : Option Tmp} {T U E : TypeId} {pos : String} {after : Array Edge} {gd : Option (Nat × Bool)} {x y : Operand} {g g' : Bool} {v : Value}
 {K : Act → World → Prop} {Q : Exit → Act → World → Prop}
theorem zero_cells {α : Type} {enc : α → List Value} {z : α} {sz m : Nat} (hl : (enc z).length = sz) (h0 : 0 < sz) : (Builtin.zeroCells (enc z).toArray m).toList = ((List.replicate m z).map enc).flatten := by
 apply List.ext_getElem?
 intro j
 have hall : ∀ r ∈ (List.replicate m z).map enc, r.length = sz := by intro r hr; obtain ⟨u, hu, rfl⟩ := List.mem_map.1 hr; rw [List.mem_replicate] at hu; rw [hu.2, hl]
 have hfl : ((List.replicate m z).map enc).flatten.length = m * sz := by rw [flatten_len hall]; simp
 have hs : (enc z).toArray.size = sz := by simpa using hl
 by_cases hj : j < m * sz
 ·have hq : j / sz < m := Nat.div_lt_of_lt_mul (by rwa [Nat.mul_comm] at hj)
  have hd := drop_flatten (sz := sz) (rows := (List.replicate m z).map enc) (i := j / sz) (r := enc z) hall (by simp [hq])
  have hmod : j % sz < sz := Nat.mod_lt _ h0
  have e1 : ((List.replicate m z).map enc).flatten[j]? = (enc z)[j % sz]? := by
   have : (enc z)[j % sz]? = ((((List.replicate m z).map enc).flatten.drop (j / sz * sz)).take (enc z).length)[j % sz]? := by rw [hd]
   rw [this, List.getElem?_take, hl, if_pos hmod, List.getElem?_drop, Nat.mul_comm, Nat.div_add_mod]
  rw [e1]
  have hlt : j % sz < (enc z).length := by rw [hl]; exact hmod
  simp [Builtin.zeroCells, hj, hl, List.getElem?_eq_getElem hlt]
 ·have hj' := Nat.le_of_not_lt hj
  rw [List.getElem?_eq_none (by rw [Array.length_toList, size_zeroCells, hs]; exact hj'), List.getElem?_eq_none (by rw [hfl]; exact hj')]
def clr {α : Type} (xs : List α) (i : Int) (z : α) : List α := xs.take i.toNat ++ List.replicate (xs.length - i.toNat) z
theorem addr_zero (p : Addr) : p = p.add 0 := (by cases p; simp [Addr.add])
theorem clr_len {α : Type} {xs : List α} {i : Int} {z : α} (h : i ≤ ln xs) : (clr xs i z).length = xs.length := by
 unfold clr ln at *
 rw [List.length_append, List.length_take, List.length_replicate]; omega
theorem putL_all : ∀ (vs a : List Value) (off : Nat), off + vs.length = a.length → putL a off vs = a.take off ++ vs
 | [], a, off, h => by simp only [List.length_nil, Nat.add_zero] at h; subst h; simp [putL]
 | v :: vs, a, off, h => by
  simp only [List.length_cons] at h
  unfold putL
  rw [putL_all vs (a.set off v) (off + 1) (by simp; omega)]
  have : (a.set off v).take (off + 1) = a.take off ++ [v] := by
   rw [List.take_add_one, List.take_set_of_le (Nat.le_refl _), List.getElem?_set_self (by omega)]; rfl
  rw [this, List.append_assoc]; rfl
theorem flatten_take {sz : Nat} : ∀ {rows : List (List Value)} (i : Nat), (∀ r ∈ rows, r.length = sz) → (rows.take i).flatten = rows.flatten.take (i * sz)
 | [], i, _ => by simp
 | r :: rows, 0, _ => by simp
 | r :: rows, i + 1, h => by
  have h1 := h r (by simp)
  rw [List.take_succ_cons, List.flatten_cons, List.flatten_cons, flatten_take i (fun q hq => h q (by simp [hq])), show (i + 1) * sz = r.length + i * sz from by rw [h1, Nat.succ_mul]; omega, List.take_length_add_append]
theorem EV.clear {α : Type} {enc : α → List Value} {sz : Nat} (k : Nat) (z : α) {xs : List α} {lo hi : Int} (hT : SliceT P U E sz) (hz : ZeroT P E (enc z)) (hlen : ∀ u, (enc u).length = sz) (h0 : 0 < sz) (h1 : ∀ c ∈ enc z, c.oneCell' = true)
  (hx : σ.ev x = some (g, subS v sz lo.toNat hi.toNat)) (hg : g = true) (hk : H[k]? = some (vec v E sz (xs.map enc))) (hS : SX lo hi (ln xs)) (hh : hi = ln xs) {dd : Nat} (hd : d = some dd ∧ dd < n ∨ d = none)
  (kk : WK n K σ (Own M w0 (H.set k (vec v E sz ((clr xs lo z).map enc))))) (kd : ∀ dd, d = some dd → WK n K ((dd, (true, .tuple #[])) :: σ) (Own M w0 (H.set k (vec v E sz ((clr xs lo z).map enc))))) :
  EV P n ⟨d, .call ⟨.builtin .clear, #[x], #[U]⟩, T, pos, after, gd⟩ σ (Own M w0 H) K Q := fun a w ha hw => by
 refine .inl ?_
 obtain ⟨s1, s2, s3⟩ := hS
 subst hh
 obtain ⟨⟨q1, q2⟩, q3⟩ := hw.at k hk
 obtain ⟨hU, hSz⟩ := hT
 obtain ⟨inf, zv, z1, z2, z3⟩ := hz.out
 have hrl : (xs.map enc).length = xs.length := List.length_map _
 have hhi : (ln xs).toNat = xs.length := by unfold ln; omega
 have hend : ∀ w', (vec v E sz ((clr xs lo z).map enc)).holds w' → Own M w0 (H.set k (vec v E sz ((clr xs lo z).map enc))) w' → K (a.put d (.tuple #[])) w' := fun w' _ ho => by
  cases d with
  | none => exact kk a w' ha ho
  | some dd' =>
   rcases hd with ⟨hd1, hd2⟩ | hd
   ·cases hd1; exact kd _ rfl _ w' (ha.put hd2 true _) ho
   ·cases hd
 rcases q2 with ⟨rfl, hl0⟩ | ⟨b, cap, cur, rfl, hb, hh, hnc, hcm, hcs, ht⟩
 ·have hx0 : xs = [] := List.length_eq_zero_iff.1 (by rw [← hrl]; exact hl0)
  subst hx0
  have hl0 : lo = 0 := by unfold ln at s3; simp at s3; omega
  subst hl0
  have hrun : (execOp a.eval ⟨d, .call ⟨.builtin .clear, #[x], #[U]⟩, T, pos, after, gd⟩).run P w = .ok (.value (.tuple #[])) w := by
   simp [execOp, resolve, invoke, builtin, ha.ev hx hg, Builtin.clear_, run_underlying hU, subS, ln, Result.andThen]
  unfold Oper.wp
  rw [hrun]
  have e : clr ([] : List α) 0 z = [] := rfl
  have es : H.set k (vec (.slice none 0 0) E sz (([] : List α).map enc)) = H := by
   apply List.ext_getElem?
   intro j
   rw [List.getElem?_set]
   split
   ·rename_i hj; subst hj
    split
    ·exact hk.symm
    ·rw [List.getElem?_eq_none (by omega)] at hk; cases hk
   ·rfl
  have hown : Own M w0 (H.set k (vec (.slice none 0 0) E sz ((clr ([] : List α) 0 z).map enc))) w := by rw [e, es]; exact hw
  exact hend w (hown.at k (by rw [List.getElem?_set_self (List.getElem?_eq_some_iff.1 hk).1])) hown
 ·by_cases hm : xs.length - lo.toNat = 0
  ·have e : clr xs lo z = xs := by unfold clr; rw [hm, List.replicate_zero, List.append_nil, List.take_of_length_le (by omega)]
   have es : H.set k (vec (.slice (some ⟨b, 0, none⟩) (xs.map enc).length cap) E sz (xs.map enc)) = H := by
    apply List.ext_getElem?
    intro j
    rw [List.getElem?_set]
    split
    ·rename_i hj; subst hj
     split
     ·exact hk.symm
     ·rw [List.getElem?_eq_none (by omega)] at hk; cases hk
    ·rfl
   have hrun : (execOp a.eval ⟨d, .call ⟨.builtin .clear, #[x], #[U]⟩, T, pos, after, gd⟩).run P w = .ok (.value (.tuple #[])) w := by
    have ex := ha.ev hx hg
    simp only [subS, hhi, hm] at ex
    split at ex <;> simp [execOp, resolve, invoke, builtin, ex, Builtin.clear_, run_underlying hU, Result.andThen]
   unfold Oper.wp
   rw [hrun]
   have hown : Own M w0 (H.set k (vec (.slice (some ⟨b, 0, none⟩) (xs.map enc).length cap) E sz ((clr xs lo z).map enc))) w := by rw [e, es]; exact hw
   exact hend w (hown.at k (by rw [List.getElem?_set_self (List.getElem?_eq_some_iff.1 hk).1])) hown
  ·have hne : ¬ cap = lo.toNat := by rw [hrl] at hnc; omega
   have hzl : (enc z).length = sz := hlen z
   have hzc := zero_cells (enc := enc) (z := z) (m := xs.length - lo.toNat) hzl h0
   have hfz := flatten_len (sz := sz) (rows := (List.replicate (xs.length - lo.toNat) z).map enc) (by intro r hr; obtain ⟨u, hu, rfl⟩ := List.mem_map.1 hr; rw [List.mem_replicate] at hu; rw [hu.2, hzl])
   rw [List.length_map, List.length_replicate] at hfz
   have hcl : cur.toList.length = cap * sz := by simpa using hcs
   have hmul : (lo.toNat + (xs.length - lo.toNat)) * sz ≤ cap * sz := Nat.mul_le_mul_right _ (by rw [hrl] at hnc; omega)
   rw [Nat.add_mul] at hmul
   obtain ⟨w', q1', r2, r3, r4, r5, r6, r7⟩ := run_storeCells_blk (P := P) ((List.replicate (xs.length - lo.toNat) z).map enc).flatten ⟨b, lo.toNat * sz, none⟩ 0 (lo.toNat * sz) cur.toList w (by simpa using hh) (by simp [Addr.add]) (by rw [hfz]; omega)
    (fun u hu => by obtain ⟨r, hr, hu⟩ := List.mem_flatten.1 hu; obtain ⟨v, hv, rfl⟩ := List.mem_map.1 hr; rw [List.mem_replicate] at hv; rw [hv.2] at hu; exact h1 u hu)
   have hrun : (execOp a.eval ⟨d, .call ⟨.builtin .clear, #[x], #[U]⟩, T, pos, after, gd⟩).run P w = .ok (.value (.tuple #[])) w' := by
    have ex := ha.ev hx hg
    simp only [subS, hhi, if_neg hne, Option.map_some, Addr.add_lit, Nat.zero_add] at ex
    obtain ⟨m', hm'⟩ : ∃ m', xs.length - lo.toNat = m' + 1 := ⟨xs.length - lo.toNat - 1, by omega⟩
    rw [hm'] at ex hzc q1'
    rw [List.map_replicate] at hzc q1'
    have hzr : (zeroValue E).run P w = .ok zv w := by simp [zeroValue, typeInfo, z1, z2]
    simp [execOp, resolve, invoke, builtin, ex, Builtin.clear_, run_underlying hU, Result.andThen, hzr, z3, hzc, q1']
   unfold Oper.wp
   rw [hrun]
   have hbl : b < w.heap.size := (Array.getElem?_eq_some_iff.1 hh).1
   have hcl2 : ((clr xs lo z).map enc).length = (xs.map enc).length := by rw [List.length_map, List.length_map, clr_len s2]
   have hflat : ((clr xs lo z).map enc).flatten = putL (xs.map enc).flatten (lo.toNat * sz) ((List.replicate (xs.length - lo.toNat) z).map enc).flatten := by
    have hfx := flatten_len q3
    rw [putL_all _ _ _ (by rw [hfz, hfx, hrl, ← Nat.add_mul]; congr 1; omega), ← flatten_take _ q3]
    unfold clr
    rw [List.map_append, List.flatten_append, List.map_take]
   have hholds : (vec (.slice (some ⟨b, 0, none⟩) (xs.map enc).length cap) E sz ((clr xs lo z).map enc)).holds w' := by
    refine ⟨⟨by rw [hflat, putL_length, hcl2]; exact q1, .inr ⟨b, cap, (putL cur.toList (lo.toNat * sz) ((List.replicate (xs.length - lo.toNat) z).map enc).flatten).toArray, by rw [hcl2], hb, r2, by rw [hcl2]; exact hnc, hcm, by simp [putL_length, hcs], ?_⟩⟩, fun r hr => ?_⟩
    ·have e1 : cur.toList = (xs.map enc).flatten ++ cur.toList.drop ((xs.map enc).length * sz) := by
      conv => lhs; rw [← List.take_append_drop ((xs.map enc).length * sz) cur.toList]
      rw [ht]
     have hfx := flatten_len q3
     rw [hflat, e1, putL_append _ _ _ _ (by rw [hfz, hfx, hrl, ← Nat.add_mul]; exact Nat.mul_le_mul_right _ (by omega)), hcl2, List.take_append_of_le_length (by rw [putL_length, hfx]; exact Nat.le_refl _), List.take_of_length_le (by rw [putL_length, hfx]; exact Nat.le_refl _)]
    ·obtain ⟨u, hu, rfl⟩ := List.mem_map.1 hr
     exact hlen u
   refine hend w' hholds (hw.upd k hk r5 r6 r7 (by omega) (fun c hc hne => r3 c fun e => hne (by subst e; exact ⟨_, _, rfl⟩)) hholds fun c hc => ?_)
   obtain ⟨n2, k2, he2⟩ := hc
   simp only [Value.slice.injEq, Option.some.injEq, Addr.mk.injEq] at he2
   obtain ⟨⟨rfl, _⟩, _⟩ := he2
   exact ⟨.inl ⟨_, _, rfl⟩, by omega⟩
end
def ordV (a b : Edg) : Int := if a.fr < b.fr then -1 else if b.fr < a.fr then 1 else if a.to < b.to then -1 else if b.to < a.to then 1 else if a.bk < b.bk then -1 else if b.bk < a.bk then 1 else if a.wt < b.wt then -1 else if b.wt < a.wt then 1 else 0
abbrev LayT : Type := List Int × List Stm × List Int × Int × Int × List Int × List Int × List Int
def LayAt (K : World) (v : Value) : Option LayT → Prop
 | none => v = .pointer none
 | some y => ∃ p h1 h2 h3 h4 h5 h6, v = .pointer (some p) ∧ CellsAt K p [h1, h2, h3, .int .i64 y.2.2.2.1, .int .i64 y.2.2.2.2.1, h4, h5, h6] 0 ∧ Arr K h1 1 (y.1.map icell) ∧ Arr K h2 9 (y.2.1.map Stm.cells) ∧ Arr K h3 1 (y.2.2.1.map icell) ∧ Arr K h4 1 (y.2.2.2.2.2.1.map icell) ∧ Arr K h5 1 (y.2.2.2.2.2.2.1.map icell) ∧ Arr K h6 1 (y.2.2.2.2.2.2.2.map icell)
theorem LayAt.none {K : World} : LayAt K (.pointer none) Option.none := rfl
theorem LayAt.mk {K : World} {p : Addr} {h1 h2 h3 h4 h5 h6 : Value} {a c f g h : List Int} {b : List Stm} {d e : Int} (hc : CellsAt K p [h1, h2, h3, .int .i64 d, .int .i64 e, h4, h5, h6] 0) (a1 : Arr K h1 1 (a.map icell)) (a2 : Arr K h2 9 (b.map Stm.cells)) (a3 : Arr K h3 1 (c.map icell)) (a4 : Arr K h4 1 (f.map icell)) (a5 : Arr K h5 1 (g.map icell)) (a6 : Arr K h6 1 (h.map icell)) :
  LayAt K (.pointer (some p)) (some (a, b, c, d, e, f, g, h)) := ⟨p, h1, h2, h3, h4, h5, h6, rfl, hc, a1, a2, a3, a4, a5, a6⟩
theorem LayAt.nil {K : World} {v : Value} {o : Option LayT} (h : LayAt K v o) (e : o = Option.none) : v = .pointer Option.none := by subst e; exact h
theorem LayAt.at {K : World} {v : Value} {o : Option LayT} {y : LayT} (h : LayAt K v o) (e : o = some y) : ∃ p h1 h2 h3 h4 h5 h6, v = .pointer (some p) ∧ CellsAt K p [h1, h2, h3, .int .i64 y.2.2.2.1, .int .i64 y.2.2.2.2.1, h4, h5, h6] 0 ∧ Arr K h1 1 (y.1.map icell) ∧ Arr K h2 9 (y.2.1.map Stm.cells) ∧ Arr K h3 1 (y.2.2.1.map icell) ∧ Arr K h4 1 (y.2.2.2.2.2.1.map icell) ∧ Arr K h5 1 (y.2.2.2.2.2.2.1.map icell) ∧ Arr K h6 1 (y.2.2.2.2.2.2.2.map icell) := by subst e; exact h
end Go.Rd
end
section
namespace Go.Rd
noncomputable def num_Index_c1_m (n_ : Int) : Option (Bool) :=
 some ((decide (n_ ≥ (-64))) && (decide (n_ ≤ 64)))
noncomputable def num_Index_m (step plus turn log : Int) : Option (Int) :=
 bdG (!((decide (log < 0)) || (decide (log > 5)))) (num_Index_c1_m step) fun x1 =>
 bdG (!(((decide (log < 0)) || (decide (log > 5))) || (!x1))) (num_Index_c1_m plus) fun x4 =>
 br ((((((decide (log < 0)) || (decide (log > 5))) || (!x1)) || (!x4)) || (decide (turn < 0))) || (decide (turn > 200))) (
 some 0) (
 ck (IR (step * turn)) <|
 ck (IR ((step * turn) + plus)) <|
 ck (0 ≤ log) <|
 ck (IR ((shlD 1 log) - 1)) <|
 some (bitAnd ((step * turn) + plus) ((shlD 1 log) - 1)))
noncomputable def num_Op_c1_m (is : Bool) : Option (Int) :=
 br is (
 some 1) (
 some 0)
noncomputable def num_Op_m (op a b : Int) : Option (Int) :=
 br (op == 1) (
 some (IntKind.i64.wrap (a + b))) (
 br (op == 2) (
 some (IntKind.i64.wrap (a - b))) (
 br (op == 3) (
 some (IntKind.i64.wrap (a * b))) (
 br (op == 4) (
 some (bitAnd a b)) (
 br (op == 5) (
 some (bitOr a b)) (
 br (op == 6) (
 some (bitXor a b)) (
 br (op == 7) (
 bd (num_Op_c1_m (decide (a < b))) fun x21 =>
 some x21) (
 br (op == 8) (
 bd (num_Op_c1_m (a == b)) fun x27 =>
 some x27) (
 some 0))))))))
noncomputable def num_Class_m (op : Int) : Option (Int) :=
 br (op == 3) (
 br (op == 3) (
 some 2) (
 br (op == 13) (
 some 1) (
 some 0))) (
 br (op == 4) (
 some 2) (
 br (op == 13) (
 some 1) (
 some 0)))
noncomputable def R1_Class_m (op : Int) : Option (Int) :=
 br ((op == 3) || (op == 4)) (
 some 2) (
 br (op == 13) (
 some 1) (
 some 0))
noncomputable def R1_Size_L0 (log : Int) : (Int × Int) → Option (Stp (Int × Int) (Empty)) := fun (n3_1, i4_1) =>
 br (decide (i4_1 < log)) (
 ck (IR (n3_1 + n3_1)) <|
 ck (IR (i4_1 + 1)) <|
 some (.next ((n3_1 + n3_1), (i4_1 + 1)))) (
 some (.brk (n3_1, i4_1)))
noncomputable def R1_Size_m (log : Int) : Option (Int) :=
 bd (lp (R1_Size_L0 log) (1, 0)) fun o1 => o1.on (fun (n3_1, i4_1) =>
 some n3_1) (fun r => r.elim)
noncomputable def R1_Rest_m (a b : Int) : Option (Int) :=
 ck (b ≠ 0) <|
 br (decide ((Int.tmod a b) < 0)) (
 ck (IR ((Int.tmod a b) + b)) <|
 some ((Int.tmod a b) + b)) (
 some (Int.tmod a b))
noncomputable def R1_bits_L0 (op : Int) : (Int × Int × Int × Int × Int) → Option (Stp (Int × Int × Int × Int × Int) (Empty)) := fun (a1_1, b2_1, n7_1, power8_1, i9_1) =>
 br (decide (i9_1 < 64)) (
 br (((((op == 4) && ((Int.tmod a1_1 2) != 0)) && ((Int.tmod b2_1 2) != 0)) || ((op == 5) && (((Int.tmod a1_1 2) != 0) || ((Int.tmod b2_1 2) != 0)))) || ((op == 6) && (!(((Int.tmod a1_1 2) != 0) == ((Int.tmod b2_1 2) != 0))))) (
 br (decide ((Int.tmod a1_1 2) < 0)) (
 br (decide ((Int.tmod b2_1 2) < 0)) (
 ck (IR (Int.tdiv (IntKind.i64.wrap (a1_1 - (IntKind.i64.wrap ((Int.tmod a1_1 2) + 2)))) 2)) <|
 ck (IR (Int.tdiv (IntKind.i64.wrap (b2_1 - (IntKind.i64.wrap ((Int.tmod b2_1 2) + 2)))) 2)) <|
 some (.next ((Int.tdiv (IntKind.i64.wrap (a1_1 - (IntKind.i64.wrap ((Int.tmod a1_1 2) + 2)))) 2), (Int.tdiv (IntKind.i64.wrap (b2_1 - (IntKind.i64.wrap ((Int.tmod b2_1 2) + 2)))) 2), (IntKind.i64.wrap (n7_1 + power8_1)), (IntKind.i64.wrap (power8_1 + power8_1)), (IntKind.i64.wrap (i9_1 + 1))))) (
 ck (IR (Int.tdiv (IntKind.i64.wrap (a1_1 - (IntKind.i64.wrap ((Int.tmod a1_1 2) + 2)))) 2)) <|
 ck (IR (Int.tdiv (IntKind.i64.wrap (b2_1 - (Int.tmod b2_1 2))) 2)) <|
 some (.next ((Int.tdiv (IntKind.i64.wrap (a1_1 - (IntKind.i64.wrap ((Int.tmod a1_1 2) + 2)))) 2), (Int.tdiv (IntKind.i64.wrap (b2_1 - (Int.tmod b2_1 2))) 2), (IntKind.i64.wrap (n7_1 + power8_1)), (IntKind.i64.wrap (power8_1 + power8_1)), (IntKind.i64.wrap (i9_1 + 1)))))) (
 br (decide ((Int.tmod b2_1 2) < 0)) (
 ck (IR (Int.tdiv (IntKind.i64.wrap (a1_1 - (Int.tmod a1_1 2))) 2)) <|
 ck (IR (Int.tdiv (IntKind.i64.wrap (b2_1 - (IntKind.i64.wrap ((Int.tmod b2_1 2) + 2)))) 2)) <|
 some (.next ((Int.tdiv (IntKind.i64.wrap (a1_1 - (Int.tmod a1_1 2))) 2), (Int.tdiv (IntKind.i64.wrap (b2_1 - (IntKind.i64.wrap ((Int.tmod b2_1 2) + 2)))) 2), (IntKind.i64.wrap (n7_1 + power8_1)), (IntKind.i64.wrap (power8_1 + power8_1)), (IntKind.i64.wrap (i9_1 + 1))))) (
 ck (IR (Int.tdiv (IntKind.i64.wrap (a1_1 - (Int.tmod a1_1 2))) 2)) <|
 ck (IR (Int.tdiv (IntKind.i64.wrap (b2_1 - (Int.tmod b2_1 2))) 2)) <|
 some (.next ((Int.tdiv (IntKind.i64.wrap (a1_1 - (Int.tmod a1_1 2))) 2), (Int.tdiv (IntKind.i64.wrap (b2_1 - (Int.tmod b2_1 2))) 2), (IntKind.i64.wrap (n7_1 + power8_1)), (IntKind.i64.wrap (power8_1 + power8_1)), (IntKind.i64.wrap (i9_1 + 1))))))) (
 br (decide ((Int.tmod a1_1 2) < 0)) (
 br (decide ((Int.tmod b2_1 2) < 0)) (
 ck (IR (Int.tdiv (IntKind.i64.wrap (a1_1 - (IntKind.i64.wrap ((Int.tmod a1_1 2) + 2)))) 2)) <|
 ck (IR (Int.tdiv (IntKind.i64.wrap (b2_1 - (IntKind.i64.wrap ((Int.tmod b2_1 2) + 2)))) 2)) <|
 some (.next ((Int.tdiv (IntKind.i64.wrap (a1_1 - (IntKind.i64.wrap ((Int.tmod a1_1 2) + 2)))) 2), (Int.tdiv (IntKind.i64.wrap (b2_1 - (IntKind.i64.wrap ((Int.tmod b2_1 2) + 2)))) 2), n7_1, (IntKind.i64.wrap (power8_1 + power8_1)), (IntKind.i64.wrap (i9_1 + 1))))) (
 ck (IR (Int.tdiv (IntKind.i64.wrap (a1_1 - (IntKind.i64.wrap ((Int.tmod a1_1 2) + 2)))) 2)) <|
 ck (IR (Int.tdiv (IntKind.i64.wrap (b2_1 - (Int.tmod b2_1 2))) 2)) <|
 some (.next ((Int.tdiv (IntKind.i64.wrap (a1_1 - (IntKind.i64.wrap ((Int.tmod a1_1 2) + 2)))) 2), (Int.tdiv (IntKind.i64.wrap (b2_1 - (Int.tmod b2_1 2))) 2), n7_1, (IntKind.i64.wrap (power8_1 + power8_1)), (IntKind.i64.wrap (i9_1 + 1)))))) (
 br (decide ((Int.tmod b2_1 2) < 0)) (
 ck (IR (Int.tdiv (IntKind.i64.wrap (a1_1 - (Int.tmod a1_1 2))) 2)) <|
 ck (IR (Int.tdiv (IntKind.i64.wrap (b2_1 - (IntKind.i64.wrap ((Int.tmod b2_1 2) + 2)))) 2)) <|
 some (.next ((Int.tdiv (IntKind.i64.wrap (a1_1 - (Int.tmod a1_1 2))) 2), (Int.tdiv (IntKind.i64.wrap (b2_1 - (IntKind.i64.wrap ((Int.tmod b2_1 2) + 2)))) 2), n7_1, (IntKind.i64.wrap (power8_1 + power8_1)), (IntKind.i64.wrap (i9_1 + 1))))) (
 ck (IR (Int.tdiv (IntKind.i64.wrap (a1_1 - (Int.tmod a1_1 2))) 2)) <|
 ck (IR (Int.tdiv (IntKind.i64.wrap (b2_1 - (Int.tmod b2_1 2))) 2)) <|
 some (.next ((Int.tdiv (IntKind.i64.wrap (a1_1 - (Int.tmod a1_1 2))) 2), (Int.tdiv (IntKind.i64.wrap (b2_1 - (Int.tmod b2_1 2))) 2), n7_1, (IntKind.i64.wrap (power8_1 + power8_1)), (IntKind.i64.wrap (i9_1 + 1)))))))) (
 some (.brk (a1_1, b2_1, n7_1, power8_1, i9_1)))
noncomputable def R1_bits_m (op a b : Int) : Option (Int) :=
 bd (lp (R1_bits_L0 op) (a, b, 0, 1, 0)) fun o1 => o1.on (fun (a1_1, b2_1, n7_1, power8_1, i9_1) =>
 some n7_1) (fun r => r.elim)
noncomputable def R1_Op_m (op a b : Int) : Option (Int) :=
 br (op == 1) (
 some (IntKind.i64.wrap (a + b))) (
 br (op == 2) (
 some (IntKind.i64.wrap (a - b))) (
 br (op == 3) (
 some (IntKind.i64.wrap (a * b))) (
 br (op == 4) (
 br (op == 4) (
 bd (R1_bits_m op a b) fun x14 =>
 some x14) (
 br (op == 7) (
 br (decide (a < b)) (
 some 1) (
 some 0)) (
 br (op == 8) (
 br (a == b) (
 some 1) (
 some 0)) (
 some 0)))) (
 br (op == 5) (
 br (op == 5) (
 bd (R1_bits_m op a b) fun x35 =>
 some x35) (
 br (op == 7) (
 br (decide (a < b)) (
 some 1) (
 some 0)) (
 br (op == 8) (
 br (a == b) (
 some 1) (
 some 0)) (
 some 0)))) (
 br (op == 6) (
 bd (R1_bits_m op a b) fun x54 =>
 some x54) (
 br (op == 7) (
 br (decide (a < b)) (
 some 1) (
 some 0)) (
 br (op == 8) (
 br (a == b) (
 some 1) (
 some 0)) (
 some 0))))))))
noncomputable def R1_Index_m (step plus turn log : Int) : Option (Int) :=
 br ((((((((decide (log < 0)) || (decide (log > 5))) || (decide (step < (-64)))) || (decide (step > 64))) || (decide (plus < (-64)))) || (decide (plus > 64))) || (decide (turn < 0))) || (decide (turn > 200))) (
 some 0) (
 ck (IR (step * turn)) <|
 ck (IR ((step * turn) + plus)) <|
 bd (R1_Size_m log) fun x8 =>
 bd (R1_Rest_m ((step * turn) + plus) x8) fun x11 =>
 some x11)
theorem num_Index_s (step plus turn log : Int) : num_Index_m step plus turn log = some (idx step plus turn log) := by
 unfold num_Index_m num_Index_c1_m bdG idx
 simp only [bd_ret, br_eq]
 by_cases h : OkIdx step plus turn log
 ·have hb := h
  unfold OkIdx at hb
  obtain ⟨h1, h2, h3, h4, h5, h6, h7, h8⟩ := hb
  have hp2 := two_pow_5 log.toNat (by omega)
  have hst := step_turn h3 h4 h7 h8
  have hg := idx_go h
  have hs : shlD 1 log = 2 ^ log.toNat := shl_one log h1 h2
  simp only [show ¬ log < 0 from by omega, show ¬ log > 5 from by omega, show step ≥ -64 from h3, h4, show plus ≥ -64 from h5, h6, show ¬ turn < 0 from by omega, show ¬ turn > 200 from by omega, decide_false, decide_true, Bool.or_self, Bool.and_self, Bool.not_true, Bool.not_false, if_true, Bool.or_false, Bool.false_eq_true, if_false, if_pos h, hs]
  rw [ck_IR (by omega) (by omega), ck_IR (by omega) (by omega), ck_yes (by omega), ck_IR (by omega) (by omega)]
  congr 1
  unfold bitAnd
  rw [and_mask _ _ (by omega), wrap_i64]
  ·have := Int.emod_nonneg (step * turn + plus) (show (2 : Int) ^ log.toNat ≠ 0 from by omega)
   omega
  ·have := Int.emod_lt_of_pos (step * turn + plus) (show (0 : Int) < 2 ^ log.toNat from by omega)
   omega
 ·rw [if_neg h]
  unfold OkIdx at h
  by_cases g1 : log < 0 ∨ log > 5
  ·rcases g1 with g | g <;> simp [g]
  ·by_cases g2 : step ≥ -64 ∧ step ≤ 64
   ·by_cases g3 : plus ≥ -64 ∧ plus ≤ 64
    ·by_cases g4 : turn < 0 ∨ turn > 200
     ·rcases g4 with g | g <;> simp [g, show ¬ log < 0 from by omega, show ¬ log > 5 from by omega, g2.1, g2.2, g3.1, g3.2]
     ·exact absurd ⟨by omega, by omega, by omega, by omega, by omega, by omega, by omega, by omega⟩ h
    ·have : (decide (plus ≥ -64) && decide (plus ≤ 64)) = false := by simp; omega
     simp [this, show ¬ log < 0 from by omega, show ¬ log > 5 from by omega, g2.1, g2.2]
   ·have : (decide (step ≥ -64) && decide (step ≤ 64)) = false := by simp; omega
    simp [this, show ¬ log < 0 from by omega, show ¬ log > 5 from by omega]
theorem num_Op_s (op a b : Int) : num_Op_m op a b = some (opV op a b) := by
 unfold num_Op_m num_Op_c1_m opV
 simp only [br_eq, beq_iff_eq]
 (repeat' split) <;> (try simp_all) <;> (try rfl)
theorem num_Class_s (op : Int) : num_Class_m op = some (clsV op) := by
 unfold num_Class_m clsV
 simp only [br_eq, beq_iff_eq]
 (repeat' split) <;> simp_all
theorem ref_Class_s (op : Int) : R1_Class_m op = some (clsV op) := by
 unfold R1_Class_m clsV
 simp only [br_eq, Bool.or_eq_true, beq_iff_eq]
 (repeat' split) <;> simp_all
theorem Size_loop (log : Int) (hl : log ≤ 5) : ∀ (m i : Nat), i + m = log.toNat → lp (R1_Size_L0 log) (2 ^ i, i) = some (.go (2 ^ log.toNat, (log.toNat : Int)))
 | 0, i, h => by
  have hi : i = log.toNat := by omega
  subst hi
  refine lp_brk ?_
  unfold R1_Size_L0
  exact br_F (by omega)
 | m + 1, i, h => by
  have hp := two_pow_5 i (by omega)
  refine lp_step ?_ (Size_loop log hl m (i + 1) (by omega))
  unfold R1_Size_L0
  simp only
  rw [br_T (by omega), ck_IR (by omega) (by omega), ck_IR (by omega) (by omega), pow_next]
  rfl
theorem Size_s (log : Int) (hl : log ≤ 5) : R1_Size_m log = some (2 ^ log.toNat) := by
 have := Size_loop log hl log.toNat 0 (by omega)
 unfold R1_Size_m
 rw [show ((1 : Int), (0 : Int)) = ((2 : Int) ^ 0, ((0 : Nat) : Int)) from rfl, this]
 rfl
theorem Rest_s (a b : Int) (hb : 0 < b) (hB : b ≤ 9223372036854775807) : R1_Rest_m a b = some (a % b) := by
 have ht := tmod_lt' a hb
 have hf := tmod_fix (a := a) hb
 unfold R1_Rest_m
 rw [ck_yes (by omega)]
 by_cases h : Int.tmod a b < 0
 ·rw [if_pos h] at hf
  rw [br_T h, ck_IR (by omega) (by omega), hf]
 ·rw [if_neg h] at hf
  rw [br_F h, hf]
theorem ref_Index_s (step plus turn log : Int) : R1_Index_m step plus turn log = some (idx step plus turn log) := by
 unfold R1_Index_m idx
 by_cases h : OkIdx step plus turn log
 ·have hb := h
  unfold OkIdx at hb
  obtain ⟨h1, h2, h3, h4, h5, h6, h7, h8⟩ := hb
  have hp2 := two_pow_5 log.toNat (by omega)
  have hst := step_turn h3 h4 h7 h8
  simp only [show ¬ log < 0 from by omega, show ¬ log > 5 from by omega, show ¬ step < -64 from by omega, show ¬ step > 64 from by omega, show ¬ plus < -64 from by omega, show ¬ plus > 64 from by omega, show ¬ turn < 0 from by omega, show ¬ turn > 200 from by omega, decide_false, Bool.or_self, br_false, if_pos h]
  rw [ck_IR (by omega) (by omega), ck_IR (by omega) (by omega), Size_s log h2, bd_ret, Rest_s _ _ (by omega) (by omega), bd_ret]
 ·rw [if_neg h]
  have hc : (((((((decide (log < 0) || decide (log > 5)) || decide (step < -64)) || decide (step > 64)) || decide (plus < -64)) || decide (plus > 64)) || decide (turn < 0)) || decide (turn > 200)) = true := by
   unfold OkIdx at h
   simp only [Bool.or_eq_true, decide_eq_true_eq]
   omega
  rw [hc]; rfl
theorem tdiv2_bd {x : Int} (h : -9223372036854775808 ≤ x ∧ x ≤ 9223372036854775807) : -9223372036854775808 ≤ x.tdiv 2 ∧ x.tdiv 2 ≤ 9223372036854775807 := by
 have h1 := Int.tmod_add_mul_tdiv x 2
 have h2 := tmod_lt' x (m := 2) (by decide)
 omega
theorem bits_loop (op a b : Int) (ha : -9223372036854775808 ≤ a ∧ a ≤ 9223372036854775807) (hb : -9223372036854775808 ≤ b ∧ b ≤ 9223372036854775807) : ∀ (m i : Nat), i + m = 64 →
  ∃ x y z t, lp (R1_bits_L0 op) (a / 2 ^ i, b / 2 ^ i, IntKind.i64.wrap (bitsN op a b i), IntKind.i64.wrap (2 ^ i), i) = some (.go (x, y, IntKind.i64.wrap (bitsN op a b 64), z, t))
 | 0, i, h => by
  have hi : i = 64 := by omega
  subst hi
  refine ⟨a / 2 ^ 64, b / 2 ^ 64, IntKind.i64.wrap (2 ^ 64), ((64 : Nat) : Int), lp_brk ?_⟩
  unfold R1_bits_L0
  exact br_F (by omega)
 | m + 1, i, h => by
  obtain ⟨x, y, z, t, ih⟩ := bits_loop op a b ha hb m (i + 1) (by omega)
  refine ⟨x, y, z, t, lp_step ?_ ih⟩
  have hba := half_bd ha.1 ha.2 i
  have hbb := half_bd hb.1 hb.2 i
  have hcd := bits_cond op a b i
  have key : ∀ {A : Int}, (-9223372036854775808 ≤ A ∧ A ≤ 9223372036854775807) →
    (A.tmod 2 < 0 → IR (Int.tdiv (IntKind.i64.wrap (A - IntKind.i64.wrap (A.tmod 2 + 2))) 2) ∧ Int.tdiv (IntKind.i64.wrap (A - IntKind.i64.wrap (A.tmod 2 + 2))) 2 = A / 2) ∧
    (¬ A.tmod 2 < 0 → IR (Int.tdiv (IntKind.i64.wrap (A - A.tmod 2)) 2) ∧ Int.tdiv (IntKind.i64.wrap (A - A.tmod 2)) 2 = A / 2) := fun {A} hA => by
   constructor
   ·intro hn
    have h1 := tdiv2_bd (wrap_bd (A - IntKind.i64.wrap (A.tmod 2 + 2)))
    have h2 := half_neg hA.1 hA.2 hn
    rw [wrap_i64 h1.1 h1.2] at h2
    exact ⟨h1, h2⟩
   ·intro hn
    have h1 := tdiv2_bd (wrap_bd (A - A.tmod 2))
    have h2 := half_pos hA.1 hA.2 hn
    rw [wrap_i64 h1.1 h1.2] at h2
    exact ⟨h1, h2⟩
  have ka := key hba
  have kb := key hbb
  have hpw : IntKind.i64.wrap (IntKind.i64.wrap (2 ^ i) + IntKind.i64.wrap (2 ^ i)) = IntKind.i64.wrap (2 ^ (i + 1)) := by rw [wrap_add2, pow_next]
  have hi1 : IntKind.i64.wrap ((i : Int) + 1) = ((i + 1 : Nat) : Int) := by rw [wrap_i64 (by omega) (by omega)]; rfl
  unfold R1_bits_L0
  simp only
  rw [br_T (by omega), hcd, hpw, hi1]
  have ea := half_next a i
  have eb := half_next b i
  cases hc : bitC op (bitA a i) (bitA b i) with
  | true =>
   have hn := bits_n_yes (op := op) (a := a) (b := b) (i := i) hc rfl
   rw [br_true, hn]
   by_cases na : (a / 2 ^ i).tmod 2 < 0 <;> by_cases nb : (b / 2 ^ i).tmod 2 < 0
   ·rw [br_T na, br_T nb, ck_yes (ka.1 na).1, ck_yes (kb.1 nb).1, (ka.1 na).2, (kb.1 nb).2, ea, eb]
   ·rw [br_T na, br_F nb, ck_yes (ka.1 na).1, ck_yes (kb.2 nb).1, (ka.1 na).2, (kb.2 nb).2, ea, eb]
   ·rw [br_F na, br_T nb, ck_yes (ka.2 na).1, ck_yes (kb.1 nb).1, (ka.2 na).2, (kb.1 nb).2, ea, eb]
   ·rw [br_F na, br_F nb, ck_yes (ka.2 na).1, ck_yes (kb.2 nb).1, (ka.2 na).2, (kb.2 nb).2, ea, eb]
  | false =>
   have hn := bits_n_no (op := op) (a := a) (b := b) (i := i) hc rfl
   rw [br_false, hn]
   by_cases na : (a / 2 ^ i).tmod 2 < 0 <;> by_cases nb : (b / 2 ^ i).tmod 2 < 0
   ·rw [br_T na, br_T nb, ck_yes (ka.1 na).1, ck_yes (kb.1 nb).1, (ka.1 na).2, (kb.1 nb).2, ea, eb]
   ·rw [br_T na, br_F nb, ck_yes (ka.1 na).1, ck_yes (kb.2 nb).1, (ka.1 na).2, (kb.2 nb).2, ea, eb]
   ·rw [br_F na, br_T nb, ck_yes (ka.2 na).1, ck_yes (kb.1 nb).1, (ka.2 na).2, (kb.1 nb).2, ea, eb]
   ·rw [br_F na, br_F nb, ck_yes (ka.2 na).1, ck_yes (kb.2 nb).1, (ka.2 na).2, (kb.2 nb).2, ea, eb]
theorem bits_s (op a b : Int) (ha : -9223372036854775808 ≤ a ∧ a ≤ 9223372036854775807) (hb : -9223372036854775808 ≤ b ∧ b ≤ 9223372036854775807) : R1_bits_m op a b = some (IntKind.i64.wrap (bitsN op a b 64)) := by
 obtain ⟨x, y, z, t, h⟩ := bits_loop op a b ha hb 64 0 (by omega)
 simp only [Int.pow_zero, Int.ediv_one] at h
 unfold R1_bits_m
 rw [show (a, b, (0 : Int), (1 : Int), (0 : Int)) = (a, b, IntKind.i64.wrap (bitsN op a b 0), IntKind.i64.wrap 1, ((0 : Nat) : Int)) from rfl, h]
 rfl
theorem ref_Op_s (op a b : Int) (ha : -9223372036854775808 ≤ a ∧ a ≤ 9223372036854775807) (hb : -9223372036854775808 ≤ b ∧ b ≤ 9223372036854775807) : R1_Op_m op a b = some (opV op a b) := by
 unfold R1_Op_m
 rw [bits_s op a b ha hb]
 simp only [bd_ret, br_eq, beq_iff_eq]
 by_cases h4 : op = 4
 ·have := opV_bits op a b (.inl (by simp [h4]))
  subst h4; simp [this]
 ·by_cases h5 : op = 5
  ·have := opV_bits op a b (.inr (.inl (by simp [h5])))
   subst h5; simp [this]
  ·by_cases h6 : op = 6
   ·have := opV_bits op a b (.inr (.inr (by simp [h6])))
    subst h6; simp [this]
   ·unfold opV
    (repeat' split) <;> simp_all
noncomputable def target_May_L0 (t : Tgt) : Int → Option (Stp (Int) (Bool)) := fun x4_1 =>
 br (decide (x4_1 < 3)) (
 ck (IX x4_1 3) <|
 ck ((!(decide ((sel3 t.u0 t.u1 t.u2 x4_1) < 1))) = true → IX x4_1 3) <|
 ck ((!((decide ((sel3 t.u0 t.u1 t.u2 x4_1) < 1)) || (decide ((sel3 t.u0 t.u1 t.u2 x4_1) > 4)))) = true → IX x4_1 3) <|
 ck ((!(((decide ((sel3 t.u0 t.u1 t.u2 x4_1) < 1)) || (decide ((sel3 t.u0 t.u1 t.u2 x4_1) > 4))) || (decide ((sel3 t.w0 t.w1 t.w2 x4_1) < 1)))) = true → IX x4_1 3) <|
 br ((((decide ((sel3 t.u0 t.u1 t.u2 x4_1) < 1)) || (decide ((sel3 t.u0 t.u1 t.u2 x4_1) > 4))) || (decide ((sel3 t.w0 t.w1 t.w2 x4_1) < 1))) || (decide ((sel3 t.w0 t.w1 t.w2 x4_1) > 6))) (
 some (.ret false)) (
 ck (IR (x4_1 + 1)) <|
 some (.next (x4_1 + 1)))) (
 some (.brk x4_1))
noncomputable def target_May_m (t : Tgt) : Option (Bool) :=
 bd (lp (target_May_L0 t) 0) fun o2 => o2.on (fun x4_1 =>
 some ((decide (t.regs ≥ 1)) && (decide (t.regs ≤ 128)))) (fun r => some r)
noncomputable def R4_May_L0 (t : Tgt) : Int → Option (Stp (Int) (Bool)) := fun k3_1 =>
 br (decide (k3_1 < 3)) (
 ck (IX k3_1 3) <|
 ck ((!(decide ((sel3 t.u0 t.u1 t.u2 k3_1) < 1))) = true → IX k3_1 3) <|
 ck ((!((decide ((sel3 t.u0 t.u1 t.u2 k3_1) < 1)) || (decide ((sel3 t.u0 t.u1 t.u2 k3_1) > 4)))) = true → IX k3_1 3) <|
 ck ((!(((decide ((sel3 t.u0 t.u1 t.u2 k3_1) < 1)) || (decide ((sel3 t.u0 t.u1 t.u2 k3_1) > 4))) || (decide ((sel3 t.w0 t.w1 t.w2 k3_1) < 1)))) = true → IX k3_1 3) <|
 br ((((decide ((sel3 t.u0 t.u1 t.u2 k3_1) < 1)) || (decide ((sel3 t.u0 t.u1 t.u2 k3_1) > 4))) || (decide ((sel3 t.w0 t.w1 t.w2 k3_1) < 1))) || (decide ((sel3 t.w0 t.w1 t.w2 k3_1) > 6))) (
 some (.ret false)) (
 ck (IR (k3_1 + 1)) <|
 some (.next (k3_1 + 1)))) (
 some (.brk k3_1))
noncomputable def R4_May_m (t : Tgt) : Option (Bool) :=
 bd (lp (R4_May_L0 t) 0) fun o2 => o2.on (fun k3_1 =>
 some ((decide (t.regs > 0)) && (decide (t.regs ≤ 128)))) (fun r => some r)
noncomputable def loop_in_m (n_ from_ below : Int) : Option (Bool) :=
 some ((decide (n_ ≥ from_)) && (decide (n_ < below)))
noncomputable def loop_Uses_m (s : Stm) : Option (List Rf) :=
 br (s.op == 4) (
 some [s.a]) (
 br (decide (s.op > 10)) (
 some [s.a, s.b]) (
 some []))
noncomputable def loop_ref_m (l : Lp) (k_ : Int) (r_ : Rf) : Option (Bool) :=
 br (r_.bk == 0) (
 bd (loop_in_m r_.bk 0 4) fun x5 =>
 bdG (x5) (loop_in_m r_.st 0 k_) fun x8 =>
 some (x5 && x8)) (
 bd (loop_in_m r_.bk 0 4) fun x12 =>
 bdG (x12) (loop_in_m r_.st 0 (ln l.body)) fun x15 =>
 some (x12 && x15))
noncomputable def loop_stmt_L0 (l : Lp) (k_ : Int) (x17 : List Rf) : Int → Option (Stp (Int) (Bool)) := fun x49_1 =>
 br (decide (x49_1 < (ln x17))) (
 ck (IX x49_1 (ln x17)) <|
 bd (loop_ref_m l k_ (ele x17 x49_1)) fun x33 =>
 br (!x33) (
 some (.ret false)) (
 ck (IR (x49_1 + 1)) <|
 some (.next (x49_1 + 1)))) (
 some (.brk x49_1))
noncomputable def loop_stmt_m (l : Lp) (k_ : Int) : Option (Bool) :=
 ck (IX k_ (ln l.body)) <|
 bd (loop_in_m ((ele l.body k_).ar) 0 (ln l.logs)) fun x8 =>
 bdG (x8) (loop_in_m ((ele l.body k_).sp) (-64) 65) fun x11 =>
 bdG (x8 && x11) (loop_in_m ((ele l.body k_).pl) (-64) 65) fun x14 =>
 bd (loop_Uses_m (Stm.mk ((ele l.body k_).op) ((ele l.body k_).a) ((ele l.body k_).b) ((ele l.body k_).ar) ((ele l.body k_).sp) ((ele l.body k_).pl) ((ele l.body k_).n))) fun x17 =>
 bd (lp (loop_stmt_L0 l k_ x17) 0) fun o21 => o21.on (fun x49_1 =>
 br ((ele l.body k_).op == 1) (
 some ((((((ele l.body k_).ar == 0) && ((ele l.body k_).sp == 0)) && ((ele l.body k_).pl == 0)) && ([((ele l.body k_).a).st, ((ele l.body k_).a).bk] == [0, 0])) && ([((ele l.body k_).b).st, ((ele l.body k_).b).bk] == [0, 0]))) (
 br ((ele l.body k_).n != 0) (
 some false) (
 br ((ele l.body k_).op == 2) (
 some ((((((ele l.body k_).ar == 0) && ((ele l.body k_).sp == 0)) && ((ele l.body k_).pl == 0)) && ([((ele l.body k_).a).st, ((ele l.body k_).a).bk] == [0, 0])) && ([((ele l.body k_).b).st, ((ele l.body k_).b).bk] == [0, 0]))) (
 br ((ele l.body k_).op == 3) (
 some ((((x8 && x11) && x14) && ([((ele l.body k_).a).st, ((ele l.body k_).a).bk] == [0, 0])) && ([((ele l.body k_).b).st, ((ele l.body k_).b).bk] == [0, 0]))) (
 br ((ele l.body k_).op == 4) (
 some (((x8 && x11) && x14) && ([((ele l.body k_).b).st, ((ele l.body k_).b).bk] == [0, 0]))) (
 bdG ((((ele l.body k_).ar == 0) && ((ele l.body k_).sp == 0)) && ((ele l.body k_).pl == 0)) (loop_in_m (IntKind.i64.wrap ((ele l.body k_).op - 10)) 1 9) fun x41 =>
 some (((((ele l.body k_).ar == 0) && ((ele l.body k_).sp == 0)) && ((ele l.body k_).pl == 0)) && x41))))))) (fun r => some r)
noncomputable def loop_May_L0 (l : Lp) : Int → Option (Stp (Int) (Bool)) := fun x12_1 =>
 br (decide (x12_1 < (ln l.logs))) (
 ck (IX x12_1 (ln l.logs)) <|
 bd (loop_in_m (ele l.logs x12_1) 0 6) fun x13 =>
 br (!x13) (
 some (.ret false)) (
 ck (IR (x12_1 + 1)) <|
 some (.next (x12_1 + 1)))) (
 some (.brk x12_1))
noncomputable def loop_May_L2 (l : Lp) : (Int × Int) → Option (Stp (Int × Int) (Bool)) := fun (last5_2, x23_2) =>
 br (decide (x23_2 < (ln l.outs))) (
 ck (IX x23_2 (ln l.outs)) <|
 ck (IR (last5_2 + 1)) <|
 bd (loop_in_m (ele l.outs x23_2) (last5_2 + 1) (ln l.body)) fun x20 =>
 br (!x20) (
 some (.ret false)) (
 ck (IR (x23_2 + 1)) <|
 some (.next ((ele l.outs x23_2), (x23_2 + 1))))) (
 some (.brk (last5_2, x23_2)))
noncomputable def loop_May_L4 (l : Lp) : Int → Option (Stp (Int) (Bool)) := fun x40_3 =>
 br (decide (x40_3 < (ln l.body))) (
 bdG (!(decide ((ln l.body) > 16))) (loop_stmt_m l x40_3) fun x19 =>
 br ((decide ((ln l.body) > 16)) || (!x19)) (
 some (.ret false)) (
 ck (IR (x40_3 + 1)) <|
 some (.next (x40_3 + 1)))) (
 some (.brk x40_3))
noncomputable def loop_May_m (l : Lp) : Option (Bool) :=
 bd (lp (loop_May_L0 l) 0) fun o2 => o2.on (fun x12_1 =>
 bd (lp (loop_May_L2 l) ((-1), 0)) fun o7 => o7.on (fun (last5_2, x23_2) =>
 bd (lp (loop_May_L4 l) 0) fun o12 => o12.on (fun x40_3 =>
 some ((decide ((ln l.logs) ≤ 3)) && (decide ((ln l.body) > 0)))) (fun r => some r)) (fun r => some r)) (fun r => some r)
noncomputable def R2_Within_m (n_ least most : Int) : Option (Bool) :=
 some ((decide (n_ ≥ least)) && (decide (n_ ≤ most)))
noncomputable def R2_Uses_m (s : Stm) : Option (List Rf) :=
 br (s.op == 4) (
 some [s.a]) (
 br (decide (s.op > 10)) (
 some [s.a, s.b]) (
 some []))
noncomputable def R2_stmt_L0 (l : Lp) (k_ : Int) (x7 : List Rf) : Int → Option (Stp (Int) (Bool)) := fun i7_1 =>
 br (decide (i7_1 < (ln x7))) (
 ck (IR ((ln l.body) - 1)) <|
 ck (IX i7_1 (ln x7)) <|
 br ((ele x7 i7_1).bk == 0) (
 ck (IR (k_ - 1)) <|
 ck (IX i7_1 (ln x7)) <|
 bd (R2_Within_m ((ele x7 i7_1).bk) 0 3) fun x32 =>
 ck ((!(!x32)) = true → IX i7_1 (ln x7)) <|
 bdG (!(!x32)) (R2_Within_m ((ele x7 i7_1).st) 0 (k_ - 1)) fun x39 =>
 br ((!x32) || (!x39)) (
 some (.ret false)) (
 ck (IR (i7_1 + 1)) <|
 some (.next (i7_1 + 1)))) (
 ck (IX i7_1 (ln x7)) <|
 bd (R2_Within_m ((ele x7 i7_1).bk) 0 3) fun x52 =>
 ck ((!(!x52)) = true → IX i7_1 (ln x7)) <|
 bdG (!(!x52)) (R2_Within_m ((ele x7 i7_1).st) 0 ((ln l.body) - 1)) fun x59 =>
 br ((!x52) || (!x59)) (
 some (.ret false)) (
 ck (IR (i7_1 + 1)) <|
 some (.next (i7_1 + 1))))) (
 some (.brk i7_1))
noncomputable def R2_stmt_m (l : Lp) (k_ : Int) : Option (Bool) :=
 ck (IX k_ (ln l.body)) <|
 bd (R2_Uses_m (Stm.mk ((ele l.body k_).op) ((ele l.body k_).a) ((ele l.body k_).b) ((ele l.body k_).ar) ((ele l.body k_).sp) ((ele l.body k_).pl) ((ele l.body k_).n))) fun x7 =>
 bd (lp (R2_stmt_L0 l k_ x7) 0) fun o11 => o11.on (fun i7_1 =>
 br (((decide ((ln x7) < 2)) && ((((ele l.body k_).b).st != 0) || (((ele l.body k_).b).bk != 0))) || ((decide ((ln x7) < 1)) && ((((ele l.body k_).a).st != 0) || (((ele l.body k_).a).bk != 0)))) (
 some false) (
 br (((ele l.body k_).op != 1) && ((ele l.body k_).n != 0)) (
 some false) (
 br (((ele l.body k_).op == 3) || ((ele l.body k_).op == 4)) (
 ck (IR ((ln l.logs) - 1)) <|
 bd (R2_Within_m ((ele l.body k_).ar) 0 ((ln l.logs) - 1)) fun x26 =>
 bdG (x26) (R2_Within_m ((ele l.body k_).sp) (-64) 64) fun x29 =>
 bdG (x26 && x29) (R2_Within_m ((ele l.body k_).pl) (-64) 64) fun x32 =>
 some ((x26 && x29) && x32)) (
 br ((((ele l.body k_).ar != 0) || ((ele l.body k_).sp != 0)) || ((ele l.body k_).pl != 0)) (
 some false) (
 bdG (!(((ele l.body k_).op == 1) || ((ele l.body k_).op == 2))) (R2_Within_m ((ele l.body k_).op) 11 18) fun x39 =>
 some ((((ele l.body k_).op == 1) || ((ele l.body k_).op == 2)) || x39)))))) (fun r => some r)
noncomputable def R2_May_L0 (l : Lp) : Int → Option (Stp (Int) (Bool)) := fun i4_1 =>
 br (decide (i4_1 < (ln l.logs))) (
 ck (IX i4_1 (ln l.logs)) <|
 bd (R2_Within_m (ele l.logs i4_1) 0 5) fun x16 =>
 br (!x16) (
 some (.ret false)) (
 ck (IR (i4_1 + 1)) <|
 some (.next (i4_1 + 1)))) (
 some (.brk i4_1))
noncomputable def R2_May_L2 (l : Lp) : Int → Option (Stp (Int) (Bool)) := fun i5_2 =>
 br (decide (i5_2 < (ln l.outs))) (
 ck (IX i5_2 (ln l.outs)) <|
 ck (IR ((ln l.body) - 1)) <|
 bd (R2_Within_m (ele l.outs i5_2) 0 ((ln l.body) - 1)) fun x23 =>
 ck ((!(!x23) && (decide (i5_2 > 0))) = true → IX i5_2 (ln l.outs)) <|
 ck ((!(!x23) && (decide (i5_2 > 0))) = true → IR (i5_2 - 1)) <|
 ck ((!(!x23) && (decide (i5_2 > 0))) = true → IX (i5_2 - 1) (ln l.outs)) <|
 br ((!x23) || ((decide (i5_2 > 0)) && (decide ((ele l.outs i5_2) ≤ (ele l.outs (i5_2 - 1)))))) (
 some (.ret false)) (
 ck (IR (i5_2 + 1)) <|
 some (.next (i5_2 + 1)))) (
 some (.brk i5_2))
noncomputable def R2_May_L4 (l : Lp) : Int → Option (Stp (Int) (Bool)) := fun k6_3 =>
 br (decide (k6_3 < (ln l.body))) (
 bd (R2_stmt_m l k6_3) fun x22 =>
 br (!x22) (
 some (.ret false)) (
 ck (IR (k6_3 + 1)) <|
 some (.next (k6_3 + 1)))) (
 some (.brk k6_3))
noncomputable def R2_May_m (l : Lp) : Option (Bool) :=
 br (((decide ((ln l.logs) > 3)) || (decide ((ln l.body) < 1))) || (decide ((ln l.body) > 16))) (
 some false) (
 bd (lp (R2_May_L0 l) 0) fun o5 => o5.on (fun i4_1 =>
 bd (lp (R2_May_L2 l) 0) fun o10 => o10.on (fun i5_2 =>
 bd (lp (R2_May_L4 l) 0) fun o15 => o15.on (fun k6_3 =>
 some true) (fun r => some r)) (fun r => some r)) (fun r => some r))
end Go.Rd
end
section
namespace Go.Rd
open Go.RowKit Go.ChangeShapes Go.WideShapes Go.ChangeAt
section
variable {H : Type} {enc : TypeId × Value → H} {P : Program} {w : World} {base : Nat} {spare : Nat → Bool} {held : Bool}
theorem struct_at {fuel : Nat} {t : TypeId} {fs : Array Field} {cs : List Value} {x : DataW H × List MemPlace} {l : List (TypeId × Nat)} (ht : P.underlying t = some (.struct fs)) (hl : fs.toList.map (fun f => (f.type, f.offset)) = l)
  (h : DataW.trod enc P w base spare held fuel t cs = some x) (t1 : TypeId) (o : Nat) (hm : (t1, o) ∈ l) : ∃ fuel' y, DataW.trod enc P w base spare held fuel' t1 ((cs.drop o).take (P.cellsOf t1)) = some y := by
 subst hl
 obtain ⟨f, hf, he⟩ := List.mem_map.1 hm
 simp only [Prod.mk.injEq] at he
 obtain ⟨rfl, rfl⟩ := he
 exact (trod_struct ht h).2 f hf
theorem ints_arg {fuel : Nat} {t e : TypeId} {v : Value} {x : DataW H × List MemPlace} (ht : P.underlying t = some (.slice e)) (he : flatT P 6 e = true) (hsz : P.cellsOf e = 1) (hx : DataW.trod enc P w base spare held fuel t [v] = some x) :
  ∃ xs : List Int, Arr w v 1 (xs.map icell) ∧ (∀ u ∈ xs, InR u) ∧ xs.length ≤ maxLen :=
 slice_list icell InR ht hsz hx fun fuel' es y h => by
  obtain ⟨ns, rfl, hl, hr⟩ := trod_flat he h
  rw [hsz] at hl
  match ns, hl with
  | [n], _ => exact ⟨n, rfl, hr n (by simp)⟩
theorem one_slice {fuel : Nat} {t e : TypeId} {cs : List Value} {x : DataW H × List MemPlace} (ht : P.underlying t = some (.slice e)) (hx : DataW.trod enc P w base spare held fuel t cs = some x) : ∃ v, cs = [v] := by
 rcases trod_slice ht hx with h | ⟨a, len, cap, f, h, _⟩
 ·exact ⟨_, h⟩
 ·exact ⟨_, h⟩
theorem rows_arg {fuel : Nat} {t e i : TypeId} {v : Value} {x : DataW H × List MemPlace} (ht : P.underlying t = some (.slice e)) (he : P.underlying e = some (.slice i)) (hi : flatT P 6 i = true) (hs1 : P.cellsOf e = 1) (hs2 : P.cellsOf i = 1)
  (hx : DataW.trod enc P w base spare held fuel t [v] = some x) : ∃ B, RowsRep w v B := by
 obtain ⟨B, h1, h2, h3⟩ := slice_list (α := Value × List Int) vcell (fun p => Arr w p.1 1 (p.2.map icell) ∧ (∀ x ∈ p.2, InR x) ∧ p.2.length ≤ maxLen) ht hs1 hx fun fuel' es y h => by
  obtain ⟨u, rfl⟩ := one_slice he h
  obtain ⟨xs, a, b, c⟩ := ints_arg he hi hs2 h
  exact ⟨(u, xs), rfl, a, b, c⟩
 exact ⟨B, h1, fun p hp => (h2 p hp).1, fun p hp => (h2 p hp).2.1, fun p hp => (h2 p hp).2.2, h3⟩
end
end Go.Rd
end
section
namespace Go.Rd
open Go.RowKit Go.ChangeShapes Go.WideShapes Go.ChangeAt
section
variable {H : Type} {enc : TypeId × Value → H} {P : Program} {w : World} {base : Nat} {spare : Nat → Bool} {held : Bool}
def Opr.InRo (o : Opr) : Prop := ∀ x ∈ [o.slot, o.stage, o.op, o.dest, o.a, o.b, o.ar, o.sp, o.pl, o.n], InR x
theorem oprs_arg {fuel : Nat} {t e : TypeId} {v : Value} {x : DataW H × List MemPlace} (ht : P.underlying t = some (.slice e)) (he : flatT P 6 e = true) (hsz : P.cellsOf e = 10) (hx : DataW.trod enc P w base spare held fuel t [v] = some x) :
  ∃ xs : List Opr, Arr w v 10 (xs.map Opr.cells) ∧ (∀ u ∈ xs, u.InRo) ∧ xs.length ≤ maxLen :=
 slice_list Opr.cells Opr.InRo ht hsz hx fun fuel' es y h => by
  obtain ⟨ns, rfl, hl, hr⟩ := trod_flat he h
  rw [hsz] at hl
  match ns, hl with
  | [a, b, c, d, e, f, g, i, j, k], _ => exact ⟨⟨a, b, c, d, e, f, g, i, j, k⟩, rfl, hr⟩
structure KrnRep (w : World) (v : Value) (k : Krn) : Prop where
 ops : Arr w v 10 (k.ops.map Opr.cells)
 pace : InR k.pace
 stages : InR k.stages
 rops : ∀ o ∈ k.ops, o.InRo
 len : k.ops.length ≤ maxLen
theorem int_one {fuel : Nat} {t : TypeId} {cs : List Value} {x : DataW H × List MemPlace} (ht : P.underlying t = some (.int .i64)) (hx : DataW.trod enc P w base spare held fuel t cs = some x) : ∃ n, cs = [.int .i64 n] ∧ InR n := by
 obtain ⟨n, h, _, hw⟩ := DataW.trod_int ht hx
 exact ⟨n, h, wf_i64 hw⟩
theorem krn_arg {fuel : Nat} {t ti t2 e2 : TypeId} {fs : Array Field} {cs : List Value} {x : DataW H × List MemPlace} (ht : P.underlying t = some (.struct fs)) (hl : fs.toList.map (fun f => (f.type, f.offset)) = [(ti, 0), (ti, 1), (t2, 2)])
  (hi : P.underlying ti = some (.int .i64)) (h2 : P.underlying t2 = some (.slice e2)) (hf2 : flatT P 6 e2 = true) (hz : P.cellsOf t = 3 ∧ P.cellsOf ti = 1 ∧ P.cellsOf t2 = 1 ∧ P.cellsOf e2 = 10)
  (hx : DataW.trod enc P w base spare held fuel t cs = some x) : ∃ v k, cs = [.int .i64 k.pace, .int .i64 k.stages, v] ∧ KrnRep w v k := by
 obtain ⟨z0, z1, z2, z3⟩ := hz
 have hlen := (trod_struct ht hx).1
 rw [z0] at hlen
 obtain ⟨_, _, g1⟩ := struct_at ht hl hx ti 0 (by simp)
 obtain ⟨_, _, g2⟩ := struct_at ht hl hx ti 1 (by simp)
 obtain ⟨_, _, g3⟩ := struct_at ht hl hx t2 2 (by simp)
 match cs, hlen with
 | [v1, v2, v3], _ =>
  rw [z1] at g1 g2
  rw [z2] at g3
  obtain ⟨p, hp, rp⟩ := int_one hi g1
  obtain ⟨q, hq, rq⟩ := int_one hi g2
  obtain ⟨ops, a, b, c⟩ := oprs_arg h2 hf2 z3 g3
  simp at hp hq
  subst hp; subst hq
  exact ⟨v3, ⟨p, q, ops⟩, rfl, a, rp, rq, b, c⟩
structure PlnRep (w : World) (v : Value) (k : Pln) : Prop where
 times : Arr w v 1 (k.times.map icell)
 pace : InR k.pace
 rtimes : ∀ o ∈ k.times, InR o
 len : k.times.length ≤ maxLen
structure RowsOk (xss : List (List Int)) : Prop where
 rng : ∀ xs ∈ xss, ∀ x ∈ xs, InR x
 lens : ∀ xs ∈ xss, xs.length ≤ maxLen
 len : xss.length ≤ maxLen
theorem RowsRep.plain {v : Value} {B : List (Value × List Int)} (h : RowsRep w v B) : RowsA w v (B.map (·.2)) ∧ RowsOk (B.map (·.2)) :=
 ⟨⟨B, rfl, h.rows, h.each⟩, fun xs hx => by obtain ⟨p, hp, rfl⟩ := List.mem_map.1 hx; exact h.rng p hp, fun xs hx => by obtain ⟨p, hp, rfl⟩ := List.mem_map.1 hx; exact h.lens p hp, by rw [List.length_map]; exact h.len⟩
end
end Go.Rd
end
section
namespace Go.Rd
theorem tb_t {p : Prop} (h : p) : tb p = true := tb_of h
theorem tb_f {p : Prop} (h : ¬ p) : tb p = false := tb_nof h
def tgtAt (t : Tgt) (i : Nat) : Prop := 1 ≤ sel3 t.u0 t.u1 t.u2 i ∧ sel3 t.u0 t.u1 t.u2 i ≤ 4 ∧ 1 ≤ sel3 t.w0 t.w1 t.w2 i ∧ sel3 t.w0 t.w1 t.w2 i ≤ 6
theorem tgtAt_all (t : Tgt) : (∀ i, i < 3 → tgtAt t i) ↔ ((1 ≤ t.u0 ∧ t.u0 ≤ 4 ∧ 1 ≤ t.w0 ∧ t.w0 ≤ 6) ∧ (1 ≤ t.u1 ∧ t.u1 ≤ 4 ∧ 1 ≤ t.w1 ∧ t.w1 ≤ 6) ∧ (1 ≤ t.u2 ∧ t.u2 ≤ 4 ∧ 1 ≤ t.w2 ∧ t.w2 ≤ 6)) := by
 constructor
 ·intro h
  exact ⟨h 0 (by omega), h 1 (by omega), h 2 (by omega)⟩
 ·rintro ⟨h0, h1, h2⟩ i hi
  match i, hi with
  | 0, _ => exact h0
  | 1, _ => exact h1
  | 2, _ => exact h2
theorem tgt_step (t : Tgt) (i : Nat) (hi : i < 3) (f : Int → Option (Stp Int Bool)) (hf : f i = br (decide ((i : Int) < 3)) (
  ck (IX (i : Int) 3) <| ck ((!(decide ((sel3 t.u0 t.u1 t.u2 i) < 1))) = true → IX (i : Int) 3) <| ck ((!((decide ((sel3 t.u0 t.u1 t.u2 i) < 1)) || (decide ((sel3 t.u0 t.u1 t.u2 i) > 4)))) = true → IX (i : Int) 3) <|
  ck ((!(((decide ((sel3 t.u0 t.u1 t.u2 i) < 1)) || (decide ((sel3 t.u0 t.u1 t.u2 i) > 4))) || (decide ((sel3 t.w0 t.w1 t.w2 i) < 1)))) = true → IX (i : Int) 3) <|
  br ((((decide ((sel3 t.u0 t.u1 t.u2 i) < 1)) || (decide ((sel3 t.u0 t.u1 t.u2 i) > 4))) || (decide ((sel3 t.w0 t.w1 t.w2 i) < 1))) || (decide ((sel3 t.w0 t.w1 t.w2 i) > 6))) (some (.ret false)) (ck (IR ((i : Int) + 1)) <| some (.next ((i : Int) + 1)))) (some (.brk (i : Int)))) :
  (tgtAt t i → f i = some (.next ((i : Int) + 1))) ∧ (¬ tgtAt t i → f i = some (.ret false)) := by
 have hix : IX (i : Int) 3 := ⟨by omega, by omega⟩
 rw [hf, br_T (by omega), ck_yes hix, ck_imp (fun _ => hix), ck_imp (fun _ => hix), ck_imp (fun _ => hix), ck_IR (by omega) (by omega)]
 unfold tgtAt
 constructor
 ·intro h
  have : ((((decide ((sel3 t.u0 t.u1 t.u2 i) < 1)) || (decide ((sel3 t.u0 t.u1 t.u2 i) > 4))) || (decide ((sel3 t.w0 t.w1 t.w2 i) < 1))) || (decide ((sel3 t.w0 t.w1 t.w2 i) > 6))) = false := by
   simp only [Bool.or_eq_false_iff, decide_eq_false_iff_not]; omega
  rw [this]; rfl
 ·intro h
  have : ((((decide ((sel3 t.u0 t.u1 t.u2 i) < 1)) || (decide ((sel3 t.u0 t.u1 t.u2 i) > 4))) || (decide ((sel3 t.w0 t.w1 t.w2 i) < 1))) || (decide ((sel3 t.w0 t.w1 t.w2 i) > 6))) = true := by
   simp only [Bool.or_eq_true, decide_eq_true_eq]; omega
  rw [this]; rfl
theorem target_May_s (t : Tgt) : target_May_m t = some (tgtOk t) := by
 unfold target_May_m
 have ha := tgtAt_all t
 rcases lp_all (f := target_May_L0 t) (n := 3) (p := tgtAt t) (fun i hi _ => tgt_step t i hi _ rfl) (by unfold target_May_L0; exact br_F (by omega)) with ⟨h, e⟩ | ⟨h, e⟩
 ·rw [e, bd_ret, Out.on_go]
  congr 1
  rw [ha] at h
  unfold tgtOk
  rw [← Bool.decide_and]
  exact decide_eq_decide.2 ⟨fun h' => ⟨h.1, h.2.1, h.2.2, h'⟩, fun h' => h'.2.2.2⟩
 ·rw [e, bd_ret, Out.on_ret]
  congr 1
  rw [ha] at h
  exact (tgtOk_not.2 fun h' => h ⟨h'.1, h'.2.1, h'.2.2.1⟩).symm
theorem ref_tMay_s (t : Tgt) : R4_May_m t = some (tgtOk t) := by
 unfold R4_May_m
 have ha := tgtAt_all t
 rcases lp_all (f := R4_May_L0 t) (n := 3) (p := tgtAt t) (fun i hi _ => tgt_step t i hi _ rfl) (by unfold R4_May_L0; exact br_F (by omega)) with ⟨h, e⟩ | ⟨h, e⟩
 ·rw [e, bd_ret, Out.on_go]
  congr 1
  rw [ha] at h
  unfold tgtOk
  rw [← Bool.decide_and]
  exact decide_eq_decide.2 ⟨fun h' => ⟨h.1, h.2.1, h.2.2, h'⟩, fun h' => h'.2.2.2⟩
 ·rw [e, bd_ret, Out.on_ret]
  congr 1
  rw [ha] at h
  exact (tgtOk_not.2 fun h' => h ⟨h'.1, h'.2.1, h'.2.2.1⟩).symm
theorem Uses_s (s : Stm) : loop_Uses_m s = some (usesL s) := by
 unfold loop_Uses_m usesL
 simp only [br_eq, beq_iff_eq, decide_eq_true_eq]
 (repeat' split) <;> rfl
theorem ref_Uses_s (s : Stm) : R2_Uses_m s = some (usesL s) := by
 unfold R2_Uses_m usesL
 simp only [br_eq, beq_iff_eq, decide_eq_true_eq]
 (repeat' split) <;> rfl
theorem ref_s (l : Lp) (k : Int) (r : Rf) : loop_ref_m l k r = some (tb (RefOk l.body.length k r)) := by
 unfold loop_ref_m loop_in_m bdG
 simp only [bd_ret, br_eq, beq_iff_eq]
 by_cases h0 : r.bk = 0
 ·rw [if_pos h0, h0]
  simp only [show ((0 : Int) ≥ 0) from by omega, show ((0 : Int) < 4) from by omega, decide_true, Bool.and_self, if_true, Bool.true_and]
  congr 1
  refine tb_eq ?_
  simp only [Bool.and_eq_true, decide_eq_true_eq]
  unfold RefOk
  omega
 ·rw [if_neg h0]
  by_cases h1 : 0 ≤ r.bk ∧ r.bk < 4
  ·simp only [show r.bk ≥ 0 from h1.1, h1.2, decide_true, Bool.and_self, if_true, Bool.true_and]
   congr 1
   refine tb_eq ?_
   simp only [Bool.and_eq_true, decide_eq_true_eq]
   unfold RefOk ln
   omega
  ·have : (decide (r.bk ≥ 0) && decide (r.bk < 4)) = false := by
    simp only [Bool.and_eq_false_iff, decide_eq_false_iff_not]; omega
   rw [this]
   simp only [Bool.false_eq_true, if_false, Bool.false_and]
   congr 1
   exact (tb_f (by unfold RefOk; omega)).symm
structure Lp.Fine (l : Lp) : Prop where
 rlogs : ∀ x ∈ l.logs, InR x
 rbody : ∀ x ∈ l.body, x.InR
 routs : ∀ x ∈ l.outs, InR x
 llogs : l.logs.length ≤ maxLen
 lbody : l.body.length ≤ maxLen
 louts : l.outs.length ≤ maxLen
theorem maxLen_eq : maxLen = 9223372036854775807 := rfl
theorem zero2 (r : Rf) : ([r.st, r.bk] == [(0 : Int), 0]) = tb r.isZero := by
 refine tb_eq ?_
 simp [Rf.isZero]
theorem stmt_uses (l : Lp) (k : Int) (s : Stm) (hx : l.body.length ≤ maxLen) : (UsesTo l.body.length k (usesL s).length s ∧ lp (loop_stmt_L0 l k (usesL s)) 0 = some (.go ((usesL s).length : Int))) ∨
  (¬ UsesTo l.body.length k (usesL s).length s ∧ lp (loop_stmt_L0 l k (usesL s)) 0 = some (.ret false)) := by
 have hl := usesL_len s
 have := lp_all (f := loop_stmt_L0 l k (usesL s)) (n := (usesL s).length) (p := fun i => RefOk l.body.length k ((usesL s).getD i Rf.zero)) (fun i hi _ => by
  have e : loop_stmt_L0 l k (usesL s) i = br (!tb (RefOk l.body.length k ((usesL s).getD i Rf.zero))) (some (.ret false)) (some (.next ((i : Int) + 1))) := by
   unfold loop_stmt_L0
   rw [br_T (by unfold ln; omega), ck_IX (by omega) (by unfold ln; omega), ref_s, bd_ret, ck_IR (by omega) (by omega)]
   rfl
  constructor
  ·intro h; rw [e, tb_t h]; rfl
  ·intro h; rw [e, tb_f h]; rfl) (by unfold loop_stmt_L0; exact br_F (by unfold ln; omega))
 rcases this with ⟨h, e⟩ | ⟨h, e⟩
 ·exact .inl ⟨fun j hj hj2 => h j hj2, e⟩
 ·exact .inr ⟨fun h' => h fun i hi => h' i (by omega) hi, e⟩
theorem stillB (s : Stm) : ((s.ar == 0 && s.sp == 0) && s.pl == 0) = tb (StillOk s) := by
 refine tb_eq ?_
 simp [StillOk, and_assoc]
theorem wordB (nl : Int) (s : Stm) : (((decide (s.ar ≥ 0) && decide (s.ar < nl)) && (decide (s.sp ≥ -64) && decide (s.sp < 65))) && (decide (s.pl ≥ -64) && decide (s.pl < 65))) = tb (WordOk nl s) := by
 refine tb_eq ?_
 simp only [Bool.and_eq_true, decide_eq_true_eq]
 unfold WordOk
 omega
theorem tb_and {p q : Prop} : (tb p && tb q) = tb (p ∧ q) := by
 refine tb_eq ?_
 rw [Bool.and_eq_true, tb_iff, tb_iff]
theorem stmt_s (l : Lp) (k : Nat) (hk : k < l.body.length) (hf : l.Fine) : loop_stmt_m l k = some (tb (StmtOk l.logs.length l.body.length k (ele l.body k))) := by
 have hR : (ele l.body k).InR := ele_all hf.rbody hk
 have hop := hR.1
 unfold Rd.InR at hop
 have hl := hf.lbody
 rw [maxLen_eq] at hl
 generalize hs : ele l.body k = s at *
 have hs' : (Stm.mk s.op s.a s.b s.ar s.sp s.pl s.n) = s := rfl
 unfold loop_stmt_m
 rw [ck_IX (by omega) (by unfold ln; omega), hs, hs', Uses_s]
 unfold loop_in_m
 simp only [bd_ret, bdG_some']
 rcases stmt_uses l k s hf.lbody with ⟨hu, e⟩ | ⟨hu, e⟩
 ·rw [e]
  simp only [bd_ret, Out.on_go]
  rw [tb_congr (stmt_rest (nl := l.logs.length) hu (by omega)), stillB, zero2, zero2]
  have w : ∀ A B C : Bool, ((A && (if A = true then B else false)) && (if (A && (if A = true then B else false)) = true then C else false)) = ((A && B) && C) := by decide
  rw [w, show ln l.logs = (l.logs.length : Int) from rfl, wordB]
  simp only [br_eq, beq_iff_eq, bne_iff_ne]
  by_cases h1 : s.op = 1
  ·rw [if_pos h1, tb_congr (rest_1 h1), tb_and, tb_and, tb_congr (and_assoc)]
  ·rw [if_neg h1]
   by_cases hn : s.n = 0
   ·rw [if_neg (by simpa using hn)]
    by_cases h2 : s.op = 2
    ·rw [if_pos h2, tb_congr (rest_2 h2 hn), tb_and, tb_and, tb_congr (and_assoc)]
    ·rw [if_neg h2]
     by_cases h3 : s.op = 3
     ·rw [if_pos h3, tb_congr (rest_3 h3 hn), tb_and, tb_and, tb_congr (and_assoc)]
     ·rw [if_neg h3]
      by_cases h4 : s.op = 4
      ·rw [if_pos h4, tb_congr (rest_4 h4 hn), tb_and]
      ·rw [if_neg h4, tb_congr (rest_5 h1 h2 h3 h4 hn)]
       have ho := op_sub10 hop
       have e1 : (decide (IntKind.i64.wrap (s.op - 10) ≥ 1) && decide (IntKind.i64.wrap (s.op - 10) < 9)) = tb (11 ≤ s.op ∧ s.op ≤ 18) := by
        refine tb_eq ?_
        rw [Bool.and_eq_true, decide_eq_true_eq, decide_eq_true_eq]
        exact ho
       rw [e1]
       by_cases hst : StillOk s
       ·rw [tb_t hst, if_pos rfl, Bool.true_and]
        congr 1
        exact tb_congr ⟨fun h => ⟨hst, h⟩, fun h => h.2⟩
       ·rw [tb_f hst, Bool.false_and]
        congr 1
        exact (tb_f fun h => hst h.1).symm
   ·rw [if_pos (by simpa using hn)]
    congr 1
    exact (tb_f (rest_n h1 hn)).symm
 ·rw [e]
  simp only [bd_ret, Out.on_ret]
  congr 1
  refine (tb_f fun h => hu fun j hj hj2 => ?_).symm
  exact (uses_all.2 ⟨h.1, h.2.1⟩) j hj2
def LogAt (l : Lp) (j : Nat) : Prop := 0 ≤ l.logs.getD j 0 ∧ l.logs.getD j 0 ≤ 5
theorem logs_to {l : Lp} : LogsTo l l.logs.length ↔ ∀ i, i < l.logs.length → LogAt l i := ⟨fun h i hi => h i (by omega), fun h j hj => h j (by omega)⟩
def BodyAt (l : Lp) (j : Nat) : Prop := StmtOk l.logs.length l.body.length j (l.body.getD j Stm.zero)
theorem body_to {l : Lp} : BodyTo l l.body.length ↔ ∀ i, i < l.body.length → BodyAt l i := ⟨fun h i hi => h i (by omega), fun h j hj => h j (by omega)⟩
theorem ele_int (l : List Int) (i : Nat) : ele l (i : Int) = l.getD i 0 := rfl
theorem ele_stm (l : List Stm) (i : Nat) : ele l (i : Int) = l.getD i Stm.zero := rfl
theorem logs_s (l : Lp) (hf : l.Fine) : (LogsTo l l.logs.length ∧ lp (loop_May_L0 l) 0 = some (.go (l.logs.length : Int))) ∨ (¬ LogsTo l l.logs.length ∧ lp (loop_May_L0 l) 0 = some (.ret false)) := by
 have hl := hf.llogs
 rw [maxLen_eq] at hl
 rw [logs_to]
 refine lp_all (fun i hi _ => ?_) (by unfold loop_May_L0; exact br_F (by unfold ln; omega))
 have e : loop_May_L0 l i = br (!(decide (l.logs.getD i 0 ≥ 0) && decide (l.logs.getD i 0 < 6))) (some (.ret false)) (some (.next ((i : Int) + 1))) := by
  unfold loop_May_L0 loop_in_m
  rw [br_T (by unfold ln; omega), ck_IX (by omega) (by unfold ln; omega), bd_ret, ck_IR (by omega) (by omega)]
  rfl
 rw [e]
 constructor
 ·intro h
  rw [show (decide (l.logs.getD i 0 ≥ 0) && decide (l.logs.getD i 0 < 6)) = true from by simp only [Bool.and_eq_true, decide_eq_true_eq]; unfold LogAt at h; omega]; rfl
 ·intro h
  rw [show (decide (l.logs.getD i 0 ≥ 0) && decide (l.logs.getD i 0 < 6)) = false from by simp only [Bool.and_eq_false_iff, decide_eq_false_iff_not]; unfold LogAt at h; omega]; rfl
theorem outs_s (l : Lp) (hf : l.Fine) : ∀ (m i : Nat), i + m = l.outs.length → OutsTo l i →
  (OutsTo l l.outs.length ∧ ∃ x, lp (loop_May_L2 l) (lastOut l i, i) = some (.go (x, (l.outs.length : Int)))) ∨ (¬ OutsTo l l.outs.length ∧ lp (loop_May_L2 l) (lastOut l i, i) = some (.ret false))
 | 0, i, h, hp => by
  have hi : i = l.outs.length := by omega
  subst hi
  exact .inl ⟨hp, _, lp_brk (by unfold loop_May_L2; exact br_F (by unfold ln; omega))⟩
 | m + 1, i, h, hp => by
  have hl := hf.louts
  have hb := hf.lbody
  rw [maxLen_eq] at hl hb
  have hlo := lastOut_bd (by omega) hp
  have hst := out_step (l := l) (i := i) (by omega) hp
  rw [Int.toNat_natCast] at hst
  have e : loop_May_L2 l (lastOut l i, i) = br (!(decide (l.outs.getD i 0 ≥ lastOut l i + 1) && decide (l.outs.getD i 0 < l.body.length))) (some (.ret false)) (some (.next (l.outs.getD i 0, (i : Int) + 1))) := by
   unfold loop_May_L2 loop_in_m
   simp only
   rw [br_T (by unfold ln; omega), ck_IX (by omega) (by unfold ln; omega), ck_IR (by omega) (by omega), bd_ret, ck_IR (by omega) (by omega)]
   rfl
  by_cases hc : lastOut l i + 1 ≤ l.outs.getD i 0 ∧ l.outs.getD i 0 < l.body.length
  ·have hc' : (decide (l.outs.getD i 0 ≥ lastOut l i + 1) && decide (l.outs.getD i 0 < l.body.length)) = true := by simp only [Bool.and_eq_true, decide_eq_true_eq]; exact hc
   rw [hc', Bool.not_true, br_false] at e
   have hnext : OutsTo l ((i : Int) + 1) := to_next hp (by omega) (by rw [Int.toNat_natCast]; exact hst.1 hc)
   have hn := lastOut_next (l := l) (i := i) (by omega)
   rw [Int.toNat_natCast] at hn
   have ih := outs_s l hf m (i + 1) (by omega) hnext
   rw [show ((i + 1 : Nat) : Int) = (i : Int) + 1 from rfl, hn] at ih
   rcases ih with ⟨a, x, b⟩ | ⟨a, b⟩
   ·exact .inl ⟨a, x, (lp_next e).trans b⟩
   ·exact .inr ⟨a, (lp_next e).trans b⟩
  ·have hc' : (decide (l.outs.getD i 0 ≥ lastOut l i + 1) && decide (l.outs.getD i 0 < l.body.length)) = false := by simp only [Bool.and_eq_false_iff, decide_eq_false_iff_not]; omega
   rw [hc', Bool.not_false, br_true] at e
   exact .inr ⟨fun h' => hc (hst.2 (h' i (by omega))), lp_ret e⟩
theorem body_s (l : Lp) (hf : l.Fine) (hle : l.body.length ≤ 16) : (BodyTo l l.body.length ∧ lp (loop_May_L4 l) 0 = some (.go (l.body.length : Int))) ∨ (¬ BodyTo l l.body.length ∧ lp (loop_May_L4 l) 0 = some (.ret false)) := by
 rw [body_to]
 refine lp_all (fun i hi _ => ?_) (by unfold loop_May_L4; exact br_F (by unfold ln; omega))
 have e : loop_May_L4 l i = br (!tb (BodyAt l i)) (some (.ret false)) (some (.next ((i : Int) + 1))) := by
  have h16 : ¬ ln l.body > 16 := by unfold ln; omega
  unfold loop_May_L4
  rw [br_T (by unfold ln; omega), stmt_s l i hi hf, decide_eq_false h16, ck_IR (by omega) (by omega), ele_stm]
  simp only [Bool.not_false, bdG_t, bd_ret, Bool.false_or, BodyAt]
 rw [e]
 exact ⟨fun h => by rw [tb_t h]; rfl, fun h => by rw [tb_f h]; rfl⟩
theorem May_s (l : Lp) (hf : l.Fine) : loop_May_m l = some (tb (LoopOk l)) := by
 unfold loop_May_m
 rcases logs_s l hf with ⟨h1, e1⟩ | ⟨h1, e1⟩
 ·rw [e1, bd_ret, Out.on_go]
  have h0 := outs_s l hf l.outs.length 0 (by omega) (to_zero)
  rw [show lastOut l ((0 : Nat) : Int) = -1 from rfl] at h0
  rcases h0 with ⟨h2, x, e2⟩ | ⟨h2, e2⟩
  ·rw [show ((-1 : Int), (0 : Int)) = (-1, ((0 : Nat) : Int)) from rfl, e2, bd_ret, Out.on_go]
   simp only
   by_cases h16 : l.body.length ≤ 16
   ·rcases body_s l hf h16 with ⟨h3, e3⟩ | ⟨h3, e3⟩
    ·rw [e3, bd_ret, Out.on_go]
     congr 1
     refine tb_eq ?_
     simp only [Bool.and_eq_true, decide_eq_true_eq]
     unfold ln
     exact ⟨fun h => ⟨by omega, by omega, h16, h1, h2, h3⟩, fun h => ⟨by have := h.1; omega, by have := h.2.1; omega⟩⟩
    ·rw [e3, bd_ret, Out.on_ret]
     congr 1
     exact (tb_f fun h => h3 h.2.2.2.2.2).symm
   ·have : loop_May_L4 l 0 = some (.ret false) := by
     unfold loop_May_L4
     rw [br_T (by unfold ln; omega), show (decide (ln l.body > 16)) = true from decide_eq_true (by unfold ln; omega)]
     rfl
    rw [lp_ret this, bd_ret, Out.on_ret]
    congr 1
    exact (tb_f fun h => h16 h.2.2.1).symm
  ·rw [show ((-1 : Int), (0 : Int)) = (-1, ((0 : Nat) : Int)) from rfl, e2, bd_ret, Out.on_ret]
   congr 1
   exact (tb_f fun h => h2 h.2.2.2.2.1).symm
 ·rw [e1, bd_ret, Out.on_ret]
  congr 1
  exact (tb_f fun h => h1 h.2.2.2.1).symm
theorem ref_uses (l : Lp) (k : Int) (s : Stm) (hx : l.body.length ≤ maxLen) (hk : 0 ≤ k) (hk2 : k ≤ l.body.length) : (UsesTo l.body.length k (usesL s).length s ∧ lp (R2_stmt_L0 l k (usesL s)) 0 = some (.go ((usesL s).length : Int))) ∨
  (¬ UsesTo l.body.length k (usesL s).length s ∧ lp (R2_stmt_L0 l k (usesL s)) 0 = some (.ret false)) := by
 have hl := usesL_len s
 rw [maxLen_eq] at hx
 have := lp_all (f := R2_stmt_L0 l k (usesL s)) (n := (usesL s).length) (p := fun i => RefOk l.body.length k ((usesL s).getD i Rf.zero)) (fun i hi _ => by
  have hix : IX (i : Int) (ln (usesL s)) := ⟨by omega, by unfold ln; omega⟩
  have e : R2_stmt_L0 l k (usesL s) i = br (!tb (RefOk l.body.length k ((usesL s).getD i Rf.zero))) (some (.ret false)) (some (.next ((i : Int) + 1))) := by
   unfold R2_stmt_L0 R2_Within_m
   rw [show ele (usesL s) (i : Int) = (usesL s).getD i Rf.zero from rfl]
   generalize (usesL s).getD i Rf.zero = r
   rw [br_T (by unfold ln; omega), ck_IR (by unfold ln; omega) (by unfold ln; omega), ck_yes hix]
   simp only [bd_ret, bdG_some', Bool.not_not]
   rw [ck_yes hix, ck_imp (fun _ => hix), ck_yes hix, ck_imp (fun _ => hix), ck_IR (by omega) (by omega), ck_IR (by omega) (by omega)]
   have hb : ∀ b : Bool, (!b || !(if b = true then (decide (r.st ≥ 0) && decide (r.st ≤ k - 1)) else false)) = !(b && (decide (r.st ≥ 0) && decide (r.st ≤ k - 1))) := fun b => by cases b <;> simp
   have hb2 : ∀ b : Bool, (!b || !(if b = true then (decide (r.st ≥ 0) && decide (r.st ≤ ln l.body - 1)) else false)) = !(b && (decide (r.st ≥ 0) && decide (r.st ≤ ln l.body - 1))) := fun b => by cases b <;> simp
   rw [hb, hb2]
   rw [br_eq]
   simp only [beq_iff_eq]
   have q : ∀ {b : Bool} {p : Prop}, (b = true ↔ p) → br (!b) (some (Stp.ret false)) (some (Stp.next ((i : Int) + 1))) = br (!tb p) (some (.ret false)) (some (.next ((i : Int) + 1))) := fun h => by rw [tb_eq h]
   split
   ·refine q ?_
    simp only [Bool.and_eq_true, decide_eq_true_eq]
    unfold RefOk; omega
   ·refine q ?_
    simp only [Bool.and_eq_true, decide_eq_true_eq]
    unfold RefOk ln; omega
  constructor
  ·intro h; rw [e, tb_t h]; rfl
  ·intro h; rw [e, tb_f h]; rfl) (by unfold R2_stmt_L0; exact br_F (by unfold ln; omega))
 rcases this with ⟨h, e⟩ | ⟨h, e⟩
 ·exact .inl ⟨fun j hj hj2 => h j hj2, e⟩
 ·exact .inr ⟨fun h' => h fun i hi => h' i (by omega) hi, e⟩
theorem zerosB (s : Stm) : ((decide (ln (usesL s) < 2) && ((s.b.st != 0) || (s.b.bk != 0))) || (decide (ln (usesL s) < 1) && ((s.a.st != 0) || (s.a.bk != 0)))) = !tb (Zeros s) := by
 have : (!((decide (ln (usesL s) < 2) && ((s.b.st != 0) || (s.b.bk != 0))) || (decide (ln (usesL s) < 1) && ((s.a.st != 0) || (s.a.bk != 0))))) = tb (Zeros s) := by
  refine tb_eq ?_
  unfold Zeros Rf.isZero ln
  simp only [Bool.not_eq_true', Bool.or_eq_false_iff, Bool.and_eq_false_iff, decide_eq_false_iff_not, bne_eq_false_iff_eq]
  omega
 rw [← this, Bool.not_not]
theorem ref_stmt_s (l : Lp) (k : Nat) (hk : k < l.body.length) (hf : l.Fine) : R2_stmt_m l k = some (tb (StmtOk l.logs.length l.body.length k (ele l.body k))) := by
 have hl := hf.lbody
 have hl2 := hf.llogs
 rw [maxLen_eq] at hl hl2
 generalize hs : ele l.body k = s
 have hs' : (Stm.mk s.op s.a s.b s.ar s.sp s.pl s.n) = s := rfl
 unfold R2_stmt_m
 rw [ck_IX (by omega) (by unfold ln; omega), hs, hs', ref_Uses_s]
 unfold R2_Within_m
 simp only [bd_ret, bdG_some']
 rcases ref_uses l k s hf.lbody (by omega) (by omega) with ⟨hu, e⟩ | ⟨hu, e⟩
 ·rw [e]
  simp only [bd_ret, Out.on_go]
  rw [tb_congr (stmt_rest (nl := l.logs.length) hu (by omega)), zerosB, ck_IR (by unfold ln; omega) (by unfold ln; omega)]
  by_cases hz : Zeros s
  ·rw [tb_t hz, Bool.not_true, br_false]
   by_cases hn : s.op = 1 ∨ s.n = 0
   ·rw [show ((s.op != 1) && (s.n != 0)) = false from by simp; omega, br_false]
    by_cases h34 : s.op = 3 ∨ s.op = 4
    ·rw [show ((s.op == 3) || (s.op == 4)) = true from by simpa using h34, br_true, tb_congr (rest_34 h34 hz (by omega))]
     have w : ∀ A B C : Bool, ((A && (if A = true then B else false)) && (if (A && (if A = true then B else false)) = true then C else false)) = ((A && B) && C) := by decide
     rw [w]
     congr 1
     refine tb_eq ?_
     simp only [Bool.and_eq_true, decide_eq_true_eq]
     unfold WordOk ln; omega
    ·rw [show ((s.op == 3) || (s.op == 4)) = false from by simp; omega, br_false]
     by_cases hst : StillOk s
     ·have hst' := hst
      unfold StillOk at hst'
      rw [show (((s.ar != 0) || (s.sp != 0)) || (s.pl != 0)) = false from by simp [hst'.1, hst'.2.1, hst'.2.2], br_false, tb_congr (rest_end h34 hz hst hn)]
      congr 1
      refine tb_eq ?_
      by_cases h12 : s.op = 1 ∨ s.op = 2
      ·simp [h12]; omega
      ·simp; omega
     ·have hst' := hst
      unfold StillOk at hst'
      rw [show (((s.ar != 0) || (s.sp != 0)) || (s.pl != 0)) = true from by simp; omega, br_true]
      congr 1
      exact (tb_f fun h => hst (rest_still h34 h)).symm
   ·rw [show ((s.op != 1) && (s.n != 0)) = true from by simp; omega, br_true]
    congr 1
    exact (tb_f (rest_n (by omega) (by omega))).symm
  ·rw [tb_f hz, Bool.not_false, br_true]
   congr 1
   exact (tb_f fun h => hz (rest_zero h)).symm
 ·rw [e]
  simp only [bd_ret, Out.on_ret]
  congr 1
  refine (tb_f fun h => hu fun j hj hj2 => ?_).symm
  exact (uses_all.2 ⟨h.1, h.2.1⟩) j hj2
def OutAt (l : Lp) (j : Nat) : Prop := 0 ≤ l.outs.getD j 0 ∧ l.outs.getD j 0 < l.body.length ∧ (∀ m : Nat, j = m + 1 → l.outs.getD m 0 < l.outs.getD j 0)
theorem outs_to {l : Lp} : OutsTo l l.outs.length ↔ ∀ i, i < l.outs.length → OutAt l i := ⟨fun h i hi => h i (by omega), fun h j hj => h j (by omega)⟩
theorem ref_outs (l : Lp) (hf : l.Fine) : (OutsTo l l.outs.length ∧ lp (R2_May_L2 l) 0 = some (.go (l.outs.length : Int))) ∨ (¬ OutsTo l l.outs.length ∧ lp (R2_May_L2 l) 0 = some (.ret false)) := by
 have hl := hf.louts
 have hb := hf.lbody
 rw [maxLen_eq] at hl hb
 rw [outs_to]
 refine lp_all (fun i hi _ => ?_) (by unfold R2_May_L2; exact br_F (by unfold ln; omega))
 have hix : IX (i : Int) (ln l.outs) := ⟨by omega, by unfold ln; omega⟩
 have e : R2_May_L2 l i = br (!tb (OutAt l i)) (some (.ret false)) (some (.next ((i : Int) + 1))) := by
  unfold R2_May_L2 R2_Within_m
  rw [br_T (by unfold ln; omega), ck_yes hix, ck_IR (by unfold ln; omega) (by unfold ln; omega), bd_ret, ck_imp (fun _ => hix), ck_imp (fun h => ⟨by omega, by omega⟩), ck_imp (fun h => ⟨by simp at h; omega, by unfold ln; omega⟩), ck_IR (by omega) (by omega)]
  have : ((!(decide (ele l.outs (i : Int) ≥ 0) && decide (ele l.outs (i : Int) ≤ ln l.body - 1))) || (decide ((i : Int) > 0) && decide (ele l.outs (i : Int) ≤ ele l.outs ((i : Int) - 1)))) = !tb (OutAt l i) := by
   have : (!((!(decide (ele l.outs (i : Int) ≥ 0) && decide (ele l.outs (i : Int) ≤ ln l.body - 1))) || (decide ((i : Int) > 0) && decide (ele l.outs (i : Int) ≤ ele l.outs ((i : Int) - 1))))) = tb (OutAt l i) := by
    refine tb_eq ?_
    rw [ele_int]
    unfold OutAt ln
    cases i with
    | zero => simp; omega
    | succ m =>
     have e2 : ((m + 1 : Nat) : Int) - 1 = (m : Int) := by omega
     rw [e2, ele_int]
     simp
     constructor <;> intro h <;> omega
   rw [← this, Bool.not_not]
  rw [this]
 rw [e]
 exact ⟨fun h => by rw [tb_t h]; rfl, fun h => by rw [tb_f h]; rfl⟩
theorem ref_logs (l : Lp) (hf : l.Fine) : (LogsTo l l.logs.length ∧ lp (R2_May_L0 l) 0 = some (.go (l.logs.length : Int))) ∨ (¬ LogsTo l l.logs.length ∧ lp (R2_May_L0 l) 0 = some (.ret false)) := by
 have hl := hf.llogs
 rw [maxLen_eq] at hl
 rw [logs_to]
 refine lp_all (fun i hi _ => ?_) (by unfold R2_May_L0; exact br_F (by unfold ln; omega))
 have e : R2_May_L0 l i = br (!(decide (l.logs.getD i 0 ≥ 0) && decide (l.logs.getD i 0 ≤ 5))) (some (.ret false)) (some (.next ((i : Int) + 1))) := by
  unfold R2_May_L0 R2_Within_m
  rw [br_T (by unfold ln; omega), ck_IX (by omega) (by unfold ln; omega), bd_ret, ck_IR (by omega) (by omega)]
  rfl
 rw [e]
 constructor
 ·intro h
  rw [show (decide (l.logs.getD i 0 ≥ 0) && decide (l.logs.getD i 0 ≤ 5)) = true from by simp only [Bool.and_eq_true, decide_eq_true_eq]; unfold LogAt at h; omega]; rfl
 ·intro h
  rw [show (decide (l.logs.getD i 0 ≥ 0) && decide (l.logs.getD i 0 ≤ 5)) = false from by simp only [Bool.and_eq_false_iff, decide_eq_false_iff_not]; unfold LogAt at h; omega]; rfl
theorem ref_body (l : Lp) (hf : l.Fine) : (BodyTo l l.body.length ∧ lp (R2_May_L4 l) 0 = some (.go (l.body.length : Int))) ∨ (¬ BodyTo l l.body.length ∧ lp (R2_May_L4 l) 0 = some (.ret false)) := by
 have hb := hf.lbody
 rw [maxLen_eq] at hb
 rw [body_to]
 refine lp_all (fun i hi _ => ?_) (by unfold R2_May_L4; exact br_F (by unfold ln; omega))
 have e : R2_May_L4 l i = br (!tb (BodyAt l i)) (some (.ret false)) (some (.next ((i : Int) + 1))) := by
  unfold R2_May_L4
  rw [br_T (by unfold ln; omega), ref_stmt_s l i hi hf, bd_ret, ck_IR (by omega) (by omega)]
  rfl
 rw [e]
 exact ⟨fun h => by rw [tb_t h]; rfl, fun h => by rw [tb_f h]; rfl⟩
theorem ref_May_s (l : Lp) (hf : l.Fine) : R2_May_m l = some (tb (LoopOk l)) := by
 unfold R2_May_m
 by_cases h0 : l.logs.length ≤ 3 ∧ 1 ≤ l.body.length ∧ l.body.length ≤ 16
 ·rw [show ((decide (ln l.logs > 3) || decide (ln l.body < 1)) || decide (ln l.body > 16)) = false from by simp only [Bool.or_eq_false_iff, decide_eq_false_iff_not]; unfold ln; omega, br_false]
  rcases ref_logs l hf with ⟨h1, e1⟩ | ⟨h1, e1⟩
  ·rw [e1, bd_ret, Out.on_go]
   rcases ref_outs l hf with ⟨h2, e2⟩ | ⟨h2, e2⟩
   ·rw [e2, bd_ret, Out.on_go]
    rcases ref_body l hf with ⟨h3, e3⟩ | ⟨h3, e3⟩
    ·rw [e3, bd_ret, Out.on_go]
     congr 1
     exact (tb_t ⟨h0.1, h0.2.1, h0.2.2, h1, h2, h3⟩).symm
    ·rw [e3, bd_ret, Out.on_ret]
     congr 1
     exact (tb_f fun h => h3 h.2.2.2.2.2).symm
   ·rw [e2, bd_ret, Out.on_ret]
    congr 1
    exact (tb_f fun h => h2 h.2.2.2.2.1).symm
  ·rw [e1, bd_ret, Out.on_ret]
   congr 1
   exact (tb_f fun h => h1 h.2.2.2.1).symm
 ·rw [show ((decide (ln l.logs > 3) || decide (ln l.body < 1)) || decide (ln l.body > 16)) = true from by simp only [Bool.or_eq_true, decide_eq_true_eq]; unfold ln; omega, br_true]
  congr 1
  exact (tb_f fun h => h0 ⟨h.1, h.2.1, h.2.2.1⟩).symm
theorem LoopOk.log {l : Lp} (h : LoopOk l) (i : Nat) (hi : i < l.logs.length) : 0 ≤ l.logs.getD i 0 ∧ l.logs.getD i 0 ≤ 5 := h.2.2.2.1 i (by omega)
theorem LoopOk.out {l : Lp} (h : LoopOk l) (i : Nat) (hi : i < l.outs.length) : 0 ≤ l.outs.getD i 0 ∧ l.outs.getD i 0 < l.body.length := ⟨(h.2.2.2.2.1 i (by omega)).1, (h.2.2.2.2.1 i (by omega)).2.1⟩
theorem LoopOk.stm {l : Lp} (h : LoopOk l) (i : Nat) (hi : i < l.body.length) : StmtOk l.logs.length l.body.length i (l.body.getD i Stm.zero) := h.2.2.2.2.2 i (by omega)
theorem neB {a b : Int} : (a != b) = !tb (a = b) := by
 have : (!(a != b)) = tb (a = b) := tb_eq (by simp)
 rw [← this, Bool.not_not]
theorem AL8 {n : Nat} (h : n ≤ 100000) : AL n 8 := ⟨by rw [maxLen_eq]; omega, by omega⟩
theorem AL24 {n : Nat} (h : n ≤ 100000) : AL n 24 := ⟨by rw [maxLen_eq]; omega, by omega⟩
noncomputable def slClm (v_s : Value) (s : List Int) : Option (List Int) :=
 br (isNilS v_s) (
 some []) (
 ck (AL ([] ++ s).length 8) <|
 some ([] ++ s))
noncomputable def R3_Numbers_L0 (a b : List Int) : Int → Option (Stp (Int) (Bool)) := fun i5_1 =>
 br (decide (i5_1 < (ln a))) (
 ck (IX i5_1 (ln a)) <|
 ck (IX i5_1 (ln b)) <|
 br ((ele a i5_1) != (ele b i5_1)) (
 some (.ret false)) (
 ck (IR (i5_1 + 1)) <|
 some (.next (i5_1 + 1)))) (
 some (.brk i5_1))
noncomputable def R3_Numbers_m (a b : List Int) : Option (Bool) :=
 br ((ln a) != (ln b)) (
 some false) (
 bd (lp (R3_Numbers_L0 a b) 0) fun o4 => o4.on (fun i5_1 =>
 some true) (fun r => some r))
noncomputable def seq_Copy_L0 (l : List (List Int)) : ((List (List Int)) × Int) → Option (Stp ((List (List Int)) × Int) (Empty)) := fun (v1_1, x8_1) =>
 br (decide (x8_1 < (ln l))) (
 ck (IX x8_1 (ln l)) <|
 bd (Clone_m (ele l x8_1)) fun x16 =>
 ck (AL (v1_1 ++ [x16]).length 24) <|
 ck (IR (x8_1 + 1)) <|
 some (.next ((v1_1 ++ [x16]), (x8_1 + 1)))) (
 some (.brk (v1_1, x8_1)))
noncomputable def seq_Copy_m (l : List (List Int)) : Option (List (List Int)) :=
 bd (lp (seq_Copy_L0 l) ([], 0)) fun o2 => o2.on (fun (v1_1, x8_1) =>
 some v1_1) (fun r => r.elim)
noncomputable def R3_Words_L0 (a : List (List Int)) (b : List (List Int)) : Int → Option (Stp (Int) (Bool)) := fun i5_1 =>
 br (decide (i5_1 < (ln a))) (
 ck (IX i5_1 (ln a)) <|
 ck (IX i5_1 (ln b)) <|
 bd (R3_Numbers_m (ele a i5_1) (ele b i5_1)) fun x25 =>
 br (!x25) (
 some (.ret false)) (
 ck (IR (i5_1 + 1)) <|
 some (.next (i5_1 + 1)))) (
 some (.brk i5_1))
noncomputable def R3_Words_m (a : List (List Int)) (b : List (List Int)) : Option (Bool) :=
 br ((ln a) != (ln b)) (
 some false) (
 bd (lp (R3_Words_L0 a b) 0) fun o4 => o4.on (fun i5_1 =>
 some true) (fun r => some r))
noncomputable def R3_Copy_L0 (l : List (List Int)) : ((List (List Int)) × Int) → Option (Stp ((List (List Int)) × Int) (Empty)) := fun (v1_1, i4_1) =>
 br (decide (i4_1 < (ln l))) (
 ck (IX i4_1 (ln l)) <|
 ck (AL ([] ++ (ele l i4_1)).length 8) <|
 ck (AL (v1_1 ++ [([] ++ (ele l i4_1))]).length 24) <|
 ck (IR (i4_1 + 1)) <|
 some (.next ((v1_1 ++ [([] ++ (ele l i4_1))]), (i4_1 + 1)))) (
 some (.brk (v1_1, i4_1)))
noncomputable def R3_Copy_m (l : List (List Int)) : Option (List (List Int)) :=
 bd (lp (R3_Copy_L0 l) ([], 0)) fun o2 => o2.on (fun (v1_1, i4_1) =>
 some v1_1) (fun r => r.elim)
def FitsP (l : Lp) (s : Sta) : Prop := LoopOk l ∧ s.bef.length = l.body.length ∧ s.mem.length = l.logs.length ∧ (∀ i, i < s.bef.length → (s.bef.getD i []).length = 3) ∧ (∀ i, i < s.mem.length → ((s.mem.getD i []).length : Int) = 2 ^ (l.logs.getD i 0).toNat)
structure MemOk (l : Lp) (m : List (List Int)) : Prop where
 len : m.length = l.logs.length
 row : ∀ i : Nat, i < m.length → ((m.getD i []).length : Int) = 2 ^ (l.logs.getD i 0).toNat
 rng : ∀ r ∈ m, ∀ x ∈ r, InR x
structure RowOk (l : Lp) (r : List Int) : Prop where
 len : r.length = l.body.length
 rng : ∀ x ∈ r, InR x
theorem ele_rng {r : List Int} (h : ∀ x ∈ r, InR x) (i : Int) : InR (ele r i) := getD_all h (by unfold InR; decide) i.toNat
theorem eles_rng {m : List (List Int)} (h : ∀ r ∈ m, ∀ x ∈ r, InR x) (i j : Int) : InR (ele (ele m i) j) := ele_rng (getD_all (p := fun r : List Int => ∀ x ∈ r, InR x) h (fun x hx => by cases hx) i.toNat) j
theorem mem_upd {α : Type} {l : List α} {i : Int} {z x : α} (h : x ∈ upd l i z) : x ∈ l ∨ x = z := List.mem_or_eq_of_mem_set h
theorem ele_mem {m : List (List Int)} {i x : Int} (h : x ∈ ele m i) : ∃ r ∈ m, x ∈ r := by
 unfold ele at h
 by_cases hi : i.toNat < m.length
 ·rw [List.getD_eq_getElem?_getD, List.getElem?_eq_getElem hi] at h
  exact ⟨_, List.getElem_mem hi, h⟩
 ·rw [List.getD_eq_getElem?_getD, List.getElem?_eq_none (by omega)] at h
  cases h
theorem MemOk.updG {l : Lp} {m : List (List Int)} (h : MemOk l m) (i j z : Int) (hz : InR z) : MemOk l (updG m i j z) := by
 refine ⟨by unfold Rd.updG; rw [upd_length]; exact h.len, fun k hk => ?_, fun r hr x hx => ?_⟩
 ·unfold Rd.updG at hk ⊢
  rw [upd_length] at hk
  rw [getD_upd]
  split
  ·rename_i hh
   rw [upd_length, ele_getD, hh.1]; exact h.row k hk
  ·exact h.row k hk
 ·unfold Rd.updG at hr
  rcases mem_upd hr with hr | rfl
  ·exact h.rng r hr x hx
  ·rcases mem_upd hx with hx | rfl
   ·obtain ⟨r, hr, hx⟩ := ele_mem hx
    exact h.rng r hr x hx
   ·exact hz
theorem opV_rng (op a b : Int) : InR (opV op a b) := opV_bd op a b
theorem idx_lt {step plus t log : Int} (h0 : 0 ≤ log) (h5 : log ≤ 5) : 0 ≤ idx step plus t log ∧ idx step plus t log < 2 ^ log.toNat := by
 have hp := two_pow_5 log.toNat (by omega)
 unfold idx
 split
 ·exact ⟨Int.emod_nonneg _ (by omega), Int.emod_lt_of_pos _ (by omega)⟩
 ·omega
theorem word_ix {l : Lp} (hl : LoopOk l) {m : List (List Int)} (hm : MemOk l m) {s : Stm} (hw : WordOk l.logs.length s) (t : Int) :
  IX s.ar (ln m) ∧ IX s.ar (ln l.logs) ∧ IX (idx s.sp s.pl t (ele l.logs s.ar)) (ln (ele m s.ar)) := by
 have hml := hm.len
 obtain ⟨w1, w2, _⟩ := hw
 have e : ((s.ar.toNat : Nat) : Int) = s.ar := by omega
 have hlg := hl.log s.ar.toNat (by omega)
 have hr := hm.row s.ar.toNat (by omega)
 have hi := idx_lt (step := s.sp) (plus := s.pl) (t := t) hlg.1 hlg.2
 refine ⟨⟨w1, by unfold ln; omega⟩, ⟨w1, by unfold ln; omega⟩, hi.1, ?_⟩
 have : ln (ele m s.ar) = 2 ^ (l.logs.getD s.ar.toNat 0).toNat := hr
 rw [this]
 exact hi.2
theorem Copy_s {m : List (List Int)} (h1 : m.length ≤ 100) (h2 : ∀ r ∈ m, r.length ≤ 100000) : seq_Copy_m m = some m := by
 have e : lp (seq_Copy_L0 m) ([], 0) = some (.go ((List.range m.length).map (fun i : Nat => ele m (i : Int)), (m.length : Int))) := by
  refine lp_build (fun i hi => ?_) ?_
  ·have hr := ele_all (p := fun r : List Int => r.length ≤ 100000) h2 hi
   unfold seq_Copy_L0 Clone_m
   simp only
   rw [br_T (by unfold ln; omega), ck_IX (by omega) (by unfold ln; omega), ck_yes (AL8 hr), bd_ret, ck_yes (AL24 (by simp; omega)), ck_IR (by omega) (by omega)]
  ·unfold seq_Copy_L0
   exact br_F (by unfold ln; omega)
 unfold seq_Copy_m
 rw [e, bd_ret, Out.on_go, range_map]
theorem rCopy_s {m : List (List Int)} (h1 : m.length ≤ 100) (h2 : ∀ r ∈ m, r.length ≤ 100000) : R3_Copy_m m = some m := by
 have e : lp (R3_Copy_L0 m) ([], 0) = some (.go ((List.range m.length).map (fun i : Nat => ele m (i : Int)), (m.length : Int))) := by
  refine lp_build (fun i hi => ?_) ?_
  ·have hr := ele_all (p := fun r : List Int => r.length ≤ 100000) h2 hi
   unfold R3_Copy_L0
   simp only [List.nil_append]
   rw [br_T (by unfold ln; omega), ck_IX (by omega) (by unfold ln; omega), ck_yes (AL8 hr), ck_yes (AL24 (by simp; omega)), ck_IR (by omega) (by omega)]
  ·unfold R3_Copy_L0
   exact br_F (by unfold ln; omega)
 unfold R3_Copy_m
 rw [e, bd_ret, Out.on_go, range_map]
structure StaOk (l : Lp) (s : Sta) : Prop where
 loop : LoopOk l
 len : s.bef.length = l.body.length
 bef : ∀ i : Nat, i < s.bef.length → (s.bef.getD i []).length = 3
 rbef : ∀ r ∈ s.bef, ∀ x ∈ r, InR x
 mem : MemOk l s.mem
theorem FitsP.ok {l : Lp} {s : Sta} (h : FitsP l s) (hb : RowsOk s.bef) (hm : RowsOk s.mem) : StaOk l s := ⟨h.1, h.2.1, h.2.2.2.1, hb.rng, ⟨h.2.2.1, h.2.2.2.2, hm.rng⟩⟩
theorem MemOk.small {l : Lp} (hl : LoopOk l) {m : List (List Int)} (h : MemOk l m) : m.length ≤ 100 ∧ ∀ r ∈ m, r.length ≤ 100000 := by
 have := h.len; have := hl.1
 refine ⟨by omega, fun r hr => ?_⟩
 obtain ⟨i, hi, rfl⟩ := List.getElem_of_mem hr
 have h1 := h.row i hi
 have h2 := hl.log i (by omega)
 have h3 := two_pow_5 (l.logs.getD i 0).toNat (by omega)
 rw [List.getD_eq_getElem?_getD, List.getElem?_eq_getElem hi] at h1
 simp only [Option.getD_some] at h1
 omega
theorem lp_det {γ ρ : Type} {f : γ → Option (Stp γ ρ)} (st : Nat → γ) (n : Nat) (step : ∀ i, i < n → f (st i) = some (.next (st (i + 1)))) (hend : f (st n) = some (.brk (st n))) : lp f (st 0) = some (.go (st n)) := by
 have key : ∀ m i : Nat, i + m = n → lp f (st i) = some (.go (st n)) := by
  intro m
  induction m with
  | zero =>
   intro i hi
   have : i = n := by omega
   subst this
   exact lp_brk hend
  | succ m ih => exact fun i hi => lp_step (step i (by omega)) (ih (i + 1) (by omega))
 exact key n 0 (by omega)
theorem lp_det2 {γ ρ : Type} {f : γ → Option (Stp γ ρ)} (st : Nat → γ) (n : Nat) (p : Nat → Prop) (q : Nat → ρ) (step : ∀ i, i < n → (∀ j, j < i → p j) → (p i → f (st i) = some (.next (st (i + 1)))) ∧ (¬ p i → f (st i) = some (.ret (q i)))) (hend : f (st n) = some (.brk (st n))) :
  ((∀ i, i < n → p i) ∧ lp f (st 0) = some (.go (st n))) ∨ (∃ i, i < n ∧ ¬ p i ∧ (∀ j, j < i → p j) ∧ lp f (st 0) = some (.ret (q i))) := by
 have key : ∀ m i : Nat, i + m = n → (∀ j, j < i → p j) → ((∀ i, i < n → p i) ∧ lp f (st i) = some (.go (st n))) ∨ (∃ k, k < n ∧ ¬ p k ∧ (∀ j, j < k → p j) ∧ lp f (st i) = some (.ret (q k))) := by
  intro m
  induction m with
  | zero =>
   intro i hi hp
   have : i = n := by omega
   subst this
   exact .inl ⟨hp, lp_brk hend⟩
  | succ m ih =>
   intro i hi hp
   obtain ⟨h1, h2⟩ := step i (by omega) hp
   by_cases hpi : p i
   ·have hp' : ∀ j, j < i + 1 → p j := fun j hj => by
     by_cases e : j = i
     ·subst e; exact hpi
     ·exact hp j (by omega)
    rcases ih (i + 1) (by omega) hp' with ⟨a, b⟩ | ⟨k, a, b, c, d⟩
    ·exact .inl ⟨a, lp_step (h1 hpi) b⟩
    ·exact .inr ⟨k, a, b, c, lp_step (h1 hpi) d⟩
   ·exact .inr ⟨i, by omega, hpi, hp, lp_ret (h2 hpi)⟩
 exact key n 0 (by omega) (fun j hj => absurd hj (Nat.not_lt_zero _))
theorem lp_invM {α γ ρ : Type} {f : γ → Option (Stp γ ρ)} (mk : α → Int → γ) {n : Nat} (Inv : Nat → α → Prop) (step : ∀ (i : Nat) g, i < n → Inv i g → ∃ g', f (mk g (i : Int)) = some (.next (mk g' ((i : Int) + 1))) ∧ Inv (i + 1) g') (hend : ∀ g, f (mk g (n : Int)) = some (.brk (mk g (n : Int)))) (g0 : α) (h0 : Inv 0 g0) :
  ∃ g, lp f (mk g0 0) = some (.go (mk g (n : Int))) ∧ Inv n g := by
 have key : ∀ m i : Nat, i + m = n → ∀ g, Inv i g → ∃ g', lp f (mk g (i : Int)) = some (.go (mk g' (n : Int))) ∧ Inv n g' := by
  intro m
  induction m with
  | zero =>
   intro i hi g hg
   have : i = n := by omega
   subst this
   exact ⟨g, lp_brk (hend g), hg⟩
  | succ m ih =>
   intro i hi g hg
   obtain ⟨g', h1, h2⟩ := step i g (by omega) hg
   obtain ⟨g2, h3, h4⟩ := ih (i + 1) (by omega) g' h2
   exact ⟨g2, lp_step h1 h3, h4⟩
 exact key n 0 (by omega) g0 h0
theorem ele_rm {α : Type} [Inhabited α] {n : Nat} {g : Nat → α} {i : Nat} (h : i < n) : ele ((List.range n).map g) (i : Int) = g i := by
 rw [ele_nat, List.getD_eq_getElem?_getD, List.getElem?_map, List.getElem?_range h]; rfl
theorem rm_succ {α : Type} {n : Nat} {g : Nat → α} : (List.range n).map g ++ [g n] = (List.range (n + 1)).map g := by rw [List.range_succ, List.map_append]; rfl
end Go.Rd
end
section
namespace Go.Rd
section
variable {P : Program} {n : Nat} {σ : Env} {M : Nat → Prop} {w0 : World} {H : List Res} {C : World → Prop} {rest l : List Oper} {ops : Array Oper} {Q : Exit → Act → World → Prop} {d id : Nat} {v : Value} {x : Operand} {T U : TypeId} {pos : String} {after : Array Edge} {c : Op} {y : Code}
theorem wq (h : Nat.blt d n = true) (hq : QV P ⟨some d, c, T, pos, after, none⟩ σ (Own M w0 H) v) (kk : WK n (wpList P ops Q rest) ((d, (true, v)) :: σ) (Own M w0 H)) : WK n (wpList P ops Q (⟨some d, c, T, pos, after, none⟩ :: rest)) σ (Own M w0 H) := WL.q rfl rfl h hq kk
theorem wm (h : (Nat.blt d n, σ.ev x) = (true, some (true, v))) (kk : WK n (wpList P ops Q rest) ((d, (true, v)) :: σ) (Own M w0 H)) : WK n (wpList P ops Q (⟨some d, .move x, T, pos, after, none⟩ :: rest)) σ (Own M w0 H) :=
 wq (congrArg Prod.fst h) (QV.move (congrArg Prod.snd h) rfl) kk
theorem wa (h : (Nat.blt d n, σ.ev x) = (true, some (true, v))) (kk : WK n (wpList P ops Q rest) ((d, (true, v)) :: σ) (Own M w0 H)) : WK n (wpList P ops Q (⟨some d, .assign x, T, pos, after, none⟩ :: rest)) σ (Own M w0 H) :=
 wq (congrArg Prod.fst h) (QV.assign (congrArg Prod.snd h) rfl) kk
theorem wf {f off : Nat} {q : Addr} (hT : FieldT P U f off) (h : (Nat.blt d n, σ.ev x) = (true, some (true, .pointer (some q)))) (kk : WK n (wpList P ops Q rest) ((d, (true, .pointer (some (q.add off)))) :: σ) (Own M w0 H)) : WK n (wpList P ops Q (⟨some d, .fieldAddr U x f, T, pos, after, none⟩ :: rest)) σ (Own M w0 H) :=
 wq (congrArg Prod.fst h) (QV.fieldAddr hT (congrArg Prod.snd h) rfl) kk
theorem wl {q : Addr} (hT : Plain P U) (h : (Nat.blt d n, σ.ev x) = (true, some (true, .pointer (some q)))) (hc : ∀ w, Own M w0 H w → w.cell? q = some v) (kk : WK n (wpList P ops Q rest) ((d, (true, v)) :: σ) (Own M w0 H)) : WK n (wpList P ops Q (⟨some d, .load U x, T, pos, after, none⟩ :: rest)) σ (Own M w0 H) :=
 wq (congrArg Prod.fst h) (QV.load hT (congrArg Prod.snd h) rfl hc) kk
theorem wz (i : Nat) {m fuel : Nat} {S : World → Prop} [hQ : POk Q] (hi : ops[i]? = some ⟨some d, c, T, pos, after, none⟩) (hn : Nat.blt d n = true) (hq : QV P ⟨some d, c, T, pos, after, none⟩ σ S v)
  (kk : WD P n ops Q S fuel (upto (i + 1) m) ((d, (true, v)) :: σ) (Own M w0 H)) (ht : takeOk ops i m = true := by kernel_rfl) : WD P n ops Q S (fuel + 1) (upto i m) σ (Own M w0 H) := WD.q i hi ht rfl rfl hn hq kk
theorem zm (i : Nat) {m fuel : Nat} {S : World → Prop} [hQ : POk Q] (hi : ops[i]? = some ⟨some d, .move x, T, pos, after, none⟩) (h : (Nat.blt d n, σ.ev x) = (true, some (true, v)))
  (kk : WD P n ops Q S fuel (upto (i + 1) m) ((d, (true, v)) :: σ) (Own M w0 H)) (ht : takeOk ops i m = true := by kernel_rfl) : WD P n ops Q S (fuel + 1) (upto i m) σ (Own M w0 H) := WD.q i hi ht rfl rfl (congrArg Prod.fst h) (QV.move (congrArg Prod.snd h) rfl) kk
theorem zf (i : Nat) {m fuel f off : Nat} {q : Addr} {S : World → Prop} [hQ : POk Q] (hT : FieldT P U f off) (hi : ops[i]? = some ⟨some d, .fieldAddr U x f, T, pos, after, none⟩) (h : (Nat.blt d n, σ.ev x) = (true, some (true, .pointer (some q))))
  (kk : WD P n ops Q S fuel (upto (i + 1) m) ((d, (true, .pointer (some (q.add off)))) :: σ) (Own M w0 H)) (ht : takeOk ops i m = true := by kernel_rfl) : WD P n ops Q S (fuel + 1) (upto i m) σ (Own M w0 H) := WD.q i hi ht rfl rfl (congrArg Prod.fst h) (QV.fieldAddr hT (congrArg Prod.snd h) rfl) kk
theorem zl (i : Nat) {m fuel : Nat} {q : Addr} {S : World → Prop} [hQ : POk Q] (hT : Plain P U) (hi : ops[i]? = some ⟨some d, .load U x, T, pos, after, none⟩) (h : (Nat.blt d n, σ.ev x) = (true, some (true, .pointer (some q)))) (hc : ∀ w, S w → w.cell? q = some v)
  (kk : WD P n ops Q S fuel (upto (i + 1) m) ((d, (true, v)) :: σ) (Own M w0 H)) (ht : takeOk ops i m = true := by kernel_rfl) : WD P n ops Q S (fuel + 1) (upto i m) σ (Own M w0 H) := WD.q i hi ht rfl rfl (congrArg Prod.fst h) (QV.load hT (congrArg Prod.snd h) rfl hc) kk
theorem wc {α : Type} {cc : Operand} {xx : Code} {b : Bool} {u' v' r : α} (hb : σ.ev cc = some (true, .bool b)) (hm : br b u' v' = r) (ht : b = true → u' = r → WK n (xx.wp P Q) σ C) (hf : b = false → v' = r → WK n (y.wp P Q) σ C) : WK n ((Code.cond cc xx y).wp P Q) σ C :=
 WC.cond hb (fun h => ht h (br_t h hm)) (fun h => hf h (br_f h hm))
theorem gn {j d' : Nat} {b : Bool} (h : (Nat.blt d n, (ops[j]?).bind (·.dst), σ.look d') = (true, some d', some (true, .bool b))) (hq : (!b) = true → QV P ⟨some d, c, T, pos, after, some (j, false)⟩ σ (Own M w0 H) v) (kk : WK n (wpList P ops Q rest) ((d, (!b, v)) :: σ) (Own M w0 H)) : WK n (wpList P ops Q (⟨some d, c, T, pos, after, some (j, false)⟩ :: rest)) σ (Own M w0 H) :=
 WL.g rfl (congrArg (·.1) h) (GuardIs.neg (congrArg (·.2.1) h) (congrArg (·.2.2) h)) hq kk
theorem gp {j d' : Nat} {b : Bool} (h : (Nat.blt d n, (ops[j]?).bind (·.dst), σ.look d') = (true, some d', some (true, .bool b))) (hq : b = true → QV P ⟨some d, c, T, pos, after, some (j, true)⟩ σ (Own M w0 H) v) (kk : WK n (wpList P ops Q rest) ((d, (b, v)) :: σ) (Own M w0 H)) : WK n (wpList P ops Q (⟨some d, c, T, pos, after, some (j, true)⟩ :: rest)) σ (Own M w0 H) :=
 WL.g rfl (congrArg (·.1) h) (GuardIs.pos (congrArg (·.2.1) h) (congrArg (·.2.2) h)) hq kk
theorem gnC {j d' : Nat} {b gg : Bool} (h : (Nat.blt d n, (ops[j]?).bind (·.dst), σ.look d') = (true, some d', some (gg, .bool b))) (hq : (gg && !b) = true → QV P ⟨some d, c, T, pos, after, some (j, false)⟩ σ (Own M w0 H) v) (kk : WK n (wpList P ops Q rest) ((d, (gg && !b, v)) :: σ) (Own M w0 H)) : WK n (wpList P ops Q (⟨some d, c, T, pos, after, some (j, false)⟩ :: rest)) σ (Own M w0 H) :=
 WL.g rfl (congrArg (·.1) h) (GuardIs.negC (congrArg (·.2.1) h) (congrArg (·.2.2) h)) hq kk
theorem gpC {j d' : Nat} {b gg : Bool} (h : (Nat.blt d n, (ops[j]?).bind (·.dst), σ.look d') = (true, some d', some (gg, .bool b))) (hq : (gg && b) = true → QV P ⟨some d, c, T, pos, after, some (j, true)⟩ σ (Own M w0 H) v) (kk : WK n (wpList P ops Q rest) ((d, (gg && b, v)) :: σ) (Own M w0 H)) : WK n (wpList P ops Q (⟨some d, c, T, pos, after, some (j, true)⟩ :: rest)) σ (Own M w0 H) :=
 WL.g rfl (congrArg (·.1) h) (GuardIs.posC (congrArg (·.2.1) h) (congrArg (·.2.2) h)) hq kk
theorem zn (i : Nat) {j d' m fuel : Nat} {b : Bool} {S : World → Prop} [hQ : POk Q] (hi : ops[i]? = some ⟨some d, c, T, pos, after, some (j, false)⟩) (h : (Nat.blt d n, (ops[j]?).bind (·.dst), σ.look d') = (true, some d', some (true, .bool b))) (hq : (!b) = true → QV P ⟨some d, c, T, pos, after, some (j, false)⟩ σ S v)
  (kk : WD P n ops Q S fuel (upto (i + 1) m) ((d, (!b, v)) :: σ) (Own M w0 H)) (ht : takeOk ops i m = true := by kernel_rfl) : WD P n ops Q S (fuel + 1) (upto i m) σ (Own M w0 H) := WD.g i hi ht rfl (congrArg (·.1) h) (GuardIs.neg (congrArg (·.2.1) h) (congrArg (·.2.2) h)) hq kk
theorem zp (i : Nat) {j d' m fuel : Nat} {b : Bool} {S : World → Prop} [hQ : POk Q] (hi : ops[i]? = some ⟨some d, c, T, pos, after, some (j, true)⟩) (h : (Nat.blt d n, (ops[j]?).bind (·.dst), σ.look d') = (true, some d', some (true, .bool b))) (hq : b = true → QV P ⟨some d, c, T, pos, after, some (j, true)⟩ σ S v)
  (kk : WD P n ops Q S fuel (upto (i + 1) m) ((d, (b, v)) :: σ) (Own M w0 H)) (ht : takeOk ops i m = true := by kernel_rfl) : WD P n ops Q S (fuel + 1) (upto i m) σ (Own M w0 H) := WD.g i hi ht rfl (congrArg (·.1) h) (GuardIs.pos (congrArg (·.2.1) h) (congrArg (·.2.2) h)) hq kk
theorem ec {xs : List Operand} {vs : List Value} (h : σ.ev x = some (true, v)) (h3 : EvAll σ xs vs) : EvAll σ (x :: xs) (v :: vs) := EvAll.cons h rfl h3
theorem eN : EvAll σ [] [] := EvAll.nil
theorem kg {α : Type} {a : α} {w : World} (h : Own noM w0 H w) : a = a ∧ Grow w0 w := ⟨rfl, Own.kgrow (fun _ x => x) h⟩
theorem pk (js : List Nat) (hn : js.Nodup := by decide) (w : World) (h : Own M w0 H w) : Own M w0 (pickL js H) w := h.pick js hn
theorem tr {K : Act → World → Prop} (h : WK n (Q .ret) σ C) : WK n (Exit.then K Q .ret) σ C := h
theorem te {K : Act → World → Prop} {id : Nat} (h : WK n (Q (.exit id)) σ C) : WK n (Exit.then K Q (.exit id)) σ C := h
theorem kr {id : Nat} (h : WK n (Q .ret) σ C) : WK n (Exit.inBlock id Q .ret) σ C := h
theorem sk (k : WK n (Q .normal) σ C) : WK n (Code.skip.wp P Q) σ C := WC.skip k
theorem sr (h : WK n (wpList P l.toArray (Exit.then (y.wp P Q) Q) l) σ C) : WK n (((Code.region id l.toArray false).seq y).wp P Q) σ C := WC.seq (WC.region h)
theorem nt (h : WK n (y.wp P Q) σ C) : WK n (wpList P ops (Exit.then (y.wp P Q) Q) []) σ C := WL.nil (WQ.then h)
theorem nr (h : WK n (wpList P l.toArray Q l) σ C) : WK n (wpList P ops (Exit.then ((Code.region id l.toArray false).wp P Q) Q) []) σ C := nt (WC.region h)
theorem ns {z : Code} (h : WK n (wpList P l.toArray (Exit.then (z.wp P Q) Q) l) σ C) : WK n (wpList P ops (Exit.then (((Code.region id l.toArray false).seq z).wp P Q) Q) []) σ C := nt (sr h)
end
universe u
theorem Z {α : Sort u} {a : α} : a = a := rfl
theorem fT (sz : Nat) {P : Program} {T : TypeId} {f off : Nat} {fs : Array Field} {fd : Field} (h : P.underlying T = some (.struct fs)) (h1 : fs[f]? = some fd := by rfl) (h2 : fd.offset = off := by rfl) (h3 : (P.info? fd.type).map (·.size) = some (sz + 1) := by kernel_rfl) : FieldT P T f off := ⟨fs, fd, sz, h, h1, h2, h3⟩
theorem eT {P : Program} {f : FuncId} {fn : Func} (h : P.funcs[f]? = some fn) (h1 : fn.body.isNone = false := by kernel_rfl) (h2 : (fn.name == "runtime.NumGoroutine") = false := by kernel_rfl) : Enters P f := ⟨fn, h, h1, h2⟩
theorem nl {a b : Nat} (h : Nat.ble a b = true) : a ≤ b := Nat.le_of_ble_eq_true h
theorem oc {v : Value} {r : List Value} (h : v.oneCell' = true) (k : ∀ u ∈ r, u.oneCell' = true) : ∀ u ∈ v :: r, u.oneCell' = true := one_cons h k
abbrev u_ (i : Nat) (v : Value) : Nat × Bool × Value := (i, (true, v))
abbrev i_ (n : Int) : Value := .int .i64 n
section
variable {α : Type} {x : Option α} {r : α} {c1 c2 c3 c4 c5 c6 c7 c8 : Prop} [Decidable c1] [Decidable c2] [Decidable c3] [Decidable c4] [Decidable c5] [Decidable c6] [Decidable c7] [Decidable c8]
theorem cs (h : ck c1 x = some r) : c1 ∧ x = some r := ck_some h
theorem cs2 (h : ck c1 (ck c2 x) = some r) : c1 ∧ c2 ∧ x = some r := ⟨(cs h).1, cs (cs h).2⟩
theorem cs3 (h : ck c1 (ck c2 (ck c3 x)) = some r) : c1 ∧ c2 ∧ c3 ∧ x = some r := ⟨(cs h).1, cs2 (cs h).2⟩
theorem cs4 (h : ck c1 (ck c2 (ck c3 (ck c4 x))) = some r) : c1 ∧ c2 ∧ c3 ∧ c4 ∧ x = some r := ⟨(cs h).1, cs3 (cs h).2⟩
theorem cs5 (h : ck c1 (ck c2 (ck c3 (ck c4 (ck c5 x)))) = some r) : c1 ∧ c2 ∧ c3 ∧ c4 ∧ c5 ∧ x = some r := ⟨(cs h).1, cs4 (cs h).2⟩
theorem cs6 (h : ck c1 (ck c2 (ck c3 (ck c4 (ck c5 (ck c6 x))))) = some r) : c1 ∧ c2 ∧ c3 ∧ c4 ∧ c5 ∧ c6 ∧ x = some r := ⟨(cs h).1, cs5 (cs h).2⟩
end
end Go.Rd
end
section
namespace Go.Rd
open Go.RowKit
def ovec (v : Value) (E : TypeId) (sz : Nat) (rows : List (List Value)) : Res where
 foot := fun b => ∃ o n c, v = .slice (some ⟨b, o, none⟩) n c
 holds := fun w => ((v = .slice none 0 0 ∧ rows = []) ∨ ∃ g o cap d, ∃ (A Z : List Value), v = .slice (some ⟨g, o, none⟩) rows.length (cap - d) ∧ (d < cap → o = d * sz) ∧ w.heap[g]? = some (.cells (A ++ rows.flatten ++ Z).toArray E (0, 0)) ∧ A.length = d * sz ∧ (A ++ rows.flatten ++ Z).length = cap * sz ∧ d + rows.length ≤ cap ∧ cap ≤ maxLen) ∧ ∀ r ∈ rows, r.length = sz
 stable := fun w w' ⟨h1, h2⟩ hk => ⟨by
  rcases h1 with h | ⟨g, o, cap, d, A, Z, hv, ho, hh, r⟩
  ·exact .inl h
  ·exact .inr ⟨g, o, cap, d, A, Z, hv, ho, (hk g ⟨_, _, _, hv⟩).trans hh, r⟩, h2⟩
theorem ovec_nil {w : World} {E : TypeId} {sz : Nat} : (ovec (.slice none 0 0) E sz []).holds w := ⟨.inl ⟨rfl, rfl⟩, fun r h => by cases h⟩
theorem ovec_of_row {w : World} {v : Value} {base : Nat} {E : TypeId} {sz : Nat} {rows : List (List Value)} (h : w.ownsRow base E sz v rows.length rows.flatten) (h3 : ∀ r ∈ rows, r.length = sz) : (ovec v E sz rows).holds w := by
 obtain ⟨h1, h2⟩ := h
 refine ⟨?_, h3⟩
 rcases h2 with ⟨hv, hn⟩ | ⟨g, cap, cur, hv, _, hh, hnc, hcm, hcs, ht⟩
 ·exact .inl ⟨hv, List.eq_nil_of_length_eq_zero hn⟩
 ·have e : cur = ([] ++ rows.flatten ++ cur.toList.drop (rows.length * sz)).toArray := by
   rw [List.nil_append, ← ht, List.take_append_drop]
  have hl : ([] ++ rows.flatten ++ cur.toList.drop (rows.length * sz)).length = cap * sz := by
   rw [List.nil_append, ← ht, List.take_append_drop]; simpa using hcs
  exact .inr ⟨g, 0, cap, 0, [], _, by rw [Nat.sub_zero]; exact hv, fun _ => by omega, by rw [← e]; exact hh, by simp, hl, by omega, hcm⟩
theorem ovec_arr {v : Value} {E : TypeId} {sz : Nat} {rows : List (List Value)} {w : World} (h : (ovec v E sz rows).holds w) : Arr w v sz rows := by
 obtain ⟨h1, h3⟩ := h
 rcases h1 with ⟨rfl, rfl⟩ | ⟨g, o, cap, d, A, Z, rfl, ho, hh, hA, hl, hd, hc⟩
 ·exact Arr.nil
 ·refine ⟨⟨_, _, rfl, fun _ => rfl, by omega⟩, fun i r p hr hp => ?_⟩
  obtain ⟨a, n, c, he, h0, hi, rfl⟩ := hp
  simp only [Value.slice.injEq, Option.some.injEq] at he
  obtain ⟨rfl, _, _⟩ := he
  rw [Int.toNat_natCast]
  have hlt := (List.getElem?_eq_some_iff.1 hr).1
  have ho' := ho (by omega)
  have hall : CellsAt w ⟨g, o, none⟩ rows.flatten 0 := CellsAt.of fun j v hv => by
   rw [Nat.zero_add, Addr.add_lit]
   have : (A ++ rows.flatten ++ Z)[o + j]? = some v := by
    rw [List.append_assoc, List.getElem?_append_right (by omega), List.getElem?_append_left (by have := (List.getElem?_eq_some_iff.1 hv).1; omega), show o + j - A.length = j from by omega]
    exact hv
   simp only [World.cell?, hh]
   simpa using this
  exact hall.sub (i * sz) r.length (drop_flatten h3 hr)
theorem ovec_foot_lt {v : Value} {E : TypeId} {sz : Nat} {rows : List (List Value)} {w : World} (h : (ovec v E sz rows).holds w) : ∀ b, (ovec v E sz rows).foot b → b < w.heap.size := fun b hb => by
 obtain ⟨o, n, c, rfl⟩ := hb
 rcases h.1 with ⟨h, _⟩ | ⟨g, o', cap, d, A, Z, hv, _, hh, _⟩
 ·cases h
 ·simp only [Value.slice.injEq, Option.some.injEq, Addr.mk.injEq] at hv
  obtain ⟨⟨rfl, _⟩, _⟩ := hv
  exact (Array.getElem?_eq_some_iff.1 hh).1
theorem ovec_cut {v : Value} {E : TypeId} {sz k : Nat} {rows : List (List Value)} {w : World} (h : (ovec v E sz rows).holds w) (hk : k ≤ rows.length) : (ovec (subS v sz k rows.length) E sz (rows.drop k)).holds w := by
 obtain ⟨h1, h3⟩ := h
 refine ⟨?_, fun r hr => h3 r (List.mem_of_mem_drop hr)⟩
 rcases h1 with ⟨rfl, rfl⟩ | ⟨g, o, cap, d, A, Z, rfl, ho, hh, hA, hl, hd, hc⟩
 ·left
  have : k = 0 := by simpa using hk
  subst this
  exact ⟨rfl, rfl⟩
 ·right
  have hfl : rows.flatten = (rows.take k).flatten ++ (rows.drop k).flatten := by rw [← List.flatten_append, List.take_append_drop]
  have htl : (rows.take k).flatten.length = k * sz := by rw [flatten_len fun r hr => h3 r (List.mem_of_mem_take hr), List.length_take, Nat.min_eq_left hk]
  have hcells : A ++ rows.flatten ++ Z = (A ++ (rows.take k).flatten) ++ (rows.drop k).flatten ++ Z := by rw [hfl]; simp
  refine ⟨g, if cap - d = k then o else o + k * sz, cap, d + k, A ++ (rows.take k).flatten, Z, ?_, fun hlt => ?_, by rw [← hcells]; exact hh, by rw [List.length_append, hA, htl, Nat.add_mul], by rw [← hcells]; exact hl, by rw [List.length_drop]; omega, hc⟩
  ·show Value.slice _ _ _ = _
   rw [List.length_drop, show cap - d - k = cap - (d + k) from by omega]
   by_cases e : cap - d = k
   ·rw [if_pos e, if_pos e]
   ·rw [if_neg e, if_neg e]
    simp [Addr.add_lit]
  ·rw [if_neg (by omega), ho (by omega), Nat.add_mul]
section
variable {P : Program} {n : Nat} {σ : Env} {M : Nat → Prop} {w0 : World} {H : List Res} {d : Option Tmp} {T U E : TypeId} {pos : String} {after : Array Edge} {gd : Option (Nat × Bool)} {x y : Operand} {g g' : Bool} {v yv : Value}
 {K : Act → World → Prop} {Q : Exit → Act → World → Prop}
theorem Own.ovecArr (j : Nat) {sz : Nat} {rows : List (List Value)} (hj : H[j]? = some (ovec v E sz rows)) : ∀ w, Own M w0 H w → Arr w v sz rows := fun w hw => ovec_arr (hw.at j hj)
theorem Own.ovecNil {w : World} (h : Own M w0 H w) {E : TypeId} {sz : Nat} {α : Type} {enc : α → List Value} : Own M w0 (ovec (.slice none 0 0) E sz (([] : List α).map enc) :: H) w :=
 ⟨h.1, ⟨ovec_nil, fun b ⟨_, _, _, h⟩ => by simp at h, fun s _ b ⟨_, _, _, h⟩ => by simp at h⟩, h.2⟩
theorem subS_foot {w : World} {E : TypeId} {sz k m b : Nat} {rows : List (List Value)} (h : (ovec v E sz rows).holds w) (hb : ∃ o n c, subS v sz k m = .slice (some ⟨b, o, none⟩) n c) : (ovec v E sz rows).foot b := by
 obtain ⟨o, n, c, he⟩ := hb
 rcases h.1 with ⟨rfl, _⟩ | ⟨g, o', cap, d, A, Z, rfl, _⟩
 ·unfold subS at he
  simp only [Value.slice.injEq] at he
  have := he.1
  split at this <;> simp at this
 ·unfold subS at he
  simp only [Value.slice.injEq] at he
  have h1 := he.1
  split at h1
  ·simp only [Option.some.injEq, Addr.mk.injEq] at h1
   obtain ⟨rfl, _⟩ := h1
   exact ⟨_, _, _, rfl⟩
  ·rw [Option.map_some, Addr.add_lit] at h1
   simp only [Option.some.injEq, Addr.mk.injEq] at h1
   obtain ⟨rfl, _⟩ := h1
   exact ⟨_, _, _, rfl⟩
theorem Own.ovecCut {w : World} {α : Type} {enc : α → List Value} {sz : Nat} {xs ys : List α} {k : Nat} (h : Own M w0 (ovec v E sz (xs.map enc) :: H) w) (hk : k ≤ xs.length) (he : ys = xs.drop k) : Own M w0 (ovec (subS v sz k xs.length) E sz (ys.map enc) :: H) w := by
 subst he
 have hc := ovec_cut (k := k) h.2.1.1 (by rw [List.length_map]; exact hk)
 rw [List.length_map, ← List.map_drop] at hc
 exact ⟨h.1, ⟨hc, fun b hb => h.2.1.2.1 b (subS_foot h.2.1.1 hb), fun s hs b hb => h.2.1.2.2 s hs b (subS_foot h.2.1.1 hb)⟩, h.2.2⟩
theorem EV.storeEO {α : Type} [Inhabited α] {enc : α → List Value} {sz : Nat} {T : TypeId} (k : Nat) (u : α) {xs : List α} {i : Int} {p q : Addr} {off : Nat} {vs : List Value} (hx : σ.ev x = some (g, .pointer (some q))) (hg : g = true) (hy : σ.ev y = some (g', yv)) (hg' : g' = true)
  (hk : H[k]? = some (ovec v E sz (xs.map enc))) (hp : ElemP v i sz p) (hi : IX i (ln xs)) (hq : q = p.add off) (hv : yv.cells = vs.toArray) (hs : SizeT P T vs.length) (hl : off + vs.length ≤ sz) (ho : ∀ u ∈ vs, u.oneCell' = true) (he : enc u = putL (enc (ele xs i)) off vs)
  (kk : WK n K σ (Own M w0 (H.set k (ovec v E sz ((upd xs i u).map enc))))) : EV P n ⟨none, .store T x y, U, pos, after, gd⟩ σ (Own M w0 H) K Q := fun a w ha hw => by
 refine .inl ?_
 obtain ⟨h1, h3⟩ := hw.at k hk
 rcases h1 with ⟨rfl, _⟩ | ⟨b, o, cap, d, A, Z, rfl, hod, hh, hA, hcl, hd, hcm⟩
 ·obtain ⟨a, n, c', he', _⟩ := hp; simp at he'
 obtain ⟨aa, n', c', he', h0, hlt, rfl⟩ := hp
 simp only [Value.slice.injEq, Option.some.injEq] at he'
 obtain ⟨rfl, hn', rfl⟩ := he'
 have hxs : i.toNat < xs.length := by have := hi.2; unfold ln at this; omega
 have hrl : (xs.map enc).length = xs.length := List.length_map _
 have hod' := hod (by omega)
 have hq2 : q = ⟨b, A.length + (i.toNat * sz + off), none⟩ := by rw [hq, Addr.add_add, Addr.add_lit, hod', hA]
 subst hq2
 have hfl := flatten_len h3
 have hle : (i.toNat + 1) * sz ≤ (xs.map enc).length * sz := Nat.mul_le_mul_right _ (by rw [hrl]; omega)
 rw [Nat.succ_mul] at hle
 obtain ⟨w', q1, q2, q3, q4, q5, q6, q7⟩ := run_storeCells_blk (P := P) vs ⟨b, A.length + (i.toNat * sz + off), none⟩ 0 (A.length + (i.toNat * sz + off)) _ w hh (by simp [Addr.add]) (by rw [List.length_append, List.length_append, hfl]; omega) ho
 obtain ⟨inf, hinf, hsz⟩ := Option.map_eq_some_iff.1 hs
 have hrun : (execOp a.eval ⟨none, .store T x y, U, pos, after, gd⟩).run P w = .ok .skip w' := by
  simp [execOp, ha.ev hx hg, ha.ev hy hg', Instr.storeAt, Instr.sureAddr, storeVar, hv, sizeOf, typeInfo, hinf, hsz, q1]
 unfold Oper.wp
 rw [hrun]
 show K (a.put none undef) w'
 have hbl : b < w.heap.size := (Array.getElem?_eq_some_iff.1 hh).1
 have hrows : ((upd xs i u).map enc).flatten = putL (xs.map enc).flatten (i.toNat * sz + off) vs := by
  rw [putL_flatten hl h3 (by rw [hrl]; exact hxs), map_set_putL hxs he]
  rfl
 have hur : ((upd xs i u).map enc).length = (xs.map enc).length := by simp [upd]
 have hcells : putL (A ++ (xs.map enc).flatten ++ Z) (A.length + (i.toNat * sz + off)) vs = A ++ ((upd xs i u).map enc).flatten ++ Z := by
  rw [List.append_assoc, putL_right, putL_append vs _ _ _ (by rw [hfl]; omega), ← hrows, List.append_assoc]
 have hholds : (ovec (.slice (some ⟨b, o, none⟩) (xs.map enc).length (cap - d)) E sz ((upd xs i u).map enc)).holds w' := by
  refine ⟨.inr ⟨b, o, cap, d, A, Z, by rw [hur], hod, by rw [← hcells]; exact q2, hA, by rw [← hcells, putL_length]; exact hcl, by rw [hur]; exact hd, hcm⟩, fun r hr => ?_⟩
  obtain ⟨s, hs', rfl⟩ := List.mem_map.1 hr
  rcases List.mem_or_eq_of_mem_set hs' with hm | rfl
  ·exact h3 _ (List.mem_map_of_mem hm)
  ·rw [he, putL_length]
   exact h3 (enc (ele xs i)) (List.mem_map_of_mem (by unfold ele; rw [List.getD_eq_getElem?_getD, List.getElem?_eq_getElem hxs]; exact List.getElem_mem hxs))
 refine kk a w' ha (hw.upd k hk q5 q6 q7 (by omega) (fun c hc hne => q3 c fun e => hne (by subst e; exact ⟨_, _, _, rfl⟩)) hholds fun c hc => ?_)
 obtain ⟨o2, n2, k2, he2⟩ := hc
 simp only [Value.slice.injEq, Option.some.injEq, Addr.mk.injEq] at he2
 obtain ⟨⟨rfl, _⟩, _⟩ := he2
 exact ⟨.inl ⟨_, _, _, rfl⟩, by omega⟩
theorem run_append_ovec {w : World} {sz bytes : Nat} {rows news : List (List Value)} (hV : VecT P U E sz bytes) (hown : (ovec v E sz rows).holds w) (hnew : Arr w yv sz news) (hnl : ∀ r ∈ news, r.length = sz) (h1 : ∀ r ∈ news, ∀ u ∈ r, u.oneCell' = true)
  (h63 : rows.length + news.length ≤ maxLen) (hby : (rows.length + news.length) * bytes ≤ 140737488355328) :
  ∃ v' w', (Builtin.append_ #[U, U] T #[v, yv]).run P w = .ok v' w' ∧ (ovec v' E sz (rows ++ news)).holds w' ∧ w'.os = w.os ∧ w'.tape = w.tape ∧ (w'.output = w.output ∧ w.drawn ≤ w'.drawn) ∧ w.heap.size ≤ w'.heap.size ∧
   (∀ b, b < w.heap.size → ¬ (ovec v E sz rows).foot b → w'.heap[b]? = w.heap[b]?) ∧ (∀ b, (ovec v' E sz (rows ++ news)).foot b → ((ovec v E sz rows).foot b ∨ w.heap.size ≤ b) ∧ b < w'.heap.size) := by
 have hall : ∀ r ∈ rows ++ news, r.length = sz := fun r hr => (List.mem_append.1 hr).elim (hown.2 r) (hnl r)
 have hfl : (rows ++ news).flatten = rows.flatten ++ news.flatten := List.flatten_append
 have hll : (rows ++ news).length = rows.length + news.length := List.length_append
 rcases hown.1 with ⟨rfl, rfl⟩ | ⟨g, o, cap, d, A, Z, rfl, hod, hh, hA, hcl, hd, hcm⟩
 ·obtain ⟨v', w', r1, r2, r3, r4, r5, r6, r7, r8⟩ := run_append_vec (T := T) (v := .slice none 0 0) (rows := []) hV (vec_nil (α := Unit) (enc := fun _ => [])) hnew hnl h1 h63 hby
  refine ⟨v', w', r1, ovec_of_row r2.1 r2.2, r3, r4, r5, r6, fun b hb _ => r7 b hb (fun ⟨_, _, h⟩ => by cases h), fun b hb => ?_⟩
  have hb' : (vec v' E sz ([] ++ news)).foot b := by
   obtain ⟨o, n, c, rfl⟩ := hb
   rcases r2.1.2 with ⟨h, _⟩ | ⟨g, c2, cur, h, _⟩
   ·cases h
   ·simp only [Value.slice.injEq, Option.some.injEq, Addr.mk.injEq] at h
    obtain ⟨⟨rfl, rfl, _⟩, rfl, rfl⟩ := h
    exact ⟨_, _, rfl⟩
  rcases r8 b hb' with ⟨h | h, h2⟩
  ·obtain ⟨_, _, h⟩ := h; cases h
  ·exact ⟨.inr h, h2⟩
 have hold := (ovec_arr hown).cell hown.2
 obtain ⟨hU, hi0, hsz⟩ := hV
 obtain ⟨i, hi, hq⟩ := Option.map_eq_some_iff.1 hi0
 simp only [Prod.mk.injEq] at hq
 obtain ⟨hz0, his, hib⟩ := hq
 obtain ⟨z, hz, hzs⟩ := Option.map_eq_some_iff.1 hz0
 have h1' : ∀ u ∈ news.flatten, u.oneCell' = true := fun u hu => by
  obtain ⟨r, hr, hu⟩ := List.mem_flatten.1 hu
  exact h1 r hr u hu
 have hgl : g < w.heap.size := (Array.getElem?_eq_some_iff.1 hh).1
 obtain ⟨ay, cy, rfl, hay, _⟩ := hnew.len
 cases ay with
 | none =>
  have hn0 : news = [] := by
   cases news with
   | nil => rfl
   | cons r l => exact absurd (hay (by simp)) (by simp)
  subst hn0
  have hrun : (Builtin.append_ #[U, U] T #[.slice (some ⟨g, o, none⟩) rows.length (cap - d), .slice none ([] : List (List Value)).length cy]).run P w = .ok (.slice (some ⟨g, o, none⟩) rows.length (cap - d)) w := by
   have hnc : rows.length ≤ cap - d := by omega
   simp [Builtin.append_, run_underlying hU, sizeOf, typeInfo, hi, Builtin.lenOf, Builtin.firstCells, hnc, storeCells]
  exact ⟨_, w, hrun, by simpa using hown, rfl, rfl, ⟨rfl, Nat.le_refl _⟩, Nat.le_refl _, fun _ _ _ => rfl, fun b hb => ⟨.inl hb, ovec_foot_lt hown b hb⟩⟩
 | some a =>
  have hnews := hnew.cell hnl
  have hl := flatten_len hnl
  by_cases hroom : rows.length + news.length ≤ cap - d
  ·have hf := run_firstCells_some (P := P) w sz news.length a news.length cy news.flatten hl hnews
   have hst : ∃ w', (storeCells ((⟨g, o, none⟩ : Addr).add (rows.length * sz)) news.flatten).run P w = .ok () w' ∧ w'.heap[g]? = some (.cells (A ++ (rows ++ news).flatten ++ Z.drop news.flatten.length).toArray E (0, 0)) ∧ (∀ k, k ≠ g → w'.heap[k]? = w.heap[k]?) ∧ w'.heap.size = w.heap.size ∧ w'.os = w.os ∧ w'.tape = w.tape ∧ (w'.output = w.output ∧ w.drawn ≤ w'.drawn) := by
    by_cases hn : news = []
    ·subst hn
     exact ⟨w, by simp [storeCells], by simpa using hh, fun _ _ => rfl, rfl, rfl, rfl, rfl, Nat.le_refl _⟩
    ·have hnp : 0 < news.length := List.length_pos_iff.2 hn
     have hod' := hod (by omega)
     have hrl := flatten_len hown.2
     rw [List.length_append, List.length_append, hA, hrl] at hcl
     have hm1 : (d + rows.length + news.length) * sz ≤ cap * sz := Nat.mul_le_mul_right _ (by omega)
     rw [Nat.add_mul, Nat.add_mul] at hm1
     obtain ⟨w', q1, q2, q3⟩ := run_storeCells_blk (P := P) (T := E) (b := g) news.flatten ((⟨g, o, none⟩ : Addr).add (rows.length * sz)) 0 (A.length + rows.flatten.length) _ w hh (by rw [Addr.add_lit]; simp [Addr.add, hod', hA, hrl]) (by rw [List.length_append, List.length_append, hA, hrl, hl]; omega) h1'
     refine ⟨w', q1, ?_, q3⟩
     rw [q2, ← List.length_append, show (A ++ rows.flatten).length = (A ++ rows.flatten).length + 0 from rfl, putL_right, hfl]
     congr 2
     rw [← List.append_assoc, List.append_assoc (A ++ rows.flatten)]
     congr 1
     have hzl : news.flatten.length ≤ Z.length := by rw [hl]; omega
     conv => lhs; rw [← List.take_append_drop news.flatten.length Z]
     rw [putL_append _ _ _ _ (by rw [List.length_take]; omega)]
     congr 1
     have := putL_all news.flatten (Z.take news.flatten.length) 0 (by rw [List.length_take]; omega)
     simpa using this
   obtain ⟨w', q1, q2, q3, q4, q5, q6, q7⟩ := hst
   have hr : (Builtin.append_ #[U, U] T #[.slice (some ⟨g, o, none⟩) rows.length (cap - d), .slice (some a) news.length cy]).run P w = .ok (.slice (some ⟨g, o, none⟩) (rows.length + news.length) (cap - d)) w' := by
    subst his
    simp [Builtin.append_, run_underlying hU, sizeOf, typeInfo, hi, Builtin.lenOf, hroom, hf, q1]
   refine ⟨_, w', hr, ⟨.inr ⟨g, o, cap, d, A, Z.drop news.flatten.length, by rw [hll], hod, q2, hA, ?_, by rw [hll]; omega, hcm⟩, hall⟩, q5, q6, q7, by omega, fun b _ hb => q3 b fun e => hb (by subst e; exact ⟨_, _, _, rfl⟩), fun b hb => ?_⟩
   ·have hrl := flatten_len hown.2
    have hm1 : (d + rows.length + news.length) * sz ≤ cap * sz := Nat.mul_le_mul_right _ (by omega)
    rw [Nat.add_mul, Nat.add_mul] at hm1
    rw [List.length_append, List.length_append, hA, hrl] at hcl
    rw [List.length_append, List.length_append, List.length_drop, hfl, List.length_append, hA, hrl, hl]
    omega
   ·obtain ⟨o2, n2, c2, he⟩ := hb
    simp only [Value.slice.injEq, Option.some.injEq, Addr.mk.injEq] at he
    obtain ⟨⟨rfl, _⟩, _⟩ := he
    exact ⟨.inl ⟨_, _, _, rfl⟩, by omega⟩
  ·obtain ⟨v', w', hr, ho, hg⟩ := run_append_arg_grows (P := P) w U T E i z sz bytes hU hi hz his hib hzs hsz ⟨g, o, none⟩ rows.length (cap - d) rows.flatten (flatten_len hown.2) hold a news.length cy news.flatten hl hnews (by omega) h63 hby
   refine ⟨v', w', hr, ovec_of_row (by rw [hfl, hll]; exact ho) hall, hg.os, hg.tape, ⟨hg.output, run_drawn _ _ hr⟩, hg.size, fun k hk _ => hg.block k hk (by simp), fun k hk => ?_⟩
   obtain ⟨o2, n2, c2, rfl⟩ := hk
   rcases ho.2 with ⟨h, _⟩ | ⟨g', c3, cur, h, h2, h3, _⟩
   ·cases h
   ·simp only [Value.slice.injEq, Option.some.injEq, Addr.mk.injEq] at h
    obtain ⟨⟨rfl, _⟩, _⟩ := h
    exact ⟨.inr h2, (Array.getElem?_eq_some_iff.1 h3).1⟩
theorem EV.appendO {α : Type} {enc : α → List Value} {xs ys : List α} (zs : List α) (k : Nat) {dd sz bytes : Nat} (hn : dd < n) (hV : VecT P U E sz bytes) (hk : H[k]? = some (ovec v E sz (xs.map enc))) (hx : σ.ev x = some (g, v)) (hg : g = true) (hy : σ.ev y = some (g', yv)) (hg' : g' = true)
  (hnew : ∀ w, Own M w0 H w → Arr w yv sz (ys.map enc)) (hlen : ∀ u, (enc u).length = sz) (hone : ∀ u ∈ ys, ∀ c ∈ enc u, c.oneCell' = true) (hz : zs = xs ++ ys) (h63 : zs.length ≤ maxLen) (hby : zs.length * bytes ≤ 140737488355328)
  (kk : ∀ u, SliceLen u zs.length → WK n K ((dd, (true, u)) :: σ) (Own M w0 (H.set k (ovec u E sz (zs.map enc))))) : EV P n ⟨some dd, .call ⟨.builtin .append, #[x, y], #[U, U]⟩, T, pos, after, gd⟩ σ (Own M w0 H) K Q := fun a w ha hw => by
 subst hz
 rw [List.length_append] at h63 hby
 refine .inl ?_
 obtain ⟨v', w', hr, h2, h3, h4, h5, h6, h7, h8⟩ := run_append_ovec (T := T) hV (hw.at k hk) (hnew w hw) (fun r hr => by obtain ⟨u, _, rfl⟩ := List.mem_map.1 hr; exact hlen u) (fun r hr => by obtain ⟨u, hu, rfl⟩ := List.mem_map.1 hr; exact hone u hu) (by simpa using h63) (by simpa using hby)
 have hrun : (execOp a.eval ⟨some dd, .call ⟨.builtin .append, #[x, y], #[U, U]⟩, T, pos, after, gd⟩).run P w = .ok (.value v') w' := by
  simp [execOp, resolve, invoke, builtin, ha.ev hx hg, ha.ev hy hg', hr, Result.andThen]
 unfold Oper.wp
 rw [hrun]
 have hsl := (ovec_arr h2).len
 rw [← List.map_append] at h2 h8 hsl
 rw [List.length_map] at hsl
 exact kk v' hsl _ _ (ha.put hn true _) (hw.upd k hk h3 h4 h5 h6 h7 h2 h8)
end
end Go.Rd
end
section
namespace Go.Rd
open Go.RowKit
section
variable {P : Program} {n : Nat} {ops : Array Oper} {Q : Exit → Act → World → Prop} {σ : Env} {C S : World → Prop} {T : Nat → Bool}
def ahead (md : Region.Mode) (ops : Array Oper) : Nat → Oper → Nat → Prop
 | 0, _, _ => False
 | n + 1, o, k => ∃ e ∈ o.after, Region.binds md e = true ∧ (e.on = k ∨ ∃ o', ops[e.on]? = some o' ∧ ahead md ops n o' k)
theorem ahead_listed {md : Region.Mode} {listed : Array Bool} (hD : DC md ops listed) : ∀ {m : Nat} {o : Oper} {k : Nat}, (∀ e ∈ o.after, Region.binds md e = true → listed.getD e.on false = true) → ahead md ops m o k → listed.getD k false = true
 | 0, _, _, _, h => h.elim
 | m + 1, o, k, hall, ⟨e, he, hb, h⟩ => by
  have h1 := hall e he hb
  rcases h with rfl | ⟨o', ho', h⟩
  ·exact h1
  ·exact ahead_listed hD (fun e' he' hb' => hD e.on o' ho' h1 e' he' hb') h
def FreeT (T : Nat → Bool) (md : Region.Mode) (ops : Array Oper) (listed : Array Bool) (oj : Oper) : Prop := ∀ k, listed.getD k false = true → T k = true ∨ ahead md ops 5 oj k
def wpAnyT (T : Nat → Bool) (P : Program) (md : Region.Mode) (ops : Array Oper) (Q : Exit → Act → World → Prop) : (World → Prop) → Nat → Array Bool → (World → Prop) → Act → Prop
 | S, 0, listed, C, a => Region.ready md ops listed = [] ∧ ∀ w, C w → Q .normal a w
 | S, fuel + 1, listed, C, a => DC md ops listed →
  ((Region.ready md ops listed = [] → ∀ w, C w → Q .normal a w) ∧
  ∀ i ∈ Region.ready md ops listed, ∀ w, C w → wpOp P ops Q i (fun a' w' => ∃ C' S' : World → Prop, Closed C' ∧ (∀ x, C' x → S' x) ∧ ((∀ x, S' x → S x) ∨ ∃ oi, ops[i]? = some oi ∧ FreeT T md ops listed oi) ∧ C' w' ∧ wpAnyT T P md ops Q S' fuel (listed.setIfInBounds i true) C' a') a w) ∨
  (Tail md ops listed ∧ ∀ w, C w → wpAny P md ops Q (fuel + 1) listed a w)
theorem wpAny_of_T {md : Region.Mode} : ∀ (S : World → Prop) (fuel : Nat) (listed : Array Bool) (C : World → Prop) (a : Act) (w : World), DC md ops listed → C w → wpAnyT T P md ops Q S fuel listed C a → wpAny P md ops Q fuel listed a w
 | _, 0, _, _, _, w, _, hw, h => ⟨h.1, h.2 w hw⟩
 | _, fuel + 1, _, _, _, w, hd, hw, h => by
  rcases h hd with h | h
  ·exact ⟨fun h0 => h.1 h0 w hw, fun i hi => wpOp_mono (fun a' w' ⟨C', S', _, _, _, h1, h2⟩ => wpAny_of_T S' fuel _ C' a' w' (hd.set hi) h1 h2) (h.2 i hi w hw)⟩
  ·exact h.2 w hw
def YT (T : Nat → Bool) (P : Program) (ops : Array Oper) (S : World → Prop) (i : Nat) (o : Oper) (v : Value) (a : Act) : Prop := (T i = true ∧ YG P ops (fun _ => True) o v a) ∨ YG P ops S o v a
theorem wpAnyT_first {md : Region.Mode} {i : Nat} {oi : Oper} {v : Value} (hi : ops[i]? = some oi) (hsel : ∀ (j : Nat) (o : Oper) cs b, ops[j]? = some o → o.op ≠ .select cs b)
  (hQ : ∀ c a w, Q (.panic c) (a.put oi.dst v) w → Q (.panic c) a w) :
  ∀ (fuel : Nat) (S : World → Prop) (listed : Array Bool) (C : World → Prop) (a : Act), Closed C → (∀ x, C x → S x) →
   (∀ j oj, ops[j]? = some oj → j ≠ i → listed.getD j true = false → (∀ e ∈ oj.after, Region.binds md e = true → e.on ≠ i) → oi.apart ops oj = true) →
   i ∈ Region.ready md ops listed → (YT T P ops S i oi v a) → (T i = true → YG P ops (fun _ => True) oi v a) →
   wpAnyT T P md ops Q S fuel (listed.setIfInBounds i true) C (a.put oi.dst v) → wpAnyT T P md ops Q S (fuel + 1) listed C a := by
 intro fuel
 induction fuel with
 | zero =>
  intro S listed C a hc hCS _ hr hy hyT H
  intro hD
  refine .inl ⟨fun h => (by rw [h] at hr; cases hr), fun j hj w hw => ?_⟩
  by_cases hji : j = i
  ·subst hji
   rcases hy with ⟨_, hy⟩ | hy
   ·exact hy.toOp hi hw (fun _ _ => trivial) hc fun w' hw' => ⟨C, S, hc, hCS, .inl fun _ h => h, hw', H⟩
   ·exact hy.toOp hi hw hCS hc fun w' hw' => ⟨C, S, hc, hCS, .inl fun _ h => h, hw', H⟩
  ·have := ready_mono hj hji
   rw [H.1] at this
   cases this
 | succ fuel ih =>
  intro S listed C a hc hCS hfree hr hy hyT H
  intro hD
  have H0 := H
  replace H := H (hD.set hr)
  refine .inl ⟨fun h => (by rw [h] at hr; cases hr), fun j hj w hw => ?_⟩
  by_cases hji : j = i
  ·subst hji
   rcases hy with ⟨_, hy⟩ | hy
   ·exact hy.toOp hi hw (fun _ _ => trivial) hc fun w' hw' => ⟨C, S, hc, hCS, .inl fun _ h => h, hw', H0⟩
   ·exact hy.toOp hi hw hCS hc fun w' hw' => ⟨C, S, hc, hCS, .inl fun _ h => h, hw', H0⟩
  ·have hilt : i < listed.size := by
    rcases Nat.lt_or_ge i listed.size with h' | h'
    ·exact h'
    ·have h0 := (mem_ready.1 hr).1
     simp [Array.getElem?_eq_none h'] at h0
   have hun : listed.getD i false = false := by
    have h0 := (mem_ready.1 hr).1
    simp [hilt] at h0 ⊢
    exact h0
   obtain ⟨hjun0, oj0, hoj0, hall0⟩ := mem_ready.1 hj
   have hno : ∀ oj : Oper, ops[j]? = some oj → ∀ m, ¬ ahead md ops m oj i := fun oj hoj m h => by
    rw [hoj0] at hoj
    cases hoj
    have := ahead_listed hD hall0 h
    rw [hun] at this
    cases this
   rcases H with H | ⟨⟨j0, o0, ho0, hr0, hall0'⟩, _⟩
   case inr =>
    have hj0 := ready_mono hj hji
    rw [hr0, List.mem_singleton] at hj0
    subst hj0
    obtain ⟨e, he, hb, h⟩ := hall0' i (by simp [hilt])
    refine absurd (show ahead md ops 2 o0 i from ⟨e, he, hb, ?_⟩) (hno o0 ho0 2)
    rcases h with h | ⟨o', ho', e', he', hb', h⟩
    ·exact .inl h
    ·exact .inr ⟨o', ho', e', he', hb', .inl h⟩
   have h1 := H.2 j (ready_mono hj hji) w hw
   obtain ⟨hjun, oj, hoj, hall⟩ := mem_ready.1 hj
   have hnot : ∀ e ∈ oj.after, Region.binds md e = true → e.on ≠ i := fun e he hb heq => hno oj hoj 1 ⟨e, he, hb, .inl heq⟩
   have hfree' : ∀ k ok, ops[k]? = some ok → k ≠ i → (listed.setIfInBounds j true).getD k true = false →
     (∀ e ∈ ok.after, Region.binds md e = true → e.on ≠ i) → oi.apart ops ok = true := fun k ok hk hki hun hno => by
    refine hfree k ok hk hki ?_ hno
    by_cases hjk : j = k
    ·subst hjk; exact hjun
    ·rw [getD_set_ne true hjk] at hun; exact hun
   have hFree : ∀ {oj' : Oper}, ops[j]? = some oj' → FreeT T md ops (listed.setIfInBounds i true) oj' → T i = true ∧ FreeT T md ops listed oj' := fun {oj'} hoj' hf => by
    refine ⟨?_, fun k hk => hf k ?_⟩
    ·rcases hf i (by simp [hilt]) with h | h
     ·exact h
     ·exact absurd h (hno _ hoj' 5)
    ·by_cases hik : i = k
     ·subst hik; simp [hilt]
     ·rw [getD_set_ne false hik]; exact hk
   by_cases hTi : T i = true
   ·have h2 := wpOp_putG hoj (hfree j oj hoj hji hjun hnot) (fun cs b => hsel i oi cs b hi) (fun cs b => hsel j oj cs b hoj) hQ (hyT hTi) h1
    refine wpOp_mono (fun a' w' h3 => ?_) h2
    obtain ⟨hy', C', S', hc', hsub, hSS, hw', hrest⟩ := h3
    refine ⟨C', S', hc', hsub, ?_, hw', ih S' (listed.setIfInBounds j true) C' a' hc' hsub hfree' (ready_mono hr (Ne.symm hji)) (.inl ⟨hTi, hy'⟩) (fun _ => hy') ?_⟩
    ·rcases hSS with h | ⟨oj', hoj', hf⟩
     ·exact .inl h
     ·exact .inr ⟨oj', hoj', (hFree hoj' hf).2⟩
    ·rw [Array.setIfInBounds_comm _ _ hji]
     exact hrest
   ·have hyS : YG P ops S oi v a := by
     rcases hy with ⟨h, _⟩ | h
     ·exact absurd h hTi
     ·exact h
    have h2 := wpOp_putG hoj (hfree j oj hoj hji hjun hnot) (fun cs b => hsel i oi cs b hi) (fun cs b => hsel j oj cs b hoj) hQ hyS h1
    refine wpOp_mono (fun a' w' h3 => ?_) h2
    obtain ⟨hy', C', S', hc', hsub, hSS, hw', hrest⟩ := h3
    rcases hSS with hSS | ⟨oj', hoj', hf⟩
    case inr => exact absurd (hFree hoj' hf).1 hTi
    refine ⟨C', S', hc', hsub, .inl hSS, hw', ih S' (listed.setIfInBounds j true) C' a' hc' hsub hfree' (ready_mono hr (Ne.symm hji)) (.inr (hy'.mono hSS)) (fun h => absurd h hTi) ?_⟩
    rw [Array.setIfInBounds_comm _ _ hji]
    exact hrest
def WT (T : Nat → Bool) (P : Program) (n : Nat) (ops : Array Oper) (Q : Exit → Act → World → Prop) (S : World → Prop) (fuel : Nat) (listed : Array Bool) (σ : Env) (C : World → Prop) : Prop :=
 (∀ x, C x → S x) → ∀ a, Has n a σ → wpAnyT T P .any ops Q S fuel listed C a
theorem WC.drawnT (T : Nat → Bool) {id : Nat} (hm : P.follows .mixedOrders = true) (hc : Closed C) (hCS : ∀ x, C x → S x) (h : WT T P n ops Q S ops.size (Array.replicate ops.size false) σ C) : WK n ((Code.region id ops true).wp P Q) σ C := fun a w ha hw =>
 wp_region_any hm (wpAny_of_T S _ _ C a _ DC.start (hc w _ hw ⟨rfl, rfl, ⟨rfl, Nat.le_succ _⟩, Nat.le_refl _, fun _ _ => rfl⟩) (h hCS a ha))
theorem WT.take (i : Nat) {oi : Oper} {fuel : Nat} {listed listed' : Array Bool} {G : Bool} {v : Value} {d : Nat} (hi : ops[i]? = some oi)
  (hs : Region.noSelect ops = true) (hf : Region.free .any ops listed i = true) (hr : (Region.ready .any ops listed).contains i = true) (hl : listed.setIfInBounds i true = listed')
  (hQ : PanicOk Q) (hc : Closed C) (hd : oi.dst = some d) (hn : d < n) (hG : GuardIs ops σ oi.guard G) (hq : G = true → QV P oi σ S v) (hqT : T i = true → G = true → QV P oi σ (fun _ => True) v)
  (k : WT T P n ops Q S fuel listed' ((d, (G, v)) :: σ) C) : WT T P n ops Q S (fuel + 1) listed σ C := fun hCS a ha => by
 subst hl
 have hp := k hCS _ (ha.put hn G v)
 rw [← hd] at hp
 have hg := hG n a ha
 refine wpAnyT_first hi (Region.noSelect_spec hs) (fun c a w => hQ c a _ _ w) fuel S listed C a hc hCS (Region.free_spec hi hf) (by simpa using hr) (.inr ?_) (fun hT => ?_) hp
 ·cases G with
  | true => exact .inl ⟨hg, fun w hw => hq rfl n a ha w hw⟩
  | false => exact .inr ⟨hg, rfl⟩
 ·cases G with
  | true => exact .inl ⟨hg, fun w hw => hqT hT rfl n a ha w hw⟩
  | false => exact .inr ⟨hg, rfl⟩
def aheadB (ops : Array Oper) : Nat → Oper → Nat → Bool
 | 0, _, _ => false
 | n + 1, o, k => o.after.any fun e => Region.binds .any e && (e.on == k || match ops[e.on]? with | some o' => aheadB ops n o' k | none => false)
theorem aheadB_spec : ∀ {m : Nat} {o : Oper} {k : Nat}, aheadB ops m o k = true → ahead .any ops m o k
 | 0, _, _, h => by cases h
 | m + 1, o, k, h => by
  obtain ⟨e, he, h1⟩ := Array.any_eq_true'.1 h
  simp only [Bool.and_eq_true, Bool.or_eq_true, beq_iff_eq] at h1
  refine ⟨e, he, h1.1, ?_⟩
  rcases h1.2 with h2 | h2
  ·exact .inl h2
  ·cases ho : ops[e.on]? with
   | none => rw [ho] at h2; cases h2
   | some o' =>
    rw [ho] at h2
    exact .inr ⟨o', rfl, aheadB_spec h2⟩
def freeB (T : Nat → Bool) (ops : Array Oper) (oj : Oper) (listed : Array Bool) : Bool := (List.range listed.size).all fun k => !listed.getD k false || (T k || aheadB ops 5 oj k)
theorem freeB_spec {oj : Oper} {listed : Array Bool} (h : freeB T ops oj listed = true) : FreeT T .any ops listed oj := fun k hk => by
 have hlt : k < listed.size := by
  rcases Nat.lt_or_ge k listed.size with h' | h'
  ·exact h'
  ·simp [Array.getElem?_eq_none h'] at hk
 have := List.all_eq_true.1 h k (List.mem_range.2 hlt)
 rw [hk, Bool.not_true, Bool.false_or, Bool.or_eq_true] at this
 rcases this with h0 | this
 ·exact .inl h0
 ·exact .inr (aheadB_spec this)
theorem WT.free (i : Nat) {oi : Oper} {fuel : Nat} {listed listed' : Array Bool} {τ : Env} {C' : World → Prop} (hi : ops[i]? = some oi) (hr : Region.ready .any ops listed = [i]) (hl : listed.setIfInBounds i true = listed')
  (hg : oi.guard = none) (hf : freeB T ops oi listed = true) (hc : Closed C') (h : EV P n oi σ C (fun a' w' => Has n a' τ ∧ C' w') Q) (k : WT T P n ops Q C' fuel listed' τ C') : WT T P n ops Q S (fuel + 1) listed σ C := fun hCS a ha => by
 subst hl
 intro _
 refine .inl ⟨fun h0 => (by rw [hr] at h0; cases h0), fun j hj w hw => ?_⟩
 rw [hr, List.mem_singleton] at hj
 subst hj
 refine wpOp_mono (K := fun a' w' => Has n a' τ ∧ C' w') (fun a' w' hq => ⟨C', C', hc, fun _ h => h, .inr ⟨oi, hi, freeB_spec hf⟩, hq.2, k (fun _ h => h) a' hq.1⟩) ?_
 unfold Go.wpOp
 simp only [hi]
 rw [if_pos (by simp [Region.wanted, hg])]
 exact h a w ha hw
theorem WT.last (i : Nat) {oi : Oper} {fuel : Nat} {listed : Array Bool} (hi : ops[i]? = some oi) (hr : Region.ready .any ops listed = [i]) (ht : tailB ops oi listed = true) (hl : Region.ready .any ops (listed.setIfInBounds i true) = [])
  (hg : oi.guard = none) (h : EV P n oi σ C (Q .normal) Q) : WT T P n ops Q S (fuel + 1) listed σ C := fun hCS a ha => by
 intro _
 refine .inr ⟨⟨i, oi, hi, hr, tailB_spec ht⟩, fun w hw => ⟨fun h0 => (by rw [hr] at h0; cases h0), fun j hj => ?_⟩⟩
 rw [hr, List.mem_singleton] at hj
 subst hj
 refine wpOp_mono (K := Q .normal) (fun a' w' hq => ?_) ?_
 ·cases fuel with
  | zero => exact ⟨hl, hq⟩
  | succ f => exact ⟨fun _ => hq, by rw [hl]; simp⟩
 ·unfold Go.wpOp
  simp only [hi]
  rw [if_pos (by simp [Region.wanted, hg])]
  exact h a w ha hw
end
section
variable {P : Program} {n : Nat} {ops : Array Oper} {Q : Exit → Act → World → Prop} {oi : Oper} {σ : Env} {M : Nat → Prop} {w0 : World} {H H' : List Res} {v : Value} {d : Nat} {S : World → Prop} {T : Nat → Bool}
theorem WC.drT {id m : Nat} (T : Nat → Bool) (hm : P.follows .mixedOrders = true) (hs : ops.size = m) (h0 : (Array.replicate m false == lst m 0) = true) (h : WT T P n ops Q (Own M w0 H) m (lst m 0) σ (Own M w0 H)) : WK n ((Code.region id ops true).wp P Q) σ (Own M w0 H) := by
 subst hs
 rw [← beq_iff_eq.1 h0] at h
 exact WC.drawnT T hm Own.closed (fun _ h => h) h
theorem WT.q (i k k' : Nat) {m fuel : Nat} [hQ : POk Q] (hi : ops[i]? = some oi) (ht : takeOkL ops i m k k' = true) (hd : oi.dst = some d) (hg : oi.guard = none) (hn : Nat.blt d n = true) (hT : T i = false) (hq : QV P oi σ S v)
  (kk : WT T P n ops Q S fuel (lst m k') ((d, (true, v)) :: σ) (Own M w0 H)) : WT T P n ops Q S (fuel + 1) (lst m k) σ (Own M w0 H) := by
 unfold takeOkL at ht
 simp only [Bool.and_eq_true, beq_iff_eq] at ht
 exact WT.take i hi ht.1.1.1 ht.1.1.2 ht.1.2 ht.2 hQ.ok Own.closed hd (by simpa [Nat.blt_eq] using hn) (hg ▸ GuardIs.none) (fun _ => hq) (fun h => by rw [hT] at h; cases h) kk
theorem WT.qp (i k k' : Nat) {m fuel : Nat} [hQ : POk Q] (hi : ops[i]? = some oi) (ht : takeOkL ops i m k k' = true) (hd : oi.dst = some d) (hg : oi.guard = none) (hn : Nat.blt d n = true) (hq : QV P oi σ (fun _ => True) v)
  (kk : WT T P n ops Q S fuel (lst m k') ((d, (true, v)) :: σ) (Own M w0 H)) : WT T P n ops Q S (fuel + 1) (lst m k) σ (Own M w0 H) := by
 unfold takeOkL at ht
 simp only [Bool.and_eq_true, beq_iff_eq] at ht
 exact WT.take i hi ht.1.1.1 ht.1.1.2 ht.1.2 ht.2 hQ.ok Own.closed hd (by simpa [Nat.blt_eq] using hn) (hg ▸ GuardIs.none) (fun _ n' a ha w _ => hq n' a ha w trivial) (fun _ _ => hq) kk
theorem WT.o (i k k' : Nat) {m fuel : Nat} (hi : ops[i]? = some oi) (ht : onlyOkL ops i m k k' = true) (hg : oi.guard = none) (hf : freeB T ops oi (lst m k) = true)
  (h : EV P n oi σ (Own M w0 H) (fun a' w' => Has n a' σ ∧ Own M w0 H' w') Q) (kk : WT T P n ops Q (Own M w0 H') fuel (lst m k') σ (Own M w0 H')) : WT T P n ops Q S (fuel + 1) (lst m k) σ (Own M w0 H) := by
 unfold onlyOkL at ht
 simp only [Bool.and_eq_true, beq_iff_eq] at ht
 exact WT.free i hi ht.1 ht.2 hg hf Own.closed h kk
theorem WT.b (hs : ∀ w, Own M w0 H w → Own M w0 H' w) : WK n (fun a' w' => Has n a' σ ∧ Own M w0 H' w') σ (Own M w0 H) := fun a w ha hw => ⟨ha, hs w hw⟩
theorem WT.l (i k k' : Nat) {m fuel : Nat} (hi : ops[i]? = some oi) (ht : lastOkL ops i m k k' = true) (hg : oi.guard = none) (h : EV P n oi σ (Own M w0 H) (Q .normal) Q) : WT T P n ops Q S (fuel + 1) (lst m k) σ (Own M w0 H) := by
 unfold lastOkL at ht
 rw [hi] at ht
 simp only [Bool.and_eq_true, beq_iff_eq] at ht
 exact WT.last i hi ht.1.1 ht.1.2 (by rw [ht.2.2]; exact ht.2.1) hg h
end
section
variable {P : Program} {σ : Env} {C : World → Prop} {d : Option Tmp} {T U z : TypeId} {pos : String} {after : Array Edge} {gd : Option (Nat × Bool)} {x y : Operand} {g g' : Bool} {i j : Int}
theorem QV.shrU {k' : IntKind} (hx : σ.ev x = some (g, .int .u64 i)) (hg : g = true) (hy : σ.ev y = some (g', .int k' j)) (hg' : g' = true) (h0 : 0 ≤ j) : QV P ⟨d, .binOp .shr U x y z, T, pos, after, gd⟩ σ C (.int .u64 (Go.Rd.shrD i j)) := QV.shrW hx hg hy hg' h0
end
abbrev len8T : List UInt8 := [0, 1, 2, 2, 3, 3, 3, 3, 4, 4, 4, 4, 4, 4, 4, 4, 5, 5, 5, 5, 5, 5, 5, 5, 5, 5, 5, 5, 5, 5, 5, 5, 6, 6, 6, 6, 6, 6, 6, 6, 6, 6, 6, 6, 6, 6, 6, 6, 6, 6, 6, 6, 6, 6, 6, 6, 6, 6, 6, 6, 6, 6, 6, 6, 7, 7, 7, 7, 7, 7, 7, 7, 7, 7, 7, 7, 7, 7, 7, 7, 7, 7, 7, 7, 7, 7, 7, 7, 7, 7, 7, 7, 7, 7, 7, 7, 7, 7, 7, 7, 7, 7, 7, 7, 7, 7, 7, 7, 7, 7, 7, 7, 7, 7, 7, 7, 7, 7, 7, 7, 7, 7, 7, 7, 7, 7, 7, 7, 8, 8, 8, 8, 8, 8, 8, 8, 8, 8, 8, 8, 8, 8, 8, 8, 8, 8, 8, 8, 8, 8, 8, 8, 8, 8, 8, 8, 8, 8, 8, 8, 8, 8, 8, 8, 8, 8, 8, 8, 8, 8, 8, 8, 8, 8, 8, 8, 8, 8, 8, 8, 8, 8, 8, 8, 8, 8, 8, 8, 8, 8, 8, 8, 8, 8, 8, 8, 8, 8, 8, 8, 8, 8, 8, 8, 8, 8, 8, 8, 8, 8, 8, 8, 8, 8, 8, 8, 8, 8, 8, 8, 8, 8, 8, 8, 8, 8, 8, 8, 8, 8, 8, 8, 8, 8, 8, 8, 8, 8, 8, 8, 8, 8, 8, 8, 8, 8, 8, 8, 8, 8, 8, 8, 8, 8, 8, 8]
theorem sub_le {α : Type} {xs : List α} {i : Int} (h : SX i (ln xs) (ln xs)) : i.toNat ≤ xs.length := by unfold SX ln at h; omega
theorem sub_end {α : Type} {xs : List α} {i : Int} (h : SX i (ln xs) (ln xs)) : sub xs i (ln xs) = xs.drop i.toNat := by
 unfold sub SX ln at *
 rw [List.take_of_length_le (by rw [List.length_drop]; omega)]
end Go.Rd
end
section
namespace Go.Rd
noncomputable def kernel_machine_land_c1_m (a b : Due) : Option (Int) :=
 ck (IR (a.due - b.due)) <|
 some (a.due - b.due)
noncomputable def slices_swapRangeCmpFunc_kernel_result__L0 (a b n_ : Int) : ((List Due) × Int) → Option (Stp ((List Due) × Int) (Empty)) := fun (ows0_1, i10_1) =>
 br (decide (i10_1 < n_)) (
 ck (IR (a + i10_1)) <|
 ck (IR (b + i10_1)) <|
 ck (IR (b + i10_1)) <|
 ck (IX (b + i10_1) (ln ows0_1)) <|
 ck (IR (a + i10_1)) <|
 ck (IX (a + i10_1) (ln ows0_1)) <|
 ck (IX (a + i10_1) (ln ows0_1)) <|
 ck (IX (b + i10_1) (ln (upd ows0_1 (a + i10_1) (ele ows0_1 (b + i10_1))))) <|
 ck (IR (i10_1 + 1)) <|
 some (.next ((upd (upd ows0_1 (a + i10_1) (ele ows0_1 (b + i10_1))) (b + i10_1) (ele ows0_1 (a + i10_1))), (i10_1 + 1)))) (
 some (.brk (ows0_1, i10_1)))
noncomputable def slices_swapRangeCmpFunc_kernel_result__m (data : List Due) (a b n_ : Int) : Option (List Due) :=
 bd (lp (slices_swapRangeCmpFunc_kernel_result__L0 a b n_) (data, 0)) fun o1 => o1.on (fun (ows0_1, i10_1) =>
 some ows0_1) (fun r => r.elim)
noncomputable def slices_rotateCmpFunc_kernel_result__L0 (m_ : Int) : ((List Due) × Int × Int) → Option (Stp ((List Due) × Int × Int) (Empty)) := fun (ows0_1, i10_1, j11_1) =>
 br (i10_1 != j11_1) (
 br (decide (i10_1 > j11_1)) (
 ck (IR (m_ - i10_1)) <|
 bd (slices_swapRangeCmpFunc_kernel_result__m ows0_1 (m_ - i10_1) m_ j11_1) fun x16 =>
 ck (IR (i10_1 - j11_1)) <|
 some (.next (x16, (i10_1 - j11_1), j11_1))) (
 ck (IR (m_ - i10_1)) <|
 ck (IR (m_ + j11_1)) <|
 ck (IR ((m_ + j11_1) - i10_1)) <|
 bd (slices_swapRangeCmpFunc_kernel_result__m ows0_1 (m_ - i10_1) ((m_ + j11_1) - i10_1) i10_1) fun x29 =>
 ck (IR (j11_1 - i10_1)) <|
 some (.next (x29, i10_1, (j11_1 - i10_1))))) (
 some (.brk (ows0_1, i10_1, j11_1)))
noncomputable def slices_rotateCmpFunc_kernel_result__m (data : List Due) (a m_ b : Int) : Option (List Due) :=
 ck (IR (m_ - a)) <|
 ck (IR (b - m_)) <|
 bd (lp (slices_rotateCmpFunc_kernel_result__L0 m_) (data, (m_ - a), (b - m_))) fun o5 => o5.on (fun (ows0_1, i10_1, j11_1) =>
 ck (IR (m_ - i10_1)) <|
 bd (slices_swapRangeCmpFunc_kernel_result__m ows0_1 (m_ - i10_1) m_ i10_1) fun x12 =>
 some x12) (fun r => r.elim)
noncomputable def slices_insertionSortCmpFunc_kernel_result__L2 (a : Int) : ((List Due) × Int) → Option (Stp ((List Due) × Int) (Empty)) := fun (ows0_4, j9_4) =>
 ck ((decide (j9_4 > a)) = true → IX j9_4 (ln ows0_4)) <|
 ck ((decide (j9_4 > a)) = true → IR (j9_4 - 1)) <|
 ck ((decide (j9_4 > a)) = true → IX (j9_4 - 1) (ln ows0_4)) <|
 bdG (decide (j9_4 > a)) (kernel_machine_land_c1_m (ele ows0_4 j9_4) (ele ows0_4 (j9_4 - 1))) fun x25 =>
 br ((decide (j9_4 > a)) && (decide (x25 < 0))) (
 ck (IR (j9_4 - 1)) <|
 ck (IR (j9_4 - 1)) <|
 ck (IX (j9_4 - 1) (ln ows0_4)) <|
 ck (IX j9_4 (ln ows0_4)) <|
 ck (IX j9_4 (ln ows0_4)) <|
 ck (IX (j9_4 - 1) (ln (upd ows0_4 j9_4 (ele ows0_4 (j9_4 - 1))))) <|
 ck (IR (j9_4 - 1)) <|
 some (.next ((upd (upd ows0_4 j9_4 (ele ows0_4 (j9_4 - 1))) (j9_4 - 1) (ele ows0_4 j9_4)), (j9_4 - 1)))) (
 some (.brk (ows0_4, j9_4)))
noncomputable def slices_insertionSortCmpFunc_kernel_result__L0 (a b : Int) : ((List Due) × Int) → Option (Stp ((List Due) × Int) (Empty)) := fun (ows0_3, i8_3) =>
 br (decide (i8_3 < b)) (
 bd (lp (slices_insertionSortCmpFunc_kernel_result__L2 a) (ows0_3, i8_3)) fun o10 => o10.on (fun (ows0_4, j9_4) =>
 ck (IR (i8_3 + 1)) <|
 some (.next (ows0_4, (i8_3 + 1)))) (fun r => r.elim)) (
 some (.brk (ows0_3, i8_3)))
noncomputable def slices_insertionSortCmpFunc_kernel_result__m (data : List Due) (a b : Int) : Option (List Due) :=
 ck (IR (a + 1)) <|
 bd (lp (slices_insertionSortCmpFunc_kernel_result__L0 a b) (data, (a + 1))) fun o3 => o3.on (fun (ows0_3, i8_3) =>
 some ows0_3) (fun r => r.elim)
noncomputable def slices_symMergeCmpFunc_kernel_result__L0 (data : List Due) (a : Int) : (Int × Int) → Option (Stp (Int × Int) (Empty)) := fun (i10_1, j11_1) =>
 br (decide (i10_1 < j11_1)) (
 ck (IR (i10_1 + j11_1)) <|
 ck (IX (IntKind.i64.wrap (shrD (IntKind.u64.wrap (i10_1 + j11_1)) 1)) (ln data)) <|
 ck (IX a (ln data)) <|
 bd (kernel_machine_land_c1_m (ele data (IntKind.i64.wrap (shrD (IntKind.u64.wrap (i10_1 + j11_1)) 1))) (ele data a)) fun x22 =>
 br (decide (x22 < 0)) (
 ck (IR ((IntKind.i64.wrap (shrD (IntKind.u64.wrap (i10_1 + j11_1)) 1)) + 1)) <|
 some (.next (((IntKind.i64.wrap (shrD (IntKind.u64.wrap (i10_1 + j11_1)) 1)) + 1), j11_1))) (
 some (.next (i10_1, (IntKind.i64.wrap (shrD (IntKind.u64.wrap (i10_1 + j11_1)) 1)))))) (
 some (.brk (i10_1, j11_1)))
noncomputable def slices_symMergeCmpFunc_kernel_result__L2 (i10_1 : Int) : ((List Due) × Int) → Option (Stp ((List Due) × Int) (Empty)) := fun (ows0_2, k13_2) =>
 ck (IR (i10_1 - 1)) <|
 br (decide (k13_2 < (i10_1 - 1))) (
 ck (IR (k13_2 + 1)) <|
 ck (IR (k13_2 + 1)) <|
 ck (IX (k13_2 + 1) (ln ows0_2)) <|
 ck (IX k13_2 (ln ows0_2)) <|
 ck (IX k13_2 (ln ows0_2)) <|
 ck (IX (k13_2 + 1) (ln (upd ows0_2 k13_2 (ele ows0_2 (k13_2 + 1))))) <|
 ck (IR (k13_2 + 1)) <|
 some (.next ((upd (upd ows0_2 k13_2 (ele ows0_2 (k13_2 + 1))) (k13_2 + 1) (ele ows0_2 k13_2)), (k13_2 + 1)))) (
 some (.brk (ows0_2, k13_2)))
noncomputable def slices_symMergeCmpFunc_kernel_result__L4 (data : List Due) (m_ : Int) : (Int × Int) → Option (Stp (Int × Int) (Empty)) := fun (i14_3, j15_3) =>
 br (decide (i14_3 < j15_3)) (
 ck (IR (i14_3 + j15_3)) <|
 ck (IX m_ (ln data)) <|
 ck (IX (IntKind.i64.wrap (shrD (IntKind.u64.wrap (i14_3 + j15_3)) 1)) (ln data)) <|
 bd (kernel_machine_land_c1_m (ele data m_) (ele data (IntKind.i64.wrap (shrD (IntKind.u64.wrap (i14_3 + j15_3)) 1)))) fun x99 =>
 br (!(decide (x99 < 0))) (
 ck (IR ((IntKind.i64.wrap (shrD (IntKind.u64.wrap (i14_3 + j15_3)) 1)) + 1)) <|
 some (.next (((IntKind.i64.wrap (shrD (IntKind.u64.wrap (i14_3 + j15_3)) 1)) + 1), j15_3))) (
 some (.next (i14_3, (IntKind.i64.wrap (shrD (IntKind.u64.wrap (i14_3 + j15_3)) 1)))))) (
 some (.brk (i14_3, j15_3)))
noncomputable def slices_symMergeCmpFunc_kernel_result__L6 (i14_3 : Int) : ((List Due) × Int) → Option (Stp ((List Due) × Int) (Empty)) := fun (ows0_4, k17_4) =>
 br (decide (k17_4 > i14_3)) (
 ck (IR (k17_4 - 1)) <|
 ck (IR (k17_4 - 1)) <|
 ck (IX (k17_4 - 1) (ln ows0_4)) <|
 ck (IX k17_4 (ln ows0_4)) <|
 ck (IX k17_4 (ln ows0_4)) <|
 ck (IX (k17_4 - 1) (ln (upd ows0_4 k17_4 (ele ows0_4 (k17_4 - 1))))) <|
 ck (IR (k17_4 - 1)) <|
 some (.next ((upd (upd ows0_4 k17_4 (ele ows0_4 (k17_4 - 1))) (k17_4 - 1) (ele ows0_4 k17_4)), (k17_4 - 1)))) (
 some (.brk (ows0_4, k17_4)))
noncomputable def slices_symMergeCmpFunc_kernel_result__L8 (data : List Due) (a m_ b : Int) : (Int × Int) → Option (Stp (Int × Int) (Empty)) := fun (start20_6, r21_6) =>
 br (decide (start20_6 < r21_6)) (
 ck (IR (start20_6 + r21_6)) <|
 ck (IR ((((IntKind.i64.wrap (shrD (IntKind.u64.wrap (a + b)) 1)) + m_) - 1) - (IntKind.i64.wrap (shrD (IntKind.u64.wrap (start20_6 + r21_6)) 1)))) <|
 ck (IX ((((IntKind.i64.wrap (shrD (IntKind.u64.wrap (a + b)) 1)) + m_) - 1) - (IntKind.i64.wrap (shrD (IntKind.u64.wrap (start20_6 + r21_6)) 1))) (ln data)) <|
 ck (IX (IntKind.i64.wrap (shrD (IntKind.u64.wrap (start20_6 + r21_6)) 1)) (ln data)) <|
 bd (kernel_machine_land_c1_m (ele data ((((IntKind.i64.wrap (shrD (IntKind.u64.wrap (a + b)) 1)) + m_) - 1) - (IntKind.i64.wrap (shrD (IntKind.u64.wrap (start20_6 + r21_6)) 1)))) (ele data (IntKind.i64.wrap (shrD (IntKind.u64.wrap (start20_6 + r21_6)) 1)))) fun x181 =>
 br (!(decide (x181 < 0))) (
 ck (IR ((IntKind.i64.wrap (shrD (IntKind.u64.wrap (start20_6 + r21_6)) 1)) + 1)) <|
 some (.next (((IntKind.i64.wrap (shrD (IntKind.u64.wrap (start20_6 + r21_6)) 1)) + 1), r21_6))) (
 some (.next (start20_6, (IntKind.i64.wrap (shrD (IntKind.u64.wrap (start20_6 + r21_6)) 1)))))) (
 some (.brk (start20_6, r21_6)))
noncomputable def slices_symMergeCmpFunc_kernel_result__m : Nat → (List Due) → Int → Int → Int → Option (List Due)
 | 0, _, _, _, _ => none
 | fl + 1, data, a, m_, b =>
 ck (IR (m_ - a)) <|
 br ((m_ - a) == 1) (
 bd (lp (slices_symMergeCmpFunc_kernel_result__L0 data a) (m_, b)) fun o5 => o5.on (fun (i10_1, j11_1) =>
 bd (lp (slices_symMergeCmpFunc_kernel_result__L2 i10_1) (data, a)) fun o10 => o10.on (fun (ows0_2, k13_2) =>
 some ows0_2) (fun r => r.elim)) (fun r => r.elim)) (
 ck (IR (b - m_)) <|
 br ((b - m_) == 1) (
 bd (lp (slices_symMergeCmpFunc_kernel_result__L4 data m_) (a, m_)) fun o82 => o82.on (fun (i14_3, j15_3) =>
 bd (lp (slices_symMergeCmpFunc_kernel_result__L6 i14_3) (data, m_)) fun o87 => o87.on (fun (ows0_4, k17_4) =>
 some ows0_4) (fun r => r.elim)) (fun r => r.elim)) (
 ck (IR (a + b)) <|
 ck (IR ((IntKind.i64.wrap (shrD (IntKind.u64.wrap (a + b)) 1)) + m_)) <|
 bd (show Option (Out (Int × Int) (Empty)) from br (decide (m_ > (IntKind.i64.wrap (shrD (IntKind.u64.wrap (a + b)) 1)))) (
 ck (IR (((IntKind.i64.wrap (shrD (IntKind.u64.wrap (a + b)) 1)) + m_) - b)) <|
 some (.go ((((IntKind.i64.wrap (shrD (IntKind.u64.wrap (a + b)) 1)) + m_) - b), (IntKind.i64.wrap (shrD (IntKind.u64.wrap (a + b)) 1))))) (
 some (.go (a, m_)))) fun o157 => o157.on (fun (start20_5, r21_5) =>
 ck (IR (((IntKind.i64.wrap (shrD (IntKind.u64.wrap (a + b)) 1)) + m_) - 1)) <|
 bd (lp (slices_symMergeCmpFunc_kernel_result__L8 data a m_ b) (start20_5, r21_5)) fun o162 => o162.on (fun (start20_6, r21_6) =>
 ck (IR (((IntKind.i64.wrap (shrD (IntKind.u64.wrap (a + b)) 1)) + m_) - start20_6)) <|
 br ((decide (start20_6 < m_)) && (decide (m_ < (((IntKind.i64.wrap (shrD (IntKind.u64.wrap (a + b)) 1)) + m_) - start20_6)))) (
 bd (slices_rotateCmpFunc_kernel_result__m data start20_6 m_ (((IntKind.i64.wrap (shrD (IntKind.u64.wrap (a + b)) 1)) + m_) - start20_6)) fun x171 =>
 br ((decide (a < start20_6)) && (decide (start20_6 < (IntKind.i64.wrap (shrD (IntKind.u64.wrap (a + b)) 1))))) (
 bd (slices_symMergeCmpFunc_kernel_result__m fl x171 a start20_6 (IntKind.i64.wrap (shrD (IntKind.u64.wrap (a + b)) 1))) fun x177 =>
 br ((decide ((IntKind.i64.wrap (shrD (IntKind.u64.wrap (a + b)) 1)) < (((IntKind.i64.wrap (shrD (IntKind.u64.wrap (a + b)) 1)) + m_) - start20_6))) && (decide ((((IntKind.i64.wrap (shrD (IntKind.u64.wrap (a + b)) 1)) + m_) - start20_6) < b))) (
 bd (slices_symMergeCmpFunc_kernel_result__m fl x177 (IntKind.i64.wrap (shrD (IntKind.u64.wrap (a + b)) 1)) (((IntKind.i64.wrap (shrD (IntKind.u64.wrap (a + b)) 1)) + m_) - start20_6) b) fun x183 =>
 some x183) (
 some x177)) (
 br ((decide ((IntKind.i64.wrap (shrD (IntKind.u64.wrap (a + b)) 1)) < (((IntKind.i64.wrap (shrD (IntKind.u64.wrap (a + b)) 1)) + m_) - start20_6))) && (decide ((((IntKind.i64.wrap (shrD (IntKind.u64.wrap (a + b)) 1)) + m_) - start20_6) < b))) (
 bd (slices_symMergeCmpFunc_kernel_result__m fl x171 (IntKind.i64.wrap (shrD (IntKind.u64.wrap (a + b)) 1)) (((IntKind.i64.wrap (shrD (IntKind.u64.wrap (a + b)) 1)) + m_) - start20_6) b) fun x191 =>
 some x191) (
 some x171))) (
 br ((decide (a < start20_6)) && (decide (start20_6 < (IntKind.i64.wrap (shrD (IntKind.u64.wrap (a + b)) 1))))) (
 bd (slices_symMergeCmpFunc_kernel_result__m fl data a start20_6 (IntKind.i64.wrap (shrD (IntKind.u64.wrap (a + b)) 1))) fun x199 =>
 br ((decide ((IntKind.i64.wrap (shrD (IntKind.u64.wrap (a + b)) 1)) < (((IntKind.i64.wrap (shrD (IntKind.u64.wrap (a + b)) 1)) + m_) - start20_6))) && (decide ((((IntKind.i64.wrap (shrD (IntKind.u64.wrap (a + b)) 1)) + m_) - start20_6) < b))) (
 bd (slices_symMergeCmpFunc_kernel_result__m fl x199 (IntKind.i64.wrap (shrD (IntKind.u64.wrap (a + b)) 1)) (((IntKind.i64.wrap (shrD (IntKind.u64.wrap (a + b)) 1)) + m_) - start20_6) b) fun x205 =>
 some x205) (
 some x199)) (
 br ((decide ((IntKind.i64.wrap (shrD (IntKind.u64.wrap (a + b)) 1)) < (((IntKind.i64.wrap (shrD (IntKind.u64.wrap (a + b)) 1)) + m_) - start20_6))) && (decide ((((IntKind.i64.wrap (shrD (IntKind.u64.wrap (a + b)) 1)) + m_) - start20_6) < b))) (
 bd (slices_symMergeCmpFunc_kernel_result__m fl data (IntKind.i64.wrap (shrD (IntKind.u64.wrap (a + b)) 1)) (((IntKind.i64.wrap (shrD (IntKind.u64.wrap (a + b)) 1)) + m_) - start20_6) b) fun x213 =>
 some x213) (
 some data)))) (fun r => r.elim)) (fun r => r.elim)))
noncomputable def slices_stableCmpFunc_kernel_result__L0 (n_ : Int) : ((List Due) × Int × Int) → Option (Stp ((List Due) × Int × Int) (Empty)) := fun (ows0_1, a7_1, b8_1) =>
 br (decide (b8_1 ≤ n_)) (
 bd (slices_insertionSortCmpFunc_kernel_result__m ows0_1 a7_1 b8_1) fun x8 =>
 ck (IR (b8_1 + 20)) <|
 some (.next (x8, b8_1, (b8_1 + 20)))) (
 some (.brk (ows0_1, a7_1, b8_1)))
noncomputable def slices_stableCmpFunc_kernel_result__L4 (n_ blockSize6_4 : Int) : ((List Due) × Int × Int) → Option (Stp ((List Due) × Int × Int) (Empty)) := fun (ows0_5, a7_5, b8_5) =>
 br (decide (b8_5 ≤ n_)) (
 ck (IR (a7_5 + blockSize6_4)) <|
 bd (slices_symMergeCmpFunc_kernel_result__m 64 ows0_5 a7_5 (a7_5 + blockSize6_4) b8_5) fun x28 =>
 ck (IR (2 * blockSize6_4)) <|
 ck (IR (b8_5 + (2 * blockSize6_4))) <|
 some (.next (x28, b8_5, (b8_5 + (2 * blockSize6_4))))) (
 some (.brk (ows0_5, a7_5, b8_5)))
noncomputable def slices_stableCmpFunc_kernel_result__L2 (n_ : Int) : ((List Due) × Int) → Option (Stp ((List Due) × Int) (Empty)) := fun (ows0_4, blockSize6_4) =>
 br (decide (blockSize6_4 < n_)) (
 ck (IR (2 * blockSize6_4)) <|
 bd (lp (slices_stableCmpFunc_kernel_result__L4 n_ blockSize6_4) (ows0_4, 0, (2 * blockSize6_4))) fun o19 => o19.on (fun (ows0_5, a7_5, b8_5) =>
 ck (IR (a7_5 + blockSize6_4)) <|
 br (decide ((a7_5 + blockSize6_4) < n_)) (
 bd (slices_symMergeCmpFunc_kernel_result__m 64 ows0_5 a7_5 (a7_5 + blockSize6_4) n_) fun x28 =>
 ck (IR (blockSize6_4 * 2)) <|
 some (.next (x28, (blockSize6_4 * 2)))) (
 ck (IR (blockSize6_4 * 2)) <|
 some (.next (ows0_5, (blockSize6_4 * 2))))) (fun r => r.elim)) (
 some (.brk (ows0_4, blockSize6_4)))
noncomputable def slices_stableCmpFunc_kernel_result__m (data : List Due) (n_ : Int) : Option (List Due) :=
 bd (lp (slices_stableCmpFunc_kernel_result__L0 n_) (data, 0, 20)) fun o1 => o1.on (fun (ows0_1, a7_1, b8_1) =>
 bd (slices_insertionSortCmpFunc_kernel_result__m ows0_1 a7_1 n_) fun x6 =>
 bd (lp (slices_stableCmpFunc_kernel_result__L2 n_) (x6, 20)) fun o10 => o10.on (fun (ows0_4, blockSize6_4) =>
 some ows0_4) (fun r => r.elim)) (fun r => r.elim)
noncomputable def slices_SortStableFunc___kernel_result_kernel_result__m (x : List Due) : Option (List Due) :=
 bd (slices_stableCmpFunc_kernel_result__m x (ln x)) fun x1 =>
 some x1
noncomputable def math_bits_Len64_m (x : Int) : Option (Int) :=
 bd (show Option (Out (Int × Int) (Empty)) from br (decide (x ≥ 4294967296)) (
 some (.go ((shrD x 32), 32))) (
 some (.go (x, 0)))) fun o1 => o1.on (fun (x0_1, n2_1) =>
 bd (show Option (Out (Int × Int) (Empty)) from br (decide (x0_1 ≥ 65536)) (
 ck (IR (n2_1 + 16)) <|
 some (.go ((shrD x0_1 16), (n2_1 + 16)))) (
 some (.go (x0_1, n2_1)))) fun o4 => o4.on (fun (x0_2, n2_2) =>
 br (decide (x0_2 ≥ 256)) (
 ck (IR (n2_2 + 8)) <|
 ck (IX ((bt (shrD x0_2 8)).toNat : Int) (ln len8T)) <|
 ck (IR ((n2_2 + 8) + ((ele len8T ((bt (shrD x0_2 8)).toNat : Int)).toNat : Int))) <|
 some ((n2_2 + 8) + ((ele len8T ((bt (shrD x0_2 8)).toNat : Int)).toNat : Int))) (
 ck (IX ((bt x0_2).toNat : Int) (ln len8T)) <|
 ck (IR (n2_2 + ((ele len8T ((bt x0_2).toNat : Int)).toNat : Int))) <|
 some (n2_2 + ((ele len8T ((bt x0_2).toNat : Int)).toNat : Int)))) (fun r => r.elim)) (fun r => r.elim)
noncomputable def math_bits_Len_m (x : Int) : Option (Int) :=
 bd (math_bits_Len64_m x) fun x2 =>
 some x2
noncomputable def kernel_Logs_L0 (memory : List (List Int)) : ((List Int) × Int) → Option (Stp ((List Int) × Int) (List Int × Bool)) := fun (v1_1, x10_1) =>
 br (decide (x10_1 < (ln memory))) (
 ck (IX x10_1 (ln memory)) <|
 ck ((!((ln (ele memory x10_1)) == 0)) = true → IR ((ln (ele memory x10_1)) - 1)) <|
 br ((((ln (ele memory x10_1)) == 0) || ((bitAnd (ln (ele memory x10_1)) ((ln (ele memory x10_1)) - 1)) != 0)) || (decide ((ln (ele memory x10_1)) > 32))) (
 some (.ret ([], false))) (
 bd (math_bits_Len_m (IntKind.u64.wrap (ln (ele memory x10_1)))) fun x21 =>
 ck (IR (x21 - 1)) <|
 ck (AL (v1_1 ++ [(x21 - 1)]).length 8) <|
 ck (IR (x10_1 + 1)) <|
 some (.next ((v1_1 ++ [(x21 - 1)]), (x10_1 + 1))))) (
 some (.brk (v1_1, x10_1)))
noncomputable def kernel_Logs_m (memory : List (List Int)) : Option (List Int × Bool) :=
 bd (lp (kernel_Logs_L0 memory) ([], 0)) fun o2 => o2.on (fun (v1_1, x10_1) =>
 some (v1_1, true)) (fun r => some r)
noncomputable def kernel_machine_reg_m (m_Target : Tgt) (m_Kernel_Pace m_Kernel_Stages m_turns r_ pace : Int) : Option (Int) :=
 ck (IR (r_ + pace)) <|
 ck (m_Target.regs ≠ 0) <|
 some (Int.tmod (r_ + pace) m_Target.regs)
noncomputable def kernel_machine_land_L0 (cycle : Int) (x1 : List Due) : ((List Int) × Int) → Option (Stp ((List Int) × Int) (Empty)) := fun (own0v10_1, n4_1) =>
 ck ((decide (n4_1 < (ln x1))) = true → IX n4_1 (ln x1)) <|
 br ((decide (n4_1 < (ln x1))) && (decide ((ele x1 n4_1).due ≤ cycle))) (
 ck (IX n4_1 (ln x1)) <|
 ck (IX n4_1 (ln x1)) <|
 ck (IX ((ele x1 n4_1).reg) (ln own0v10_1)) <|
 ck (IR (n4_1 + 1)) <|
 some (.next ((upd own0v10_1 ((ele x1 n4_1).reg) ((ele x1 n4_1).v)), (n4_1 + 1)))) (
 some (.brk (own0v10_1, n4_1)))
noncomputable def kernel_machine_land_m (m_Target : Tgt) (m_Kernel_Pace m_Kernel_Stages : Int) (m_Kernel_Ops : List Opr) (m_regs : List Int) (m_memory : List (List Int)) (m_turns : Int) (m_pending : List Due) (cycle : Int) : Option (List Int × List Due) :=
 bd (slices_SortStableFunc___kernel_result_kernel_result__m m_pending) fun x1 =>
 bd (lp (kernel_machine_land_L0 cycle x1) (m_regs, 0)) fun o5 => o5.on (fun (own0v10_1, n4_1) =>
 ck (SX n4_1 (ln x1) (ln x1)) <|
 some (own0v10_1, (sub x1 n4_1 (ln x1)))) (fun r => r.elim)
noncomputable def R5_Uses_m (op : Int) : Option (Int) :=
 br (op == 4) (
 some 1) (
 br (decide (op > 10)) (
 some 2) (
 some 0))
noncomputable def R5_one_m (t : Tgt) (k_ : Krn) (o : Opr) (logs : List Int) : Option (Bool) :=
 ck ((!((((decide (o.slot < 0)) || (decide (o.slot ≥ k_.pace))) || (decide (o.stage < 0))) || (decide (o.stage ≥ k_.stages)))) = true → IR (o.stage * k_.pace)) <|
 ck ((!((((decide (o.slot < 0)) || (decide (o.slot ≥ k_.pace))) || (decide (o.stage < 0))) || (decide (o.stage ≥ k_.stages)))) = true → IR ((o.stage * k_.pace) + o.slot)) <|
 br (((((decide (o.slot < 0)) || (decide (o.slot ≥ k_.pace))) || (decide (o.stage < 0))) || (decide (o.stage ≥ k_.stages))) || (decide (((o.stage * k_.pace) + o.slot) > 1000))) (
 some false) (
 bd (R5_Uses_m o.op) fun x11 =>
 br ((((((((decide (o.dest < 0)) || (decide (o.dest ≥ t.regs))) || (decide (o.a < 0))) || (decide (o.b < 0))) || (decide (o.a ≥ t.regs))) || (decide (o.b ≥ t.regs))) || ((decide (x11 < 1)) && (o.a != 0))) || ((decide (x11 < 2)) && (o.b != 0))) (
 some false) (
 bd (R2_May_m (Lp.mk logs [(Stm.mk 2 (Rf.mk 0 0) (Rf.mk 0 0) 0 0 0 0), (Stm.mk o.op (Rf.mk 0 0) (Rf.mk 0 0) o.ar o.sp o.pl o.n)] [])) fun x19 =>
 some x19))
noncomputable def R5_May_L2 (k_ : Krn) (i7_2 x39 : Int) : (Int × Int) → Option (Stp (Int × Int) (Empty)) := fun (many9_3, j10_3) =>
 br (decide (j10_3 < (ln k_.ops))) (
 ck (IX j10_3 (ln k_.ops)) <|
 ck (IX i7_2 (ln k_.ops)) <|
 ck (((ele k_.ops j10_3).slot == (ele k_.ops i7_2).slot) = true → IX j10_3 (ln k_.ops)) <|
 bdG ((ele k_.ops j10_3).slot == (ele k_.ops i7_2).slot) (R1_Class_m ((ele k_.ops j10_3).op)) fun x61 =>
 br (((ele k_.ops j10_3).slot == (ele k_.ops i7_2).slot) && (x61 == x39)) (
 ck (IR (many9_3 + 1)) <|
 ck (IR (j10_3 + 1)) <|
 some (.next ((many9_3 + 1), (j10_3 + 1)))) (
 ck (IR (j10_3 + 1)) <|
 some (.next (many9_3, (j10_3 + 1))))) (
 some (.brk (many9_3, j10_3)))
noncomputable def R5_May_L0 (t : Tgt) (k_ : Krn) (logs : List Int) : Int → Option (Stp (Int) (Bool)) := fun i7_2 =>
 br (decide (i7_2 < (ln k_.ops))) (
 ck (IX i7_2 (ln k_.ops)) <|
 bd (R5_one_m t k_ (ele k_.ops i7_2) logs) fun x29 =>
 br (!x29) (
 some (.ret false)) (
 ck (IX i7_2 (ln k_.ops)) <|
 bd (R1_Class_m ((ele k_.ops i7_2).op)) fun x39 =>
 bd (lp (R5_May_L2 k_ i7_2 x39) (0, 0)) fun o42 => o42.on (fun (many9_3, j10_3) =>
 ck (IX x39 3) <|
 br (decide (many9_3 > (sel3 t.u0 t.u1 t.u2 x39))) (
 some (.ret false)) (
 ck (IR (i7_2 + 1)) <|
 some (.next (i7_2 + 1)))) (fun r => r.elim))) (
 some (.brk i7_2))
noncomputable def R5_May_m (t : Tgt) (k_ : Krn) (logs : List Int) : Option (Bool) :=
 bd (R4_May_m t) fun x3 =>
 bdG (!(!x3)) (R2_Within_m k_.pace 1 200) fun x6 =>
 bdG (!((!x3) || (!x6))) (R2_Within_m k_.stages 1 1001) fun x9 =>
 bdG (!(((!x3) || (!x6)) || (!x9))) (R2_Within_m (ln k_.ops) 1 16) fun x12 =>
 br ((((!x3) || (!x6)) || (!x9)) || (!x12)) (
 some false) (
 bd (lp (R5_May_L0 t k_ logs) 0) fun o18 => o18.on (fun i7_2 =>
 some true) (fun r => some r))
noncomputable def R5_Logs_L2 (m_ : List (List Int)) (i5_4 : Int) : Int → Option (Stp (Int) (Empty)) := fun log6_5 =>
 bdG (decide (log6_5 ≤ 5)) (R1_Size_m log6_5) fun x14 =>
 ck ((decide (log6_5 ≤ 5)) = true → IX i5_4 (ln m_)) <|
 br ((decide (log6_5 ≤ 5)) && (x14 != (ln (ele m_ i5_4)))) (
 ck (IR (log6_5 + 1)) <|
 some (.next (log6_5 + 1))) (
 some (.brk log6_5))
noncomputable def R5_Logs_L0 (m_ : List (List Int)) : ((List Int) × Int) → Option (Stp ((List Int) × Int) (List Int × Bool)) := fun (v1_4, i5_4) =>
 br (decide (i5_4 < (ln m_))) (
 bd (lp (R5_Logs_L2 m_ i5_4) 0) fun o9 => o9.on (fun log6_5 =>
 br (decide (log6_5 > 5)) (
 some (.ret ([], false))) (
 ck (AL (v1_4 ++ [log6_5]).length 8) <|
 ck (IR (i5_4 + 1)) <|
 some (.next ((v1_4 ++ [log6_5]), (i5_4 + 1))))) (fun r => r.elim)) (
 some (.brk (v1_4, i5_4)))
noncomputable def R5_Logs_m (m_ : List (List Int)) : Option (List Int × Bool) :=
 bd (lp (R5_Logs_L0 m_) ([], 0)) fun o2 => o2.on (fun (v1_4, i5_4) =>
 some (v1_4, true)) (fun r => some r)
noncomputable def R5_Play_L2 (v28_9 : List Due) (now18_9 : Int) : ((List Int) × (List Due) × Int) → Option (Stp ((List Int) × (List Due) × Int) (Empty)) := fun (v3_10, v41_10, i20_10) =>
 br (decide (i20_10 < (ln v28_9))) (
 ck (IX i20_10 (ln v28_9)) <|
 br ((ele v28_9 i20_10).due == now18_9) (
 ck (IX i20_10 (ln v28_9)) <|
 ck (IX i20_10 (ln v28_9)) <|
 ck (IX ((ele v28_9 i20_10).reg) (ln v3_10)) <|
 ck (IR (i20_10 + 1)) <|
 some (.next ((upd v3_10 ((ele v28_9 i20_10).reg) ((ele v28_9 i20_10).v)), v41_10, (i20_10 + 1)))) (
 ck (IX i20_10 (ln v28_9)) <|
 ck (AL (v41_10 ++ [(ele v28_9 i20_10)]).length 24) <|
 ck (IR (i20_10 + 1)) <|
 some (.next (v3_10, (v41_10 ++ [(ele v28_9 i20_10)]), (i20_10 + 1))))) (
 some (.brk (v3_10, v41_10, i20_10)))
noncomputable def R5_Play_L4 (t : Tgt) (k_ : Krn) (regs : List Int) (turns : Int) (x13 : List Int × Bool) (m13_9 : List (List Int)) (now18_9 : Int) (v3_10 : List Int) : ((List Due) × (List (List Int)) × Int) → Option (Stp ((List Due) × (List (List Int)) × Int) (Empty)) := fun (v41_11, r60_11, i23_11) =>
 br (decide (i23_11 < (ln k_.ops))) (
 ck (IX i23_11 (ln k_.ops)) <|
 ck (IR ((Int.tdiv now18_9 k_.pace) - (ele k_.ops i23_11).stage)) <|
 ck (k_.pace ≠ 0) <|
 br ((((ele k_.ops i23_11).slot != (Int.tmod now18_9 k_.pace)) || (decide (((Int.tdiv now18_9 k_.pace) - (ele k_.ops i23_11).stage) < 0))) || (decide (((Int.tdiv now18_9 k_.pace) - (ele k_.ops i23_11).stage) ≥ turns))) (
 ck (IR (i23_11 + 1)) <|
 some (.next (v41_11, r60_11, (i23_11 + 1)))) (
 ck (IR ((ele k_.ops i23_11).a + (Int.tdiv now18_9 k_.pace))) <|
 ck (t.regs ≠ 0) <|
 ck (IX (Int.tmod ((ele k_.ops i23_11).a + (Int.tdiv now18_9 k_.pace)) t.regs) (ln v3_10)) <|
 ck (IR ((ele k_.ops i23_11).b + (Int.tdiv now18_9 k_.pace))) <|
 ck (t.regs ≠ 0) <|
 ck (IX (Int.tmod ((ele k_.ops i23_11).b + (Int.tdiv now18_9 k_.pace)) t.regs) (ln v3_10)) <|
 br ((ele k_.ops i23_11).op == 1) (
 bd (R1_Class_m ((ele k_.ops i23_11).op)) fun x100 =>
 ck (IX x100 3) <|
 ck (IR (now18_9 + (sel3 t.w0 t.w1 t.w2 x100))) <|
 ck (IR ((ele k_.ops i23_11).dest + (Int.tdiv now18_9 k_.pace))) <|
 ck (t.regs ≠ 0) <|
 ck (AL (v41_11 ++ [(Due.mk (now18_9 + (sel3 t.w0 t.w1 t.w2 x100)) (Int.tmod ((ele k_.ops i23_11).dest + (Int.tdiv now18_9 k_.pace)) t.regs) ((ele k_.ops i23_11).n))]).length 24) <|
 ck (IR (i23_11 + 1)) <|
 some (.next ((v41_11 ++ [(Due.mk (now18_9 + (sel3 t.w0 t.w1 t.w2 x100)) (Int.tmod ((ele k_.ops i23_11).dest + (Int.tdiv now18_9 k_.pace)) t.regs) ((ele k_.ops i23_11).n))]), r60_11, (i23_11 + 1)))) (
 br ((ele k_.ops i23_11).op == 2) (
 bd (R1_Class_m ((ele k_.ops i23_11).op)) fun x121 =>
 ck (IX x121 3) <|
 ck (IR (now18_9 + (sel3 t.w0 t.w1 t.w2 x121))) <|
 ck (IR ((ele k_.ops i23_11).dest + (Int.tdiv now18_9 k_.pace))) <|
 ck (t.regs ≠ 0) <|
 ck (AL (v41_11 ++ [(Due.mk (now18_9 + (sel3 t.w0 t.w1 t.w2 x121)) (Int.tmod ((ele k_.ops i23_11).dest + (Int.tdiv now18_9 k_.pace)) t.regs) ((Int.tdiv now18_9 k_.pace) - (ele k_.ops i23_11).stage))]).length 24) <|
 ck (IR (i23_11 + 1)) <|
 some (.next ((v41_11 ++ [(Due.mk (now18_9 + (sel3 t.w0 t.w1 t.w2 x121)) (Int.tmod ((ele k_.ops i23_11).dest + (Int.tdiv now18_9 k_.pace)) t.regs) ((Int.tdiv now18_9 k_.pace) - (ele k_.ops i23_11).stage))]), r60_11, (i23_11 + 1)))) (
 br ((ele k_.ops i23_11).op == 3) (
 ck (IX ((ele k_.ops i23_11).ar) (ln m13_9)) <|
 ck (IX ((ele k_.ops i23_11).ar) (ln x13.1)) <|
 bd (R1_Index_m ((ele k_.ops i23_11).sp) ((ele k_.ops i23_11).pl) ((Int.tdiv now18_9 k_.pace) - (ele k_.ops i23_11).stage) (ele x13.1 ((ele k_.ops i23_11).ar))) fun x153 =>
 ck (IX x153 (ln (ele m13_9 ((ele k_.ops i23_11).ar)))) <|
 bd (R1_Class_m ((ele k_.ops i23_11).op)) fun x160 =>
 ck (IX x160 3) <|
 ck (IR (now18_9 + (sel3 t.w0 t.w1 t.w2 x160))) <|
 ck (IR ((ele k_.ops i23_11).dest + (Int.tdiv now18_9 k_.pace))) <|
 ck (t.regs ≠ 0) <|
 ck (AL (v41_11 ++ [(Due.mk (now18_9 + (sel3 t.w0 t.w1 t.w2 x160)) (Int.tmod ((ele k_.ops i23_11).dest + (Int.tdiv now18_9 k_.pace)) t.regs) (ele (ele m13_9 ((ele k_.ops i23_11).ar)) x153))]).length 24) <|
 ck (IR (i23_11 + 1)) <|
 some (.next ((v41_11 ++ [(Due.mk (now18_9 + (sel3 t.w0 t.w1 t.w2 x160)) (Int.tmod ((ele k_.ops i23_11).dest + (Int.tdiv now18_9 k_.pace)) t.regs) (ele (ele m13_9 ((ele k_.ops i23_11).ar)) x153))]), r60_11, (i23_11 + 1)))) (
 br ((ele k_.ops i23_11).op == 4) (
 ck (IX ((ele k_.ops i23_11).ar) (ln r60_11)) <|
 ck (IX ((ele k_.ops i23_11).ar) (ln x13.1)) <|
 bd (R1_Index_m ((ele k_.ops i23_11).sp) ((ele k_.ops i23_11).pl) ((Int.tdiv now18_9 k_.pace) - (ele k_.ops i23_11).stage) (ele x13.1 ((ele k_.ops i23_11).ar))) fun x189 =>
 ck (IX x189 (ln (ele r60_11 ((ele k_.ops i23_11).ar)))) <|
 bd (R1_Class_m ((ele k_.ops i23_11).op)) fun x198 =>
 ck (IX x198 3) <|
 ck (IR (now18_9 + (sel3 t.w0 t.w1 t.w2 x198))) <|
 ck (IR ((ele k_.ops i23_11).dest + (Int.tdiv now18_9 k_.pace))) <|
 ck (t.regs ≠ 0) <|
 ck (AL (v41_11 ++ [(Due.mk (now18_9 + (sel3 t.w0 t.w1 t.w2 x198)) (Int.tmod ((ele k_.ops i23_11).dest + (Int.tdiv now18_9 k_.pace)) t.regs) (ele v3_10 (Int.tmod ((ele k_.ops i23_11).a + (Int.tdiv now18_9 k_.pace)) t.regs)))]).length 24) <|
 ck (IR (i23_11 + 1)) <|
 some (.next ((v41_11 ++ [(Due.mk (now18_9 + (sel3 t.w0 t.w1 t.w2 x198)) (Int.tmod ((ele k_.ops i23_11).dest + (Int.tdiv now18_9 k_.pace)) t.regs) (ele v3_10 (Int.tmod ((ele k_.ops i23_11).a + (Int.tdiv now18_9 k_.pace)) t.regs)))]), (updG r60_11 ((ele k_.ops i23_11).ar) x189 (ele v3_10 (Int.tmod ((ele k_.ops i23_11).a + (Int.tdiv now18_9 k_.pace)) t.regs))), (i23_11 + 1)))) (
 ck (IR ((ele k_.ops i23_11).op - 10)) <|
 bd (R1_Op_m ((ele k_.ops i23_11).op - 10) (ele v3_10 (Int.tmod ((ele k_.ops i23_11).a + (Int.tdiv now18_9 k_.pace)) t.regs)) (ele v3_10 (Int.tmod ((ele k_.ops i23_11).b + (Int.tdiv now18_9 k_.pace)) t.regs))) fun x219 =>
 bd (R1_Class_m ((ele k_.ops i23_11).op)) fun x222 =>
 ck (IX x222 3) <|
 ck (IR (now18_9 + (sel3 t.w0 t.w1 t.w2 x222))) <|
 ck (IR ((ele k_.ops i23_11).dest + (Int.tdiv now18_9 k_.pace))) <|
 ck (t.regs ≠ 0) <|
 ck (AL (v41_11 ++ [(Due.mk (now18_9 + (sel3 t.w0 t.w1 t.w2 x222)) (Int.tmod ((ele k_.ops i23_11).dest + (Int.tdiv now18_9 k_.pace)) t.regs) x219)]).length 24) <|
 ck (IR (i23_11 + 1)) <|
 some (.next ((v41_11 ++ [(Due.mk (now18_9 + (sel3 t.w0 t.w1 t.w2 x222)) (Int.tmod ((ele k_.ops i23_11).dest + (Int.tdiv now18_9 k_.pace)) t.regs) x219)]), r60_11, (i23_11 + 1))))))))) (
 some (.brk (v41_11, r60_11, i23_11)))
noncomputable def R5_Play_L0 (t : Tgt) (k_ : Krn) (regs : List Int) (turns : Int) (x13 : List Int × Bool) : ((List Due) × (List Int) × (List (List Int)) × Int) → Option (Stp ((List Due) × (List Int) × (List (List Int)) × Int) (Empty)) := fun (v28_9, v3_9, m13_9, now18_9) =>
 ck (IR ((((turns + k_.stages) - 1) * k_.pace) + 6)) <|
 ck (IR (((((turns + k_.stages) - 1) * k_.pace) + 6) + 1)) <|
 br (decide (now18_9 < (((((turns + k_.stages) - 1) * k_.pace) + 6) + 1))) (
 bd (lp (R5_Play_L2 v28_9 now18_9) (v3_9, [], 0)) fun o42 => o42.on (fun (v3_10, v41_10, i20_10) =>
 br (decide (now18_9 ≥ (((turns + k_.stages) - 1) * k_.pace))) (
 ck (IR (now18_9 + 1)) <|
 some (.next (v41_10, v3_10, m13_9, (now18_9 + 1)))) (
 ck (k_.pace ≠ 0) <|
 ck (IR (Int.tdiv now18_9 k_.pace)) <|
 bd (R3_Copy_m m13_9) fun x56 =>
 bd (lp (R5_Play_L4 t k_ regs turns x13 m13_9 now18_9 v3_10) (v41_10, x56, 0)) fun o61 => o61.on (fun (v41_11, r60_11, i23_11) =>
 ck (IR (now18_9 + 1)) <|
 some (.next (v41_11, v3_10, r60_11, (now18_9 + 1)))) (fun r => r.elim))) (fun r => r.elim)) (
 some (.brk (v28_9, v3_9, m13_9, now18_9)))
noncomputable def R5_Play_m (t : Tgt) (k_ : Krn) (regs : List Int) (memory : List (List Int)) (turns : Int) : Option (List Int × List (List Int)) :=
 ck (AL ([] ++ regs).length 8) <|
 bd (R3_Copy_m memory) fun x8 =>
 bd (R5_Logs_m memory) fun x13 =>
 br (turns == 0) (
 some (([] ++ regs), x8)) (
 ck (IR (turns + k_.stages)) <|
 ck (IR ((turns + k_.stages) - 1)) <|
 ck (IR (((turns + k_.stages) - 1) * k_.pace)) <|
 bd (lp (R5_Play_L0 t k_ regs turns x13) ([], ([] ++ regs), x8, 0)) fun o30 => o30.on (fun (v28_9, v3_9, m13_9, now18_9) =>
 some (v3_9, m13_9)) (fun r => r.elim))
def lgN (n : Nat) : Nat := if n = 1 then 0 else if n = 2 then 1 else if n = 4 then 2 else if n = 8 then 3 else if n = 16 then 4 else if n = 32 then 5 else 6
theorem lgN_iff {n L : Nat} (h : L ≤ 5) : lgN n = L ↔ n = 2 ^ L := by
 unfold lgN
 rcases (by omega : L = 0 ∨ L = 1 ∨ L = 2 ∨ L = 3 ∨ L = 4 ∨ L = 5) with rfl | rfl | rfl | rfl | rfl | rfl <;> (simp only [Nat.pow_zero, Nat.pow_one, show (2 : Nat) ^ 2 = 4 from rfl, show (2 : Nat) ^ 3 = 8 from rfl, show (2 : Nat) ^ 4 = 16 from rfl, show (2 : Nat) ^ 5 = 32 from rfl]; split <;> (try split) <;> (try split) <;> (try split) <;> (try split) <;> (try split) <;> omega)
theorem lgN_le (n : Nat) : lgN n ≤ 6 := by unfold lgN; (repeat' split) <;> omega
theorem pow2L {k : Nat} (h : k ≤ 5) : (1 : Int) ≤ 2 ^ k ∧ (2 : Int) ^ k ≤ 32 ∧ ((2 ^ k : Nat) : Int) = 2 ^ k := ⟨(two_pow_5 k h).1, (two_pow_5 k h).2, by simp⟩
def LogOk (M : List (List Int)) : Prop := ∀ i : Nat, i < M.length → lgN (ele M (i : Int)).length ≤ 5
def logsV (M : List (List Int)) : List Int := (List.range M.length).map fun i : Nat => (lgN (ele M (i : Int)).length : Int)
theorem AL8M {n : Nat} (h : n ≤ 5864062014634) : AL n 8 := ⟨by rw [maxLen_eq]; omega, by omega⟩
theorem rLogs_all {M : List (List Int)} (hl : M.length ≤ 5864062014634) : R5_Logs_m M = some (bif tb (LogOk M) then (logsV M, true) else ([], false)) := by
 unfold R5_Logs_m
 have Y : ∀ i : Nat, i < M.length → lp (R5_Logs_L2 M i) 0 = some (.go (lgN (ele M (i : Int)).length : Int)) := fun i hi => by
  have h6 := lgN_le (ele M (i : Int)).length
  have := lp_det (f := R5_Logs_L2 M i) (ρ := Empty) (fun j => (j : Int)) (lgN (ele M (i : Int)).length) (fun j hj => by
   have hne : (ele M (i : Int)).length ≠ 2 ^ j := fun e => by have := (lgN_iff (show j ≤ 5 by omega)).2 e; omega
   have hpj := pow2L (show j ≤ 5 by omega)
   unfold R5_Logs_L2
   rw [decide_eq_true (show (j : Int) ≤ 5 by omega), bdG_t, Size_s _ (by omega), bd_ret, ck_imp (fun _ => ⟨by omega, by unfold ln; omega⟩), Bool.true_and,
    show (2 ^ ((j : Int).toNat) != ln (ele M (i : Int))) = true from by
     rw [bne_iff_ne]; unfold ln; rw [Int.toNat_natCast]; omega, br_true, ck_IR (by omega) (by omega)]
   rfl) (by
   unfold R5_Logs_L2
   by_cases h5 : lgN (ele M (i : Int)).length ≤ 5
   ·have e := (lgN_iff h5).1 rfl
    have hp := pow2L h5
    rw [decide_eq_true (show (lgN (ele M (i : Int)).length : Int) ≤ 5 by omega), bdG_t, Size_s _ (by omega), bd_ret, ck_imp (fun _ => ⟨by omega, by unfold ln; omega⟩), Bool.true_and,
     show (2 ^ ((lgN (ele M (i : Int)).length : Int).toNat) != ln (ele M (i : Int))) = false from by
      rw [bne_eq_false_iff_eq]; unfold ln; rw [Int.toNat_natCast]; omega, br_false]
   ·rw [decide_eq_false (show ¬ (lgN (ele M (i : Int)).length : Int) ≤ 5 by omega), bdG_f, ck_imp (fun h => by cases h), Bool.false_and, br_false])
  exact this
 have X := lp_det2 (f := R5_Logs_L0 M) (ρ := List Int × Bool) (fun i => ((List.range i).map (fun j : Nat => (lgN (ele M (j : Int)).length : Int)), (i : Int))) M.length (fun i => lgN (ele M (i : Int)).length ≤ 5) (fun _ => ([], false)) (fun i hi _ => by
  unfold R5_Logs_L0
  simp only
  rw [br_T (by unfold ln; omega), Y i hi, bd_ret, Out.on_go]
  constructor
  ·intro h5
   rw [br_F (by omega), ck_yes (AL8M (by simp; omega)), ck_IR (by omega) (by omega), rm_succ]; rfl
  ·intro h5
   rw [br_T (by omega)]) (by unfold R5_Logs_L0; exact br_F (by unfold ln; omega))
 rcases X with ⟨hp, X⟩ | ⟨i, hi, hp, _, X⟩
 ·rw [show lp (R5_Logs_L0 M) ([], 0) = _ from X, bd_ret, Out.on_go, tb_t (show LogOk M from hp)]; rfl
 ·rw [show lp (R5_Logs_L0 M) ([], 0) = _ from X, bd_ret, tb_f (fun h : LogOk M => hp (h i hi))]; rfl
theorem Len_s {L : Nat} (h : L ≤ 5) : math_bits_Len_m (IntKind.u64.wrap ((2 ^ L : Nat) : Int)) = some ((L : Int) + 1) := by
 have key : ∀ n : Int, 0 ≤ n → n < 256 → math_bits_Len_m (IntKind.u64.wrap n) = some (((ele len8T ((bt n).toNat : Int)).toNat : Int)) := fun n h0 h1 => by
  have hw : IntKind.u64.wrap n = n := by unfold IntKind.wrap; simp [IntKind.bits, IntKind.signed]; omega
  have hb := (bt n).toNat_lt
  have hc := (ele len8T ((bt n).toNat : Int)).toNat_lt
  unfold math_bits_Len_m math_bits_Len64_m
  rw [hw, br_F (by omega), bd_ret, Out.on_go]
  simp only
  rw [br_F (by omega), bd_ret, Out.on_go]
  simp only
  rw [br_F (by omega), ck_IX (by omega) (by show _ < ((len8T.length : Nat) : Int); rw [show len8T.length = 256 from by decide +kernel]; omega), ck_IR (by omega) (by omega), bd_ret, Int.zero_add]
 rcases (by omega : L = 0 ∨ L = 1 ∨ L = 2 ∨ L = 3 ∨ L = 4 ∨ L = 5) with rfl | rfl | rfl | rfl | rfl | rfl <;> (rw [key _ (by decide) (by decide)]; decide +kernel)
theorem Len_bad {n : Nat} : lgN n ≤ 5 ∨ (n = 0 ∨ n > 32 ∨ (n ≤ 32 ∧ bitAnd (n : Int) ((n : Int) - 1) ≠ 0)) := by
 by_cases h : n ≤ 32
 ·have : ∀ m : Fin 33, lgN m.val ≤ 5 ∨ (m.val = 0 ∨ m.val > 32 ∨ (m.val ≤ 32 ∧ bitAnd (m.val : Int) ((m.val : Int) - 1) ≠ 0)) := by decide +kernel
  exact this ⟨n, by omega⟩
 ·exact .inr (.inr (.inl (by omega)))
theorem and_pow {L : Nat} (h : L ≤ 5) : bitAnd ((2 ^ L : Nat) : Int) (((2 ^ L : Nat) : Int) - 1) = 0 := by
 rcases (by omega : L = 0 ∨ L = 1 ∨ L = 2 ∨ L = 3 ∨ L = 4 ∨ L = 5) with rfl | rfl | rfl | rfl | rfl | rfl <;> decide +kernel
theorem pLogs_all {M : List (List Int)} (hl : M.length ≤ 5864062014634) (hr : ∀ r ∈ M, r.length ≤ maxLen) : kernel_Logs_m M = some (bif tb (LogOk M) then (logsV M, true) else ([], false)) := by
 unfold kernel_Logs_m
 have X := lp_det2 (f := kernel_Logs_L0 M) (ρ := List Int × Bool) (fun i => ((List.range i).map (fun j : Nat => (lgN (ele M (j : Int)).length : Int)), (i : Int))) M.length (fun i => lgN (ele M (i : Int)).length ≤ 5) (fun _ => ([], false)) (fun i hi _ => by
  have hml := hr _ (ele_mem' hi)
  rw [maxLen_eq] at hml
  unfold kernel_Logs_L0
  simp only
  rw [br_T (by unfold ln; omega), ck_IX (by omega) (by unfold ln; omega), ck_imp (fun _ => ⟨by unfold ln; omega, by unfold ln; omega⟩)]
  constructor
  ·intro h5
   have e := (lgN_iff h5).1 rfl
   have hp := pow2L h5
   generalize hL : lgN (ele M (i : Int)).length = L at *
   rw [show ln (ele M (i : Int)) = ((2 ^ L : Nat) : Int) from by unfold ln; rw [e], and_pow h5, show ((((2 ^ L : Nat) : Int) == 0) || ((0 : Int) != 0) || decide (((2 ^ L : Nat) : Int) > 32)) = false from by
    rw [Bool.or_eq_false_iff, Bool.or_eq_false_iff, beq_eq_false_iff_ne, decide_eq_false_iff_not]; exact ⟨⟨by omega, rfl⟩, by omega⟩, br_false, Len_s h5, bd_ret, ck_IR (by omega) (by omega), show (L : Int) + 1 - 1 = L from by omega, ck_yes (AL8M (by simp; omega)), ck_IR (by omega) (by omega)]
   rw [← rm_succ, hL]; rfl
  ·intro h5
   have hb := (Len_bad (n := (ele M (i : Int)).length)).resolve_left h5
   rw [show ((ln (ele M (i : Int)) == 0) || (bitAnd (ln (ele M (i : Int))) (ln (ele M (i : Int)) - 1) != 0) || decide (ln (ele M (i : Int)) > 32)) = true from by
    unfold ln
    rw [Bool.or_eq_true, Bool.or_eq_true, beq_iff_eq, bne_iff_ne, decide_eq_true_eq]
    rcases hb with h | h | h
    ·exact .inl (.inl (by omega))
    ·exact .inr (by omega)
    ·exact .inl (.inr h.2), br_true]) (by unfold kernel_Logs_L0; exact br_F (by unfold ln; omega))
 rcases X with ⟨hp, X⟩ | ⟨i, hi, hp, _, X⟩
 ·rw [show lp (kernel_Logs_L0 M) ([], 0) = _ from X, bd_ret, Out.on_go, tb_t (show LogOk M from hp)]; rfl
 ·rw [show lp (kernel_Logs_L0 M) ([], 0) = _ from X, bd_ret, tb_f (fun h : LogOk M => hp (h i hi))]; rfl
def MeetP (a b : Stm) (back size : Int) : Prop := ∃ i : Nat, (i : Int) < size ∧ (a.sp * i + a.pl) % size = (b.sp * (i + back) + b.pl) % size
def NearS (a : Stm) : Prop := -64 ≤ a.sp ∧ a.sp ≤ 64 ∧ -64 ≤ a.pl ∧ a.pl ≤ 64
theorem pow2 {k : Nat} (h : k ≤ 5) : (1 : Int) ≤ 2 ^ k ∧ (2 : Int) ^ k ≤ 32 ∧ ((2 ^ k : Nat) : Int) = 2 ^ k := ⟨(two_pow_5 k h).1, (two_pow_5 k h).2, by simp⟩
def wordS (s : Stm) : Prop := s.op = 3 ∨ s.op = 4
def leastV (fr to : Int) : Int := if fr ≥ to then 1 else 0
def sizeV (l : Lp) (a : Stm) : Int := 2 ^ (ele l.logs a.ar).toNat
def memC (l : Lp) (fr to : Int) : Prop := wordS (ele l.body fr) ∧ wordS (ele l.body to) ∧ (ele l.body fr).ar = (ele l.body to).ar ∧ ((ele l.body fr).op = 4 ∨ (ele l.body to).op = 4)
structure MemE (l : Lp) (f u : Int) (e : Edg) : Prop where
 c : memC l f u
 fr : e.fr = f
 to : e.to = u
 wt : e.wt = if (ele l.body f).op = 4 then 1 else 0
 lo : leastV f u ≤ e.bk
 hi : e.bk ≤ sizeV l (ele l.body f)
 meet : MeetP (ele l.body f) (ele l.body u) e.bk (sizeV l (ele l.body f))
 first : ∀ k : Int, leastV f u ≤ k → k < e.bk → ¬ MeetP (ele l.body f) (ele l.body u) k (sizeV l (ele l.body f))
theorem MemE.one {l : Lp} {fr to : Int} {e e' : Edg} (h : MemE l fr to e) (h' : MemE l fr to e') : e = e' := by
 have hb : e.bk = e'.bk := by
  rcases Int.lt_trichotomy e.bk e'.bk with hh | hh | hh
  ·exact absurd h.meet (h'.first _ h.lo hh)
  ·exact hh
  ·exact absurd h'.meet (h.first _ h'.lo hh)
 have h1 := h.fr.trans h'.fr.symm
 have h2 := h.to.trans h'.to.symm
 have h3 := h.wt.trans h'.wt.symm
 cases e; cases e'
 simp only [Edg.mk.injEq]
 exact ⟨h1, h2, hb, h3⟩
theorem word_near {l : Lp} (hl : LoopOk l) {i : Nat} (hi : i < l.body.length) (h : wordS (ele l.body (i : Int))) : NearS (ele l.body (i : Int)) ∧ IX (ele l.body (i : Int)).ar (ln l.logs) ∧ 0 ≤ ele l.logs (ele l.body (i : Int)).ar ∧ ele l.logs (ele l.body (i : Int)).ar ≤ 5 := by
 obtain ⟨_, _, q3⟩ := hl.stm i hi
 rw [show l.body.getD i Stm.zero = ele l.body (i : Int) from rfl] at q3
 generalize ele l.body (i : Int) = s at q3 h
 have hw : WordOk l.logs.length s := by
  unfold wordS at h
  rcases q3 with h' | h' | h' | h' | h' <;> first | exact h'.2.2.1 | omega
 obtain ⟨w1, w2, w3⟩ := hw
 have hlg := hl.log s.ar.toNat (by omega)
 exact ⟨w3, ⟨w1, by unfold ln; omega⟩, hlg⟩
theorem leastV_bd (fr to : Int) : 0 ≤ leastV fr to ∧ leastV fr to ≤ 1 := by unfold leastV; split <;> omega
def UseE (l : Lp) (t : Tgt) (to : Int) (e : Edg) : Prop := ∃ r ∈ usesL (ele l.body to), e = ⟨r.st, to, r.bk, waitV t (ele l.body r.st).op⟩
theorem uses_ok {l : Lp} (hl : LoopOk l) {i : Nat} (hi : i < l.body.length) {r : Rf} (hr : r ∈ usesL (ele l.body (i : Int))) : RefOk l.body.length i r := by
 obtain ⟨q1, q2, q3⟩ := hl.stm i hi
 rw [show l.body.getD i Stm.zero = ele l.body (i : Int) from rfl] at q1 q2 q3
 generalize ele l.body (i : Int) = s at q1 q2 q3 hr
 unfold usesL at hr
 split at hr
 ·simp only [List.mem_singleton] at hr; subst hr; exact q1 (.inl ‹_›)
 ·split at hr
  ·simp only [List.mem_cons, List.not_mem_nil, or_false] at hr
   rcases hr with rfl | rfl
   ·exact q1 (.inr ‹_›)
   ·exact q2 ‹_›
  ·cases hr
theorem RefOk.st {n k : Int} {r : Rf} (h : RefOk n k r) (hk : k ≤ n) : 0 ≤ r.st ∧ r.st < n := by
 obtain ⟨a1, a2, a3, a4, a5⟩ := h
 refine ⟨a3, ?_⟩
 by_cases hb : r.bk = 0
 ·have := a4 hb; omega
 ·exact a5 hb
def EdgeP (l : Lp) (t : Tgt) (e : Edg) : Prop := ∃ to : Nat, to < l.body.length ∧ (UseE l t to e ∨ ∃ fr : Nat, fr < l.body.length ∧ MemE l fr to e)
structure EdgeIn (n : Int) (e : Edg) : Prop where
 fr : 0 ≤ e.fr ∧ e.fr < n
 to : 0 ≤ e.to ∧ e.to < n
 bk : 0 ≤ e.bk ∧ e.bk ≤ 32
 wt : 0 ≤ e.wt ∧ e.wt ≤ 6
 ahead : e.bk = 0 → e.fr < e.to
theorem MemE.in {l : Lp} (hl : LoopOk l) {fr to : Nat} (h1 : fr < l.body.length) (h2 : to < l.body.length) {e : Edg} (h : MemE l fr to e) : EdgeIn l.body.length e := by
 obtain ⟨n1, x1, g1, g2⟩ := word_near hl h1 h.c.1
 obtain ⟨p1, p2, p3⟩ := pow2 (show (ele l.logs (ele l.body (fr : Int)).ar).toNat ≤ 5 from by omega)
 have hlo := h.lo; have hhi := h.hi
 have hlb := leastV_bd fr to
 have hS : sizeV l (ele l.body (fr : Int)) = 2 ^ (ele l.logs (ele l.body (fr : Int)).ar).toNat := rfl
 have hwt := h.wt
 refine ⟨by rw [h.fr]; omega, by rw [h.to]; omega, by omega, by split at hwt <;> omega, fun h0 => ?_⟩
 rw [h.fr, h.to]
 unfold leastV at hlo
 split at hlo <;> omega
theorem UseE.in {l : Lp} (hl : LoopOk l) {t : Tgt} {to : Nat} (h2 : to < l.body.length) {e : Edg} (h : UseE l t to e) : EdgeIn l.body.length e := by
 obtain ⟨r, hr, rfl⟩ := h
 have hk := uses_ok hl h2 hr
 have hst := hk.st (by omega)
 obtain ⟨a1, a2, a3, a4, a5⟩ := hk
 have hw := waitV_bd t (ele l.body r.st).op
 exact ⟨hst, ⟨by show (0 : Int) ≤ to; omega, by show (to : Int) < _; omega⟩, ⟨a1, by show r.bk ≤ 32; omega⟩, hw, fun h0 => a4 h0⟩
theorem EdgeP.in {l : Lp} (hl : LoopOk l) {t : Tgt} {e : Edg} (h : EdgeP l t e) : EdgeIn l.body.length e := by
 obtain ⟨to, h1, h2 | ⟨fr, h2, h3⟩⟩ := h
 ·exact h2.in hl h1
 ·exact h3.in hl h2 h1
theorem ordV_neg {a b : Edg} : ordV a b < 0 ↔ a.fr < b.fr ∨ (a.fr = b.fr ∧ (a.to < b.to ∨ (a.to = b.to ∧ (a.bk < b.bk ∨ (a.bk = b.bk ∧ a.wt < b.wt))))) := by
 unfold ordV
 repeat' split
 all_goals omega
end Go.Rd
end