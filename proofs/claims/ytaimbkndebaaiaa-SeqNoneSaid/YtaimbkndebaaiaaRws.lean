/- Slices of slices of numbers, of the call's own, that are changed in place. -/
import Derived.Test.YtaimbkndebaaiaaGrid
namespace Go.Rd
open Go.RowKit
set_option linter.unusedVariables false
set_option linter.unusedSimpArgs false

def hcell (h : Value) : List Value := [h]
theorem hcell_eq : ∀ u : Value, hcell u = [id u] := fun _ => rfl
def nilS : Value := .slice none 0 0
def hat (hs : List Value) (i : Int) : Value := hs.getD i.toNat nilS
def vfoot (h : Value) (b : Nat) : Prop := ∃ n c, h = .slice (some ⟨b, 0, none⟩) n c
def updG (xss : List (List Int)) (i j : Int) (z : Int) : List (List Int) := upd xss i (upd (ele xss i) j z)
/-- Each header is as long as its row. -/
def GL (hs : List Value) (xss : List (List Int)) : Prop := hs.length = xss.length ∧ ∀ i : Nat, SliceLen (hs.getD i nilS) (xss.getD i []).length

def grid (v : Value) (hs : List Value) (E1 E2 : TypeId) (xss : List (List Int)) : Res where
  foot := fun b => vfoot v b ∨ ∃ i : Nat, i < hs.length ∧ vfoot (hs.getD i nilS) b
  holds := fun w => (vec v E1 1 (hs.map hcell)).holds w ∧ hs.length = xss.length ∧ (∀ i : Nat, i < hs.length → (vec (hs.getD i nilS) E2 1 ((xss.getD i []).map icell)).holds w) ∧
    (∀ i j : Nat, i < hs.length → j < hs.length → i ≠ j → ∀ b, vfoot (hs.getD i nilS) b → ¬ vfoot (hs.getD j nilS) b) ∧ ∀ i : Nat, i < hs.length → ∀ b, vfoot (hs.getD i nilS) b → ¬ vfoot v b
  stable := fun w w' ⟨h1, h2, h3, h4, h5⟩ hk => ⟨(vec v E1 1 (hs.map hcell)).stable w w' h1 fun b hb => hk b (.inl hb), h2, fun i hi => (vec _ E2 1 _).stable w w' (h3 i hi) fun b hb => hk b (.inr ⟨i, hi, hb⟩), h4, h5⟩

section
variable {w : World} {v : Value} {hs : List Value} {E1 E2 : TypeId} {xss : List (List Int)} {i j : Int} {p : Addr}
theorem getD_some {α : Type} {l : List α} {d : α} {i : Nat} (h : i < l.length) : l[i]? = some (l.getD i d) := by
  rw [List.getD_eq_getElem?_getD, List.getElem?_eq_getElem h]; rfl
theorem ele_getD (xss : List (List Int)) (i : Int) : ele xss i = xss.getD i.toNat [] := rfl
theorem vec_slen {v : Value} {E sz : Nat} {rows : List (List Value)} (h : (vec v E sz rows).holds w) : SliceLen v rows.length := (vec_arr h).len
theorem grid_GL (h : (grid v hs E1 E2 xss).holds w) : GL hs xss := by
  obtain ⟨h1, h2, h3, h4, h5⟩ := h
  refine ⟨h2, fun i => ?_⟩
  by_cases hi : i < hs.length
  · have := vec_slen (h3 i hi)
    rwa [List.length_map] at this
  · rw [List.getD_eq_getElem?_getD, List.getElem?_eq_none (by omega), List.getD_eq_getElem?_getD, List.getElem?_eq_none (by omega)]
    exact SliceLen.nil
theorem GL.ix (h : GL hs xss) (i : Int) : SliceLen (hat hs i) (ele xss i).length := h.2 i.toNat
theorem slen_upd {α : Type} {v : Value} {xs : List α} {i : Int} {z : α} (h : SliceLen v xs.length) : SliceLen v (upd xs i z).length := by rw [upd_length]; exact h
theorem slen_updG {v : Value} {xss : List (List Int)} {i j z : Int} (h : SliceLen v xss.length) : SliceLen v (Rd.updG xss i j z).length := by unfold Rd.updG; rw [upd_length]; exact h
theorem slen_map {v : Value} {B : List (Value × List Int)} {xss : List (List Int)} (h : B.map (·.2) = xss) (hs : SliceLen v B.length) : SliceLen v xss.length := by subst h; rwa [List.length_map]
theorem GL.nil : GL [] [] := ⟨rfl, fun _ => SliceLen.nil⟩
theorem GL.snoc {u : Value} {xs : List Int} (h : GL hs xss) (hu : SliceLen u xs.length) : GL (hs ++ [u]) (xss ++ [xs]) := by
  refine ⟨by simp [h.1], fun i => ?_⟩
  rcases Nat.lt_trichotomy i hs.length with hi | hi | hi
  · have h1 : (hs ++ [u]).getD i nilS = hs.getD i nilS := by simp [List.getD_eq_getElem?_getD, List.getElem?_append_left hi]
    have h2 : (xss ++ [xs]).getD i [] = xss.getD i [] := by simp [List.getD_eq_getElem?_getD, List.getElem?_append_left (h.1 ▸ hi)]
    rw [h1, h2]; exact h.2 i
  · subst hi
    have h1 : (hs ++ [u]).getD hs.length nilS = u := by simp [List.getD_eq_getElem?_getD]
    have h2 : (xss ++ [xs]).getD hs.length [] = xs := by rw [h.1]; simp [List.getD_eq_getElem?_getD]
    rw [h1, h2]; exact hu
  · have h1 : (hs ++ [u]).getD i nilS = nilS := by rw [List.getD_eq_getElem?_getD, List.getElem?_eq_none (by simp; omega)]; rfl
    have h2 : (xss ++ [xs]).getD i [] = [] := by rw [List.getD_eq_getElem?_getD, List.getElem?_eq_none (by simp; have := h.1; omega)]; rfl
    rw [h1, h2]; exact SliceLen.nil
theorem getD_upd {α : Type} {l : List α} {d z : α} {k : Nat} {i : Int} : (upd l i z).getD k d = if i.toNat = k ∧ k < l.length then z else l.getD k d := by
  unfold upd
  rw [List.getD_eq_getElem?_getD, List.getElem?_set, List.getD_eq_getElem?_getD]
  by_cases h : i.toNat = k
  · subst h
    by_cases hl : i.toNat < l.length
    · simp [hl]
    · simp [hl, List.getElem?_eq_none (Nat.le_of_not_lt hl)]
  · simp [h]
theorem GL.upd {u : Value} {xs : List Int} (h : GL hs xss) (hu : SliceLen u xs.length) (i : Int) : GL (upd hs i u) (upd xss i xs) := by
  refine ⟨by simp [upd_length, h.1], fun k => ?_⟩
  rw [getD_upd, getD_upd, h.1]
  split
  · exact hu
  · exact h.2 k
theorem GL.updG (h : GL hs xss) (i j z : Int) : GL hs (updG xss i j z) := by
  refine ⟨by simp [Rd.updG, upd_length, h.1], fun k => ?_⟩
  unfold Rd.updG
  rw [getD_upd]
  split
  · rename_i hk
    obtain ⟨rfl, _⟩ := hk
    rw [upd_length]; exact h.2 i.toNat
  · exact h.2 k
theorem GL.rep (n : Nat) : GL (List.replicate n nilS) (List.replicate n []) := by
  refine ⟨by simp, fun i => ?_⟩
  have h1 : (List.replicate n nilS).getD i nilS = nilS := by simp only [List.getD_eq_getElem?_getD, List.getElem?_replicate]; split <;> rfl
  have h2 : (List.replicate n ([] : List Int)).getD i [] = [] := by simp only [List.getD_eq_getElem?_getD, List.getElem?_replicate]; split <;> rfl
  rw [h1, h2]; exact SliceLen.nil

theorem grid_rows (h : (grid v hs E1 E2 xss).holds w) : RowsA w v xss := by
  obtain ⟨h1, h2, h3, h4, h5⟩ := h
  refine ⟨hs.zip xss, by rw [List.map_snd_zip (by omega)], ?_, fun q hq => ?_⟩
  · have := vec_arr h1
    have e : (hs.zip xss).map vcell = hs.map hcell := by
      have : (hs.zip xss).map vcell = ((hs.zip xss).map (·.1)).map hcell := by rw [List.map_map]; rfl
      rw [this, List.map_fst_zip (by omega)]
    rw [e]; exact this
  · obtain ⟨k, hk, rfl⟩ := List.mem_iff_getElem.1 hq
    have hk1 : k < hs.length := by simp at hk; omega
    have hk2 : k < xss.length := by simp at hk; omega
    have := vec_arr (h3 k hk1)
    rw [List.getD_eq_getElem?_getD, List.getElem?_eq_getElem hk1, List.getD_eq_getElem?_getD, List.getElem?_eq_getElem hk2] at this
    simpa using this
theorem grid_hdr (h : (grid v hs E1 E2 xss).holds w) (hp : ElemP v i 1 p) (hi : IX i (ln xss)) : w.cell? p = some (hat hs i) := by
  obtain ⟨h1, h2, _⟩ := h
  have hlt : i.toNat < hs.length := by have := hi.1; have := hi.2; unfold ln at this; omega
  have := (vec_arr h1).row i.toNat [hs.getD i.toNat nilS] p (by rw [List.getElem?_map, getD_some hlt]; rfl) (by rwa [Int.toNat_of_nonneg hi.1])
  have h := this.1
  simpa [Addr.add, hat, List.getD_eq_getElem?_getD] using h
theorem grid_arr (h : (grid v hs E1 E2 xss).holds w) (hi : IX i (ln xss)) : Arr w (hat hs i) 1 ((ele xss i).map icell) := by
  obtain ⟨h1, h2, h3, _⟩ := h
  have hlt : i.toNat < hs.length := by have := hi.1; have := hi.2; unfold ln at this; omega
  exact vec_arr (h3 i.toNat hlt)
theorem vfoot_slen {h : Value} {b n : Nat} (hf : vfoot h b) : ∃ n c, h = .slice (some ⟨b, 0, none⟩) n c := hf
theorem vec_same {w w' : World} {h : Value} {E sz : Nat} {rows : List (List Value)} (hv : (vec h E sz rows).holds w) (hk : ∀ b, vfoot h b → w'.heap[b]? = w.heap[b]?) : (vec h E sz rows).holds w' := (vec h E sz rows).stable w w' hv hk
theorem grid_lt (h : (grid v hs E1 E2 xss).holds w) : ∀ b, (grid v hs E1 E2 xss).foot b → b < w.heap.size := fun b hb => by
  rcases hb with hb | ⟨i, hi, hb⟩
  · exact vec_foot_lt h.1 b hb
  · exact vec_foot_lt (h.2.2.1 i hi) b hb
end

section
variable {M : Nat → Prop} {w0 : World} {H : List Res} {v : Value} {hs : List Value} {E1 E2 : TypeId} {xss : List (List Int)} {i j : Int} {p : Addr}
theorem Own.gridRows (k : Nat) (hk : H[k]? = some (grid v hs E1 E2 xss)) : ∀ w, Own M w0 H w → RowsA w v xss := fun w hw => grid_rows (hw.at k hk)
theorem Own.gridHdr (k : Nat) (hk : H[k]? = some (grid v hs E1 E2 xss)) (hp : ElemP v i 1 p) (hi : IX i (ln xss)) : ∀ w, Own M w0 H w → w.cell? p = some (hat hs i) := fun w hw => grid_hdr (hw.at k hk) hp hi
theorem Own.gridArr (k : Nat) (hk : H[k]? = some (grid v hs E1 E2 xss)) (hi : IX i (ln xss)) : ∀ w, Own M w0 H w → Arr w (hat hs i) 1 ((ele xss i).map icell) := fun w hw => grid_arr (hw.at k hk) hi
theorem Own.gridNil {w : World} (h : Own M w0 H w) {E1 E2 : TypeId} : Own M w0 (grid nilS [] E1 E2 [] :: H) w := by
  refine ⟨h.1, ⟨⟨vec_nil (α := Value) (enc := hcell), rfl, fun i hi => absurd hi (Nat.not_lt_zero _), fun i j hi => absurd hi (Nat.not_lt_zero _), fun i hi => absurd hi (Nat.not_lt_zero _)⟩, fun b hb => ?_, fun s _ b hb => ?_⟩, h.2⟩
  · rcases hb with ⟨_, _, hb⟩ | ⟨i, hi, _⟩
    · simp [nilS] at hb
    · exact absurd hi (Nat.not_lt_zero _)
  · rcases hb with ⟨_, _, hb⟩ | ⟨i, hi, _⟩
    · simp [nilS] at hb
    · exact absurd hi (Nat.not_lt_zero _)
/-- A slice of nil slices is a grid of empty rows. -/
theorem Own.gridRep {w : World} {n : Nat} (h : Own M w0 (vec v E1 1 ((List.replicate n nilS).map hcell) :: H) w) (E2 : TypeId) : Own M w0 (grid v (List.replicate n nilS) E1 E2 (List.replicate n []) :: H) w := by
  obtain ⟨h0, ⟨h1, h2, h3⟩, h4⟩ := h
  have hn : ∀ i : Nat, (List.replicate n nilS).getD i nilS = nilS := fun i => by simp only [List.getD_eq_getElem?_getD, List.getElem?_replicate]; split <;> rfl
  have hr : ∀ i : Nat, (List.replicate n ([] : List Int)).getD i [] = [] := fun i => by simp only [List.getD_eq_getElem?_getD, List.getElem?_replicate]; split <;> rfl
  have hf : ∀ i b, ¬ vfoot ((List.replicate n nilS).getD i nilS) b := fun i b ⟨_, _, hb⟩ => by rw [hn] at hb; simp [nilS] at hb
  refine ⟨h0, ⟨⟨h1, by simp, fun i hi => ?_, fun i j _ _ _ b hb => absurd hb (hf i b), fun i _ b hb => absurd hb (hf i b)⟩, fun b hb => ?_, fun s hs b hb => ?_⟩, h4⟩
  · rw [hn, hr]; exact vec_nil (α := Int) (enc := icell)
  · rcases hb with hb | ⟨i, _, hb⟩
    · exact h2 b hb
    · exact absurd hb (hf i b)
  · rcases hb with hb | ⟨i, _, hb⟩
    · exact h3 s hs b hb
    · exact absurd hb (hf i b)
end

section
variable {P : Program} {n : Nat} {σ : Env} {M : Nat → Prop} {w0 : World} {H : List Res} {d : Option Tmp} {T U E E1 E2 : TypeId} {pos : String} {after : Array Edge} {gd : Option (Nat × Bool)} {x y : Operand} {g g' : Bool} {v u yv : Value} {hs : List Value} {xss : List (List Int)} {xs : List Int}
  {K : Act → World → Prop} {Q : Exit → Act → World → Prop} {i j : Int} {p : Addr} {w : World}

theorem grid_set (h : (grid v hs E1 E2 xss).holds w) (hi : IX i (ln xss)) (hp : ElemP (hat hs i) j 1 p) (z : Int) :
    ∃ b, (grid v hs E1 E2 xss).foot b ∧ (store p (i64v z)).run P w = .ok () (w.setCell p (i64v z)) ∧ (grid v hs E1 E2 (updG xss i j z)).holds (w.setCell p (i64v z)) ∧ (∀ k, k ≠ b → (w.setCell p (i64v z)).heap[k]? = w.heap[k]?) := by
  obtain ⟨h1, h2, h3, h4, h5⟩ := h
  have hlt : i.toNat < hs.length := by have := hi.1; have := hi.2; unfold ln at this; omega
  obtain ⟨b, ⟨n1, k1, hb⟩, rfl, hst, hv, hsame⟩ := vec_set1 (P := P) (c := i64v) icell_eq (z := z) (h3 i.toNat hlt) hp rfl
  have hbf : vfoot (hs.getD i.toNat nilS) b := ⟨n1, k1, hb⟩
  refine ⟨b, .inr ⟨_, hlt, hbf⟩, hst, ⟨vec_same h1 fun c hc => hsame c fun e => h5 _ hlt b hbf (e ▸ hc), by simp [updG, upd_length, h2], fun k hk => ?_, h4, h5⟩, hsame⟩
  unfold updG
  rw [getD_upd]
  split
  · rename_i e
    obtain ⟨rfl, _⟩ := e
    exact hv
  · rename_i e
    have hne : ¬ i.toNat = k := fun e' => e ⟨e', by omega⟩
    exact vec_same (h3 k hk) fun c hc => hsame c fun e' => h4 i.toNat k hlt hk hne b hbf (e' ▸ hc)

/-- A store to a word of a row. -/
theorem EV.storeG (k : Nat) (z : Int) (hx : σ.ev x = some (g, .pointer (some p))) (hg : g = true) (hy : σ.ev y = some (g', .int .i64 z)) (hg' : g' = true) (hk : H[k]? = some (grid v hs E1 E2 xss)) (hi : IX i (ln xss)) (hp : ElemP (hat hs i) j 1 p) (hs' : SizeT P T 1)
    (kk : WK n K σ (Own M w0 (H.set k (grid v hs E1 E2 (updG xss i j z))))) : EV P n ⟨none, .store T x y, U, pos, after, gd⟩ σ (Own M w0 H) K Q := fun a w ha hw => by
  refine .inl ?_
  obtain ⟨b, hbf, h3, h4, h5⟩ := grid_set (P := P) (hw.at k hk) hi hp z
  obtain ⟨inf, hin, hsz⟩ := Option.map_eq_some_iff.1 hs'
  have hrun : (execOp a.eval ⟨none, .store T x y, U, pos, after, gd⟩).run P w = .ok .skip (w.setCell p (i64v z)) := by
    have h3' : (Go.store (p.add 0) (.int .i64 z)).run P w = .ok () (w.setCell p (i64v z)) := by simpa [Addr.add, i64v] using h3
    simp [execOp, ha.ev hx hg, ha.ev hy hg', Instr.storeAt, Instr.sureAddr, storeVar, Value.cells, sizeOf, typeInfo, hin, hsz, storeCells, h3']
  unfold Oper.wp
  rw [hrun]
  show K (a.put none undef) _
  have hlt := grid_lt (hw.at k hk)
  exact kk a _ ha (hw.upd k hk rfl rfl ⟨rfl, Nat.le_refl _⟩ (by simp [World.setCell]) (fun c hc hne => h5 c fun e => hne (e ▸ hbf)) h4 fun c hc => ⟨.inl hc, by simpa [World.setCell] using hlt c hc⟩)

theorem Own.two {r s : Res} {w : World} (h : Own M w0 (r :: s :: H) w) : r.holds w ∧ s.holds w ∧ (∀ b, r.foot b → ¬ s.foot b) := ⟨h.2.1.1, h.2.2.1.1, fun b hb => h.2.1.2.2 s (by simp) b hb⟩
/-- Two resources become one. -/
theorem Own.merge {r s t : Res} {w w' : World} (h : Own M w0 (r :: s :: H) w) (hos : w'.os = w.os) (htape : w'.tape = w.tape) (hout : w'.output = w.output ∧ w.drawn ≤ w'.drawn) (hsz : w.heap.size ≤ w'.heap.size)
    (hch : ∀ b, b < w.heap.size → ¬ r.foot b → ¬ s.foot b → w'.heap[b]? = w.heap[b]?) (ht : t.holds w') (hf : ∀ b, t.foot b → (r.foot b ∨ s.foot b ∨ w.heap.size ≤ b) ∧ b < w'.heap.size) : Own M w0 (t :: H) w' := by
  obtain ⟨h0, ⟨r1, r2, r3⟩, ⟨s1, s2, s3⟩, h4⟩ := h
  refine ⟨h0.trans ⟨hos, htape, hout, hsz, fun b hb hM => hch b hb (fun hr => hM (r2 b hr).1) fun hs => hM (s2 b hs).1⟩, ⟨ht, fun b hb => ⟨?_, (hf b hb).2⟩, fun q hq b hb hqb => ?_⟩, ?_⟩
  · rcases (hf b hb).1 with h | h | h
    · exact (r2 b h).1
    · exact (s2 b h).1
    · exact .inr (Nat.le_trans h0.size h)
  · rcases (hf b hb).1 with h | h | h
    · exact r3 q (List.mem_cons_of_mem _ hq) b h hqb
    · exact s3 q hq b h hqb
    · have := (h4.lt q hq b hqb).2; omega
  · exact h4.change hsz fun q hq b hqb => hch b (h4.lt q hq b hqb).2 (fun hr => r3 q (List.mem_cons_of_mem _ hq) b hr hqb) fun hs => s3 q hq b hs hqb

/-- A row is put in: the header is stored. -/
theorem EV.storeRow (hx : σ.ev x = some (g, .pointer (some p))) (hg : g = true) (hy : σ.ev y = some (g', u)) (hg' : g' = true) (hp : ElemP v i 1 p) (hi : IX i (ln xss)) (hu : SliceLen u xs.length) (hs' : SizeT P T 1)
    (kk : WK n K σ (Own M w0 (grid v (upd hs i u) E1 E2 (upd xss i xs) :: H))) : EV P n ⟨none, .store T x y, U, pos, after, gd⟩ σ (Own M w0 (grid v hs E1 E2 xss :: vec u E2 1 (xs.map icell) :: H)) K Q := fun a w ha hw => by
  refine .inl ?_
  obtain ⟨⟨h1, h2, h3, h4, h5⟩, hv, hdis⟩ := hw.two
  have hlt : i.toNat < hs.length := by have := hi.1; have := hi.2; unfold ln at this; omega
  have hone : (id u).oneCell' = true := hu.one
  obtain ⟨b, ⟨n1, k1, rfl⟩, rfl, hst, hset, hsame⟩ := vec_set1 (P := P) (c := id) hcell_eq (z := u) h1 hp hone
  obtain ⟨inf, hin, hsz⟩ := Option.map_eq_some_iff.1 hs'
  have hrun : (execOp a.eval ⟨none, .store T x y, U, pos, after, gd⟩).run P w = .ok .skip (w.setCell ⟨b, i.toNat, none⟩ (id u)) := by
    have h3' : (Go.store ((⟨b, i.toNat, none⟩ : Addr).add 0) u).run P w = .ok () (w.setCell ⟨b, i.toNat, none⟩ (id u)) := by simpa [Addr.add] using hst
    simp [execOp, ha.ev hx hg, ha.ev hy hg', Instr.storeAt, Instr.sureAddr, storeVar, hu.cells, sizeOf, typeInfo, hin, hsz, storeCells, h3']
  unfold Oper.wp
  rw [hrun]
  show K (a.put none undef) _
  have hvb : vfoot (.slice (some ⟨b, 0, none⟩) n1 k1) b := ⟨_, _, rfl⟩
  have hnb : ∀ c, vfoot (.slice (some ⟨b, 0, none⟩) n1 k1) c → c = b := fun c ⟨_, _, he⟩ => by simp at he; exact he.1.symm
  have hub : ∀ c, vfoot u c → c ≠ b := fun c hc e => hdis b (.inl hvb) (e ▸ hc)
  refine kk a _ ha (hw.merge rfl rfl ⟨rfl, Nat.le_refl _⟩ (by simp [World.setCell]) (fun c hc hr hs => hsame c fun e => hr (by subst e; exact .inl hvb)) ⟨hset, by simp [upd_length, h2], fun k hk => ?_, fun k l hk hl hne c hc hc' => ?_, fun k hk c hc hc' => ?_⟩ fun c hc => ?_)
  · rw [upd_length] at hk
    rw [getD_upd, getD_upd, ← h2]
    split
    · exact vec_same hv fun c hc => hsame c (hub c hc)
    · exact vec_same (h3 k hk) fun c hc => hsame c fun e => h5 k hk c hc (e ▸ hvb)
  · rw [upd_length] at hk hl
    rw [getD_upd] at hc hc'
    split at hc <;> split at hc'
    · rename_i e1 e2; exact hne (e1.1.symm.trans e2.1)
    · exact hdis c (.inr ⟨l, hl, hc'⟩) hc
    · exact hdis c (.inr ⟨k, hk, hc⟩) hc'
    · exact h4 k l hk hl hne c hc hc'
  · rw [upd_length] at hk
    rw [getD_upd] at hc
    split at hc
    · exact hub c hc (hnb c hc')
    · exact h5 k hk c hc hc'
  · have hsize : (w.setCell ⟨b, i.toNat, none⟩ (id u)).heap.size = w.heap.size := by simp [World.setCell]
    rw [hsize]
    rcases hc with hc | ⟨k, hk, hc⟩
    · exact ⟨.inl (.inl hc), vec_foot_lt h1 c hc⟩
    · rw [upd_length] at hk
      rw [getD_upd] at hc
      split at hc
      · exact ⟨.inr (.inl hc), vec_foot_lt hv c hc⟩
      · exact ⟨.inl (.inr ⟨k, hk, hc⟩), vec_foot_lt (h3 k hk) c hc⟩

/-- A row is appended. -/
theorem EV.appendG {dd bytes : Nat} (hn : dd < n) (hV : VecT P U E1 1 bytes) (hx : σ.ev x = some (g, v)) (hg : g = true) (hy : σ.ev y = some (g', yv)) (hg' : g' = true) (hu : SliceLen u xs.length)
    (hnew : ∀ w, Own M w0 (grid v hs E1 E2 xss :: vec u E2 1 (xs.map icell) :: H) w → Arr w yv 1 [[u]]) (hA : AL (xss ++ [xs]).length bytes) (hGL : GL hs xss)
    (kk : ∀ v', SliceLen v' (xss ++ [xs]).length → WK n K ((dd, (true, v')) :: σ) (Own M w0 (grid v' (hs ++ [u]) E1 E2 (xss ++ [xs]) :: H))) :
    EV P n ⟨some dd, .call ⟨.builtin .append, #[x, y], #[U, U]⟩, T, pos, after, gd⟩ σ (Own M w0 (grid v hs E1 E2 xss :: vec u E2 1 (xs.map icell) :: H)) K Q := fun a w ha hw => by
  refine .inl ?_
  obtain ⟨⟨h1, h2, h3, h4, h5⟩, hv, hdis⟩ := hw.two
  have hlen : (hs.map hcell).length = xss.length := by simp [h2]
  have hA1 := hA.1; have hA2 := hA.2
  simp only [List.length_append, List.length_singleton] at hA1 hA2
  obtain ⟨v', w', hr, g1, g2, g3, g4, g5, g6, g7⟩ := run_append_vec (T := T) hV h1 (hnew w hw) (fun r hr => by simp at hr; subst hr; rfl) (fun r hr c hc => by simp at hr; subst hr; simp at hc; subst hc; exact hu.one) (by rw [hlen]; simpa using hA1) (by rw [hlen]; simpa using hA2)
  have hrun : (execOp a.eval ⟨some dd, .call ⟨.builtin .append, #[x, y], #[U, U]⟩, T, pos, after, gd⟩).run P w = .ok (.value v') w' := by
    simp [execOp, resolve, invoke, builtin, ha.ev hx hg, ha.ev hy hg', hr, Result.andThen]
  unfold Oper.wp
  rw [hrun]
  show K (a.put (some dd) _) _
  have hmap : hs.map hcell ++ [[u]] = (hs ++ [u]).map hcell := by simp [hcell]
  rw [hmap] at g1 g7
  have hrows : ∀ k, k < hs.length → ∀ b, vfoot (hs.getD k nilS) b → w'.heap[b]? = w.heap[b]? := fun k hk b hb => g6 b (vec_foot_lt (h3 k hk) b hb) (h5 k hk b hb)
  have hub : ∀ b, vfoot u b → w'.heap[b]? = w.heap[b]? := fun b hb => g6 b (vec_foot_lt hv b hb) fun hvb => hdis b (.inl hvb) hb
  have hget : ∀ k, k < (hs ++ [u]).length → (k < hs.length ∧ (hs ++ [u]).getD k nilS = hs.getD k nilS ∧ (xss ++ [xs]).getD k [] = xss.getD k []) ∨ (k = hs.length ∧ (hs ++ [u]).getD k nilS = u ∧ (xss ++ [xs]).getD k [] = xs) := fun k hk => by
    rcases Nat.lt_or_ge k hs.length with h | h
    · exact .inl ⟨h, by simp [List.getD_eq_getElem?_getD, List.getElem?_append_left h], by simp [List.getD_eq_getElem?_getD, List.getElem?_append_left (h2 ▸ h)]⟩
    · have e : k = hs.length := by simp at hk; omega
      subst e
      exact .inr ⟨rfl, by simp [List.getD_eq_getElem?_getD], by rw [h2]; simp [List.getD_eq_getElem?_getD]⟩
  have hvnew : ∀ b, vfoot v' b → vfoot v b ∨ w.heap.size ≤ b := fun b hb => (g7 b hb).1
  have hsl : SliceLen v' (xss ++ [xs]).length := by
    have := vec_slen g1
    rw [List.length_map] at this
    rwa [show (xss ++ [xs]).length = (hs ++ [u]).length from by simp [h2]]
  refine kk v' hsl _ _ (ha.put hn true _) (hw.merge g2 g3 g4 g5 (fun b hb hr hs' => g6 b hb fun hvb => hr (.inl hvb)) ⟨g1, by simp [h2], fun k hk => ?_, fun k l hk hl hne b hb hb' => ?_, fun k hk b hb hb' => ?_⟩ fun b hb => ?_)
  · rcases hget k hk with ⟨q1, q2, q3⟩ | ⟨q1, q2, q3⟩
    · rw [q2, q3]; exact vec_same (h3 k q1) (hrows k q1)
    · rw [q2, q3]; exact vec_same hv hub
  · rcases hget k hk with ⟨q1, q2, _⟩ | ⟨q1, q2, _⟩ <;> rcases hget l hl with ⟨r1, r2, _⟩ | ⟨r1, r2, _⟩ <;> rw [q2] at hb <;> rw [r2] at hb'
    · exact h4 k l q1 r1 hne b hb hb'
    · exact hdis b (.inr ⟨k, q1, hb⟩) hb'
    · exact hdis b (.inr ⟨l, r1, hb'⟩) hb
    · omega
  · rcases hget k hk with ⟨q1, q2, _⟩ | ⟨q1, q2, _⟩ <;> rw [q2] at hb
    · rcases hvnew b hb' with h | h
      · exact h5 k q1 b hb h
      · have := vec_foot_lt (h3 k q1) b hb; omega
    · rcases hvnew b hb' with h | h
      · exact hdis b (.inl h) hb
      · have := vec_foot_lt hv b hb; omega
  · rcases hb with hb | ⟨k, hk, hb⟩
    · rcases g7 b hb with ⟨h | h, h'⟩
      · exact ⟨.inl (.inl h), h'⟩
      · exact ⟨.inr (.inr h), h'⟩
    · rcases hget k hk with ⟨q1, q2, _⟩ | ⟨q1, q2, _⟩ <;> rw [q2] at hb
      · exact ⟨.inl (.inr ⟨k, q1, hb⟩), Nat.lt_of_lt_of_le (vec_foot_lt (h3 k q1) b hb) g5⟩
      · exact ⟨.inr (.inl hb), Nat.lt_of_lt_of_le (vec_foot_lt hv b hb) g5⟩
end
end Go.Rd
