/- Texts that the law stands on: part 2. -/
import Derived.Test.YtaimbkndebaaiabZLcheckSound1
import Derived.MapKept
import Derived.ChangeMaps5
section
namespace Go.Rd
open Go.RowKit
set_option linter.unusedVariables false
set_option linter.unusedSimpArgs false
def hcell (h : Value) : List Value := [h]
theorem hcell_eq : ∀ u : Value, hcell u = [id u] := fun _ => rfl
def nilS : Value := .slice none 0 0
def hat (hs : List Value) (i : Int) : Value := hs.getD i.toNat nilS
def vfoot (h : Value) (b : Nat) : Prop := ∃ n c, h = .slice (some ⟨b, 0, none⟩) n c
def updG (xss : List (List Int)) (i j : Int) (z : Int) : List (List Int) := upd xss i (upd (ele xss i) j z)
def GL (hs : List Value) (xss : List (List Int)) : Prop := hs.length = xss.length ∧ ∀ i : Nat, SliceLen (hs.getD i nilS) (xss.getD i []).length

def grid (v : Value) (hs : List Value) (E1 E2 : TypeId) (xss : List (List Int)) : Res where
  foot := fun b => vfoot v b ∨ ∃ i : Nat, i < hs.length ∧ vfoot (hs.getD i nilS) b
  holds := fun w => (vec v E1 1 (hs.map hcell)).holds w ∧ hs.length = xss.length ∧ (∀ i : Nat, i < hs.length → (vec (hs.getD i nilS) E2 1 ((xss.getD i []).map icell)).holds w) ∧
    (∀ i j : Nat, i < hs.length → j < hs.length → i ≠ j → ∀ b, vfoot (hs.getD i nilS) b → ¬ vfoot (hs.getD j nilS) b) ∧ ∀ i : Nat, i < hs.length → ∀ b, vfoot (hs.getD i nilS) b → ¬ vfoot v b
  stable := fun w w' ⟨h1, h2, h3, h4, h5⟩ hk => ⟨(vec v E1 1 (hs.map hcell)).stable w w' h1 fun b hb => hk b (.inl hb), h2, fun i hi => (vec _ E2 1 _).stable w w' (h3 i hi) fun b hb => hk b (.inr ⟨i, hi, hb⟩), h4, h5⟩

section
variable {w : World} {v : Value} {hs : List Value} {E1 E2 : TypeId} {xss : List (List Int)} {i j : Int} {p : Addr}
theorem getD_some {α : Type} {l : List α} {d : α} {i : Nat} (h : i < l.length) : l[i]? = some (l.getD i d) := by
  rw [List.getD_eq_getElem?_getD, List.getElem?_eq_getElem h]; rfl
theorem ele_getD (xss : List (List Int)) (i : Int) : ele xss i = xss.getD i.toNat [] := rfl
theorem vec_slen {v : Value} {E sz : Nat} {rows : List (List Value)} (h : (vec v E sz rows).holds w) : SliceLen v rows.length := (vec_arr h).len
theorem GL.ix (h : GL hs xss) (i : Int) : SliceLen (hat hs i) (ele xss i).length := h.2 i.toNat
theorem slen_upd {α : Type} {v : Value} {xs : List α} {i : Int} {z : α} (h : SliceLen v xs.length) : SliceLen v (upd xs i z).length := by rw [upd_length]; exact h
theorem slen_updG {v : Value} {xss : List (List Int)} {i j z : Int} (h : SliceLen v xss.length) : SliceLen v (Rd.updG xss i j z).length := by unfold Rd.updG; rw [upd_length]; exact h
theorem GL.nil : GL [] [] := ⟨rfl, fun _ => SliceLen.nil⟩
theorem GL.snoc {u : Value} {xs : List Int} (h : GL hs xss) (hu : SliceLen u xs.length) : GL (hs ++ [u]) (xss ++ [xs]) := by
  refine ⟨by simp [h.1], fun i => ?_⟩
  rcases Nat.lt_trichotomy i hs.length with hi | hi | hi
  · have h1 : (hs ++ [u]).getD i nilS = hs.getD i nilS := by simp [List.getD_eq_getElem?_getD, List.getElem?_append_left hi]
    have h2 : (xss ++ [xs]).getD i [] = xss.getD i [] := by simp [List.getD_eq_getElem?_getD, List.getElem?_append_left (h.1 ▸ hi)]
    rw [h1, h2]; exact h.2 i
  · subst hi
    have h1 : (hs ++ [u]).getD hs.length nilS = u := by simp [List.getD_eq_getElem?_getD]
    have h2 : (xss ++ [xs]).getD hs.length [] = xs := by rw [h.1]; simp [List.getD_eq_getElem?_getD]
    rw [h1, h2]; exact hu
  · have h1 : (hs ++ [u]).getD i nilS = nilS := by rw [List.getD_eq_getElem?_getD, List.getElem?_eq_none (by simp; omega)]; rfl
    have h2 : (xss ++ [xs]).getD i [] = [] := by rw [List.getD_eq_getElem?_getD, List.getElem?_eq_none (by simp; have := h.1; omega)]; rfl
    rw [h1, h2]; exact SliceLen.nil
theorem getD_upd {α : Type} {l : List α} {d z : α} {k : Nat} {i : Int} : (upd l i z).getD k d = if i.toNat = k ∧ k < l.length then z else l.getD k d := by
  unfold upd
  rw [List.getD_eq_getElem?_getD, List.getElem?_set, List.getD_eq_getElem?_getD]
  by_cases h : i.toNat = k
  · subst h
    by_cases hl : i.toNat < l.length
    · simp [hl]
    · simp [hl, List.getElem?_eq_none (Nat.le_of_not_lt hl)]
  · simp [h]
theorem GL.upd {u : Value} {xs : List Int} (h : GL hs xss) (hu : SliceLen u xs.length) (i : Int) : GL (upd hs i u) (upd xss i xs) := by
  refine ⟨by simp [upd_length, h.1], fun k => ?_⟩
  rw [getD_upd, getD_upd, h.1]
  split
  · exact hu
  · exact h.2 k
theorem GL.updG (h : GL hs xss) (i j z : Int) : GL hs (updG xss i j z) := by
  refine ⟨by simp [Rd.updG, upd_length, h.1], fun k => ?_⟩
  unfold Rd.updG
  rw [getD_upd]
  split
  · rename_i hk
    obtain ⟨rfl, _⟩ := hk
    rw [upd_length]; exact h.2 i.toNat
  · exact h.2 k
theorem GL.rep (n : Nat) : GL (List.replicate n nilS) (List.replicate n []) := by
  refine ⟨by simp, fun i => ?_⟩
  have h1 : (List.replicate n nilS).getD i nilS = nilS := by simp only [List.getD_eq_getElem?_getD, List.getElem?_replicate]; split <;> rfl
  have h2 : (List.replicate n ([] : List Int)).getD i [] = [] := by simp only [List.getD_eq_getElem?_getD, List.getElem?_replicate]; split <;> rfl
  rw [h1, h2]; exact SliceLen.nil

theorem grid_rows (h : (grid v hs E1 E2 xss).holds w) : RowsA w v xss := by
  obtain ⟨h1, h2, h3, h4, h5⟩ := h
  refine ⟨hs.zip xss, by rw [List.map_snd_zip (by omega)], ?_, fun q hq => ?_⟩
  · have := vec_arr h1
    have e : (hs.zip xss).map vcell = hs.map hcell := by
      have : (hs.zip xss).map vcell = ((hs.zip xss).map (·.1)).map hcell := by rw [List.map_map]; rfl
      rw [this, List.map_fst_zip (by omega)]
    rw [e]; exact this
  · obtain ⟨k, hk, rfl⟩ := List.mem_iff_getElem.1 hq
    have hk1 : k < hs.length := by simp at hk; omega
    have hk2 : k < xss.length := by simp at hk; omega
    have := vec_arr (h3 k hk1)
    rw [List.getD_eq_getElem?_getD, List.getElem?_eq_getElem hk1, List.getD_eq_getElem?_getD, List.getElem?_eq_getElem hk2] at this
    simpa using this
theorem grid_hdr (h : (grid v hs E1 E2 xss).holds w) (hp : ElemP v i 1 p) (hi : IX i (ln xss)) : w.cell? p = some (hat hs i) := by
  obtain ⟨h1, h2, _⟩ := h
  have hlt : i.toNat < hs.length := by have := hi.1; have := hi.2; unfold ln at this; omega
  have := (vec_arr h1).row i.toNat [hs.getD i.toNat nilS] p (by rw [List.getElem?_map, getD_some hlt]; rfl) (by rwa [Int.toNat_of_nonneg hi.1])
  have h := this.1
  simpa [Addr.add, hat, List.getD_eq_getElem?_getD] using h
theorem grid_arr (h : (grid v hs E1 E2 xss).holds w) (hi : IX i (ln xss)) : Arr w (hat hs i) 1 ((ele xss i).map icell) := by
  obtain ⟨h1, h2, h3, _⟩ := h
  have hlt : i.toNat < hs.length := by have := hi.1; have := hi.2; unfold ln at this; omega
  exact vec_arr (h3 i.toNat hlt)
theorem vec_same {w w' : World} {h : Value} {E sz : Nat} {rows : List (List Value)} (hv : (vec h E sz rows).holds w) (hk : ∀ b, vfoot h b → w'.heap[b]? = w.heap[b]?) : (vec h E sz rows).holds w' := (vec h E sz rows).stable w w' hv hk
theorem grid_lt (h : (grid v hs E1 E2 xss).holds w) : ∀ b, (grid v hs E1 E2 xss).foot b → b < w.heap.size := fun b hb => by
  rcases hb with hb | ⟨i, hi, hb⟩
  · exact vec_foot_lt h.1 b hb
  · exact vec_foot_lt (h.2.2.1 i hi) b hb
end
section
variable {M : Nat → Prop} {w0 : World} {H : List Res} {v : Value} {hs : List Value} {E1 E2 : TypeId} {xss : List (List Int)} {i j : Int} {p : Addr}
theorem Own.gridRows (k : Nat) (hk : H[k]? = some (grid v hs E1 E2 xss)) : ∀ w, Own M w0 H w → RowsA w v xss := fun w hw => grid_rows (hw.at k hk)
theorem Own.gridHdr (k : Nat) (hk : H[k]? = some (grid v hs E1 E2 xss)) (hp : ElemP v i 1 p) (hi : IX i (ln xss)) : ∀ w, Own M w0 H w → w.cell? p = some (hat hs i) := fun w hw => grid_hdr (hw.at k hk) hp hi
theorem Own.gridArr (k : Nat) (hk : H[k]? = some (grid v hs E1 E2 xss)) (hi : IX i (ln xss)) : ∀ w, Own M w0 H w → Arr w (hat hs i) 1 ((ele xss i).map icell) := fun w hw => grid_arr (hw.at k hk) hi
theorem Own.gridNil {w : World} (h : Own M w0 H w) {E1 E2 : TypeId} : Own M w0 (grid nilS [] E1 E2 [] :: H) w := by
  refine ⟨h.1, ⟨⟨vec_nil (α := Value) (enc := hcell), rfl, fun i hi => absurd hi (Nat.not_lt_zero _), fun i j hi => absurd hi (Nat.not_lt_zero _), fun i hi => absurd hi (Nat.not_lt_zero _)⟩, fun b hb => ?_, fun s _ b hb => ?_⟩, h.2⟩
  · rcases hb with ⟨_, _, hb⟩ | ⟨i, hi, _⟩
    · simp [nilS] at hb
    · exact absurd hi (Nat.not_lt_zero _)
  · rcases hb with ⟨_, _, hb⟩ | ⟨i, hi, _⟩
    · simp [nilS] at hb
    · exact absurd hi (Nat.not_lt_zero _)
theorem Own.gridRep {w : World} {n : Nat} (h : Own M w0 (vec v E1 1 ((List.replicate n nilS).map hcell) :: H) w) (E2 : TypeId) : Own M w0 (grid v (List.replicate n nilS) E1 E2 (List.replicate n []) :: H) w := by
  obtain ⟨h0, ⟨h1, h2, h3⟩, h4⟩ := h
  have hn : ∀ i : Nat, (List.replicate n nilS).getD i nilS = nilS := fun i => by simp only [List.getD_eq_getElem?_getD, List.getElem?_replicate]; split <;> rfl
  have hr : ∀ i : Nat, (List.replicate n ([] : List Int)).getD i [] = [] := fun i => by simp only [List.getD_eq_getElem?_getD, List.getElem?_replicate]; split <;> rfl
  have hf : ∀ i b, ¬ vfoot ((List.replicate n nilS).getD i nilS) b := fun i b ⟨_, _, hb⟩ => by rw [hn] at hb; simp [nilS] at hb
  refine ⟨h0, ⟨⟨h1, by simp, fun i hi => ?_, fun i j _ _ _ b hb => absurd hb (hf i b), fun i _ b hb => absurd hb (hf i b)⟩, fun b hb => ?_, fun s hs b hb => ?_⟩, h4⟩
  · rw [hn, hr]; exact vec_nil (α := Int) (enc := icell)
  · rcases hb with hb | ⟨i, _, hb⟩
    · exact h2 b hb
    · exact absurd hb (hf i b)
  · rcases hb with hb | ⟨i, _, hb⟩
    · exact h3 s hs b hb
    · exact absurd hb (hf i b)
end
section
variable {P : Program} {n : Nat} {σ : Env} {M : Nat → Prop} {w0 : World} {H : List Res} {d : Option Tmp} {T U E E1 E2 : TypeId} {pos : String} {after : Array Edge} {gd : Option (Nat × Bool)} {x y : Operand} {g g' : Bool} {v u yv : Value} {hs : List Value} {xss : List (List Int)} {xs : List Int}
  {K : Act → World → Prop} {Q : Exit → Act → World → Prop} {i j : Int} {p : Addr} {w : World}
theorem grid_set (h : (grid v hs E1 E2 xss).holds w) (hi : IX i (ln xss)) (hp : ElemP (hat hs i) j 1 p) (z : Int) :
    ∃ b, (grid v hs E1 E2 xss).foot b ∧ (store p (i64v z)).run P w = .ok () (w.setCell p (i64v z)) ∧ (grid v hs E1 E2 (updG xss i j z)).holds (w.setCell p (i64v z)) ∧ (∀ k, k ≠ b → (w.setCell p (i64v z)).heap[k]? = w.heap[k]?) := by
  obtain ⟨h1, h2, h3, h4, h5⟩ := h
  have hlt : i.toNat < hs.length := by have := hi.1; have := hi.2; unfold ln at this; omega
  obtain ⟨b, ⟨n1, k1, hb⟩, rfl, hst, hv, hsame⟩ := vec_set1 (P := P) (c := i64v) icell_eq (z := z) (h3 i.toNat hlt) hp rfl
  have hbf : vfoot (hs.getD i.toNat nilS) b := ⟨n1, k1, hb⟩
  refine ⟨b, .inr ⟨_, hlt, hbf⟩, hst, ⟨vec_same h1 fun c hc => hsame c fun e => h5 _ hlt b hbf (e ▸ hc), by simp [updG, upd_length, h2], fun k hk => ?_, h4, h5⟩, hsame⟩
  unfold updG
  rw [getD_upd]
  split
  · rename_i e
    obtain ⟨rfl, _⟩ := e
    exact hv
  · rename_i e
    have hne : ¬ i.toNat = k := fun e' => e ⟨e', by omega⟩
    exact vec_same (h3 k hk) fun c hc => hsame c fun e' => h4 i.toNat k hlt hk hne b hbf (e' ▸ hc)

theorem EV.storeG (k : Nat) (z : Int) (hx : σ.ev x = some (g, .pointer (some p))) (hg : g = true) (hy : σ.ev y = some (g', .int .i64 z)) (hg' : g' = true) (hk : H[k]? = some (grid v hs E1 E2 xss)) (hi : IX i (ln xss)) (hp : ElemP (hat hs i) j 1 p) (hs' : SizeT P T 1)
    (kk : WK n K σ (Own M w0 (H.set k (grid v hs E1 E2 (updG xss i j z))))) : EV P n ⟨none, .store T x y, U, pos, after, gd⟩ σ (Own M w0 H) K Q := fun a w ha hw => by
  refine .inl ?_
  obtain ⟨b, hbf, h3, h4, h5⟩ := grid_set (P := P) (hw.at k hk) hi hp z
  obtain ⟨inf, hin, hsz⟩ := Option.map_eq_some_iff.1 hs'
  have hrun : (execOp a.eval ⟨none, .store T x y, U, pos, after, gd⟩).run P w = .ok .skip (w.setCell p (i64v z)) := by
    have h3' : (Go.store (p.add 0) (.int .i64 z)).run P w = .ok () (w.setCell p (i64v z)) := by simpa [Addr.add, i64v] using h3
    simp [execOp, ha.ev hx hg, ha.ev hy hg', Instr.storeAt, Instr.sureAddr, storeVar, Value.cells, sizeOf, typeInfo, hin, hsz, storeCells, h3']
  unfold Oper.wp
  rw [hrun]
  show K (a.put none undef) _
  have hlt := grid_lt (hw.at k hk)
  exact kk a _ ha (hw.upd k hk rfl rfl ⟨rfl, Nat.le_refl _⟩ (by simp [World.setCell]) (fun c hc hne => h5 c fun e => hne (e ▸ hbf)) h4 fun c hc => ⟨.inl hc, by simpa [World.setCell] using hlt c hc⟩)

theorem Own.two {r s : Res} {w : World} (h : Own M w0 (r :: s :: H) w) : r.holds w ∧ s.holds w ∧ (∀ b, r.foot b → ¬ s.foot b) := ⟨h.2.1.1, h.2.2.1.1, fun b hb => h.2.1.2.2 s (by simp) b hb⟩
theorem Own.merge {r s t : Res} {w w' : World} (h : Own M w0 (r :: s :: H) w) (hos : w'.os = w.os) (htape : w'.tape = w.tape) (hout : w'.output = w.output ∧ w.drawn ≤ w'.drawn) (hsz : w.heap.size ≤ w'.heap.size)
    (hch : ∀ b, b < w.heap.size → ¬ r.foot b → ¬ s.foot b → w'.heap[b]? = w.heap[b]?) (ht : t.holds w') (hf : ∀ b, t.foot b → (r.foot b ∨ s.foot b ∨ w.heap.size ≤ b) ∧ b < w'.heap.size) : Own M w0 (t :: H) w' := by
  obtain ⟨h0, ⟨r1, r2, r3⟩, ⟨s1, s2, s3⟩, h4⟩ := h
  refine ⟨h0.trans ⟨hos, htape, hout, hsz, fun b hb hM => hch b hb (fun hr => hM (r2 b hr).1) fun hs => hM (s2 b hs).1⟩, ⟨ht, fun b hb => ⟨?_, (hf b hb).2⟩, fun q hq b hb hqb => ?_⟩, ?_⟩
  · rcases (hf b hb).1 with h | h | h
    · exact (r2 b h).1
    · exact (s2 b h).1
    · exact .inr (Nat.le_trans h0.size h)
  · rcases (hf b hb).1 with h | h | h
    · exact r3 q (List.mem_cons_of_mem _ hq) b h hqb
    · exact s3 q hq b h hqb
    · have := (h4.lt q hq b hqb).2; omega
  · exact h4.change hsz fun q hq b hqb => hch b (h4.lt q hq b hqb).2 (fun hr => r3 q (List.mem_cons_of_mem _ hq) b hr hqb) fun hs => s3 q hq b hs hqb

theorem EV.storeRow (hx : σ.ev x = some (g, .pointer (some p))) (hg : g = true) (hy : σ.ev y = some (g', u)) (hg' : g' = true) (hp : ElemP v i 1 p) (hi : IX i (ln xss)) (hu : SliceLen u xs.length) (hs' : SizeT P T 1)
    (kk : WK n K σ (Own M w0 (grid v (upd hs i u) E1 E2 (upd xss i xs) :: H))) : EV P n ⟨none, .store T x y, U, pos, after, gd⟩ σ (Own M w0 (grid v hs E1 E2 xss :: vec u E2 1 (xs.map icell) :: H)) K Q := fun a w ha hw => by
  refine .inl ?_
  obtain ⟨⟨h1, h2, h3, h4, h5⟩, hv, hdis⟩ := hw.two
  have hlt : i.toNat < hs.length := by have := hi.1; have := hi.2; unfold ln at this; omega
  have hone : (id u).oneCell' = true := hu.one
  obtain ⟨b, ⟨n1, k1, rfl⟩, rfl, hst, hset, hsame⟩ := vec_set1 (P := P) (c := id) hcell_eq (z := u) h1 hp hone
  obtain ⟨inf, hin, hsz⟩ := Option.map_eq_some_iff.1 hs'
  have hrun : (execOp a.eval ⟨none, .store T x y, U, pos, after, gd⟩).run P w = .ok .skip (w.setCell ⟨b, i.toNat, none⟩ (id u)) := by
    have h3' : (Go.store ((⟨b, i.toNat, none⟩ : Addr).add 0) u).run P w = .ok () (w.setCell ⟨b, i.toNat, none⟩ (id u)) := by simpa [Addr.add] using hst
    simp [execOp, ha.ev hx hg, ha.ev hy hg', Instr.storeAt, Instr.sureAddr, storeVar, hu.cells, sizeOf, typeInfo, hin, hsz, storeCells, h3']
  unfold Oper.wp
  rw [hrun]
  show K (a.put none undef) _
  have hvb : vfoot (.slice (some ⟨b, 0, none⟩) n1 k1) b := ⟨_, _, rfl⟩
  have hnb : ∀ c, vfoot (.slice (some ⟨b, 0, none⟩) n1 k1) c → c = b := fun c ⟨_, _, he⟩ => by simp at he; exact he.1.symm
  have hub : ∀ c, vfoot u c → c ≠ b := fun c hc e => hdis b (.inl hvb) (e ▸ hc)
  refine kk a _ ha (hw.merge rfl rfl ⟨rfl, Nat.le_refl _⟩ (by simp [World.setCell]) (fun c hc hr hs => hsame c fun e => hr (by subst e; exact .inl hvb)) ⟨hset, by simp [upd_length, h2], fun k hk => ?_, fun k l hk hl hne c hc hc' => ?_, fun k hk c hc hc' => ?_⟩ fun c hc => ?_)
  · rw [upd_length] at hk
    rw [getD_upd, getD_upd, ← h2]
    split
    · exact vec_same hv fun c hc => hsame c (hub c hc)
    · exact vec_same (h3 k hk) fun c hc => hsame c fun e => h5 k hk c hc (e ▸ hvb)
  · rw [upd_length] at hk hl
    rw [getD_upd] at hc hc'
    split at hc <;> split at hc'
    · rename_i e1 e2; exact hne (e1.1.symm.trans e2.1)
    · exact hdis c (.inr ⟨l, hl, hc'⟩) hc
    · exact hdis c (.inr ⟨k, hk, hc⟩) hc'
    · exact h4 k l hk hl hne c hc hc'
  · rw [upd_length] at hk
    rw [getD_upd] at hc
    split at hc
    · exact hub c hc (hnb c hc')
    · exact h5 k hk c hc hc'
  · have hsize : (w.setCell ⟨b, i.toNat, none⟩ (id u)).heap.size = w.heap.size := by simp [World.setCell]
    rw [hsize]
    rcases hc with hc | ⟨k, hk, hc⟩
    · exact ⟨.inl (.inl hc), vec_foot_lt h1 c hc⟩
    · rw [upd_length] at hk
      rw [getD_upd] at hc
      split at hc
      · exact ⟨.inr (.inl hc), vec_foot_lt hv c hc⟩
      · exact ⟨.inl (.inr ⟨k, hk, hc⟩), vec_foot_lt (h3 k hk) c hc⟩

theorem EV.appendG {dd bytes : Nat} (hn : dd < n) (hV : VecT P U E1 1 bytes) (hx : σ.ev x = some (g, v)) (hg : g = true) (hy : σ.ev y = some (g', yv)) (hg' : g' = true) (hu : SliceLen u xs.length)
    (hnew : ∀ w, Own M w0 (grid v hs E1 E2 xss :: vec u E2 1 (xs.map icell) :: H) w → Arr w yv 1 [[u]]) (hA : AL (xss ++ [xs]).length bytes) (hGL : GL hs xss)
    (kk : ∀ v', SliceLen v' (xss ++ [xs]).length → WK n K ((dd, (true, v')) :: σ) (Own M w0 (grid v' (hs ++ [u]) E1 E2 (xss ++ [xs]) :: H))) :
    EV P n ⟨some dd, .call ⟨.builtin .append, #[x, y], #[U, U]⟩, T, pos, after, gd⟩ σ (Own M w0 (grid v hs E1 E2 xss :: vec u E2 1 (xs.map icell) :: H)) K Q := fun a w ha hw => by
  refine .inl ?_
  obtain ⟨⟨h1, h2, h3, h4, h5⟩, hv, hdis⟩ := hw.two
  have hlen : (hs.map hcell).length = xss.length := by simp [h2]
  have hA1 := hA.1; have hA2 := hA.2
  simp only [List.length_append, List.length_singleton] at hA1 hA2
  obtain ⟨v', w', hr, g1, g2, g3, g4, g5, g6, g7⟩ := run_append_vec (T := T) hV h1 (hnew w hw) (fun r hr => by simp at hr; subst hr; rfl) (fun r hr c hc => by simp at hr; subst hr; simp at hc; subst hc; exact hu.one) (by rw [hlen]; simpa using hA1) (by rw [hlen]; simpa using hA2)
  have hrun : (execOp a.eval ⟨some dd, .call ⟨.builtin .append, #[x, y], #[U, U]⟩, T, pos, after, gd⟩).run P w = .ok (.value v') w' := by
    simp [execOp, resolve, invoke, builtin, ha.ev hx hg, ha.ev hy hg', hr, Result.andThen]
  unfold Oper.wp
  rw [hrun]
  show K (a.put (some dd) _) _
  have hmap : hs.map hcell ++ [[u]] = (hs ++ [u]).map hcell := by simp [hcell]
  rw [hmap] at g1 g7
  have hrows : ∀ k, k < hs.length → ∀ b, vfoot (hs.getD k nilS) b → w'.heap[b]? = w.heap[b]? := fun k hk b hb => g6 b (vec_foot_lt (h3 k hk) b hb) (h5 k hk b hb)
  have hub : ∀ b, vfoot u b → w'.heap[b]? = w.heap[b]? := fun b hb => g6 b (vec_foot_lt hv b hb) fun hvb => hdis b (.inl hvb) hb
  have hget : ∀ k, k < (hs ++ [u]).length → (k < hs.length ∧ (hs ++ [u]).getD k nilS = hs.getD k nilS ∧ (xss ++ [xs]).getD k [] = xss.getD k []) ∨ (k = hs.length ∧ (hs ++ [u]).getD k nilS = u ∧ (xss ++ [xs]).getD k [] = xs) := fun k hk => by
    rcases Nat.lt_or_ge k hs.length with h | h
    · exact .inl ⟨h, by simp [List.getD_eq_getElem?_getD, List.getElem?_append_left h], by simp [List.getD_eq_getElem?_getD, List.getElem?_append_left (h2 ▸ h)]⟩
    · have e : k = hs.length := by simp at hk; omega
      subst e
      exact .inr ⟨rfl, by simp [List.getD_eq_getElem?_getD], by rw [h2]; simp [List.getD_eq_getElem?_getD]⟩
  have hvnew : ∀ b, vfoot v' b → vfoot v b ∨ w.heap.size ≤ b := fun b hb => (g7 b hb).1
  have hsl : SliceLen v' (xss ++ [xs]).length := by
    have := vec_slen g1
    rw [List.length_map] at this
    rwa [show (xss ++ [xs]).length = (hs ++ [u]).length from by simp [h2]]
  refine kk v' hsl _ _ (ha.put hn true _) (hw.merge g2 g3 g4 g5 (fun b hb hr hs' => g6 b hb fun hvb => hr (.inl hvb)) ⟨g1, by simp [h2], fun k hk => ?_, fun k l hk hl hne b hb hb' => ?_, fun k hk b hb hb' => ?_⟩ fun b hb => ?_)
  · rcases hget k hk with ⟨q1, q2, q3⟩ | ⟨q1, q2, q3⟩
    · rw [q2, q3]; exact vec_same (h3 k q1) (hrows k q1)
    · rw [q2, q3]; exact vec_same hv hub
  · rcases hget k hk with ⟨q1, q2, _⟩ | ⟨q1, q2, _⟩ <;> rcases hget l hl with ⟨r1, r2, _⟩ | ⟨r1, r2, _⟩ <;> rw [q2] at hb <;> rw [r2] at hb'
    · exact h4 k l q1 r1 hne b hb hb'
    · exact hdis b (.inr ⟨k, q1, hb⟩) hb'
    · exact hdis b (.inr ⟨l, r1, hb'⟩) hb
    · omega
  · rcases hget k hk with ⟨q1, q2, _⟩ | ⟨q1, q2, _⟩ <;> rw [q2] at hb
    · rcases hvnew b hb' with h | h
      · exact h5 k q1 b hb h
      · have := vec_foot_lt (h3 k q1) b hb; omega
    · rcases hvnew b hb' with h | h
      · exact hdis b (.inl h) hb
      · have := vec_foot_lt hv b hb; omega
  · rcases hb with hb | ⟨k, hk, hb⟩
    · rcases g7 b hb with ⟨h | h, h'⟩
      · exact ⟨.inl (.inl h), h'⟩
      · exact ⟨.inr (.inr h), h'⟩
    · rcases hget k hk with ⟨q1, q2, _⟩ | ⟨q1, q2, _⟩ <;> rw [q2] at hb
      · exact ⟨.inl (.inr ⟨k, q1, hb⟩), Nat.lt_of_lt_of_le (vec_foot_lt (h3 k q1) b hb) g5⟩
      · exact ⟨.inr (.inl hb), Nat.lt_of_lt_of_le (vec_foot_lt hv b hb) g5⟩
end
end Go.Rd
end

section
namespace Go.Rd
open Go.RowKit
set_option linter.unusedVariables false
section
variable {P : Program} {n : Nat} {σ : Env} {C : World → Prop} {M : Nat → Prop} {w0 : World} {H : List Res} {d : Option Tmp} {T U E D : TypeId} {pos : String} {after : Array Edge} {gd : Option (Nat × Bool)} {x y : Operand} {g g' : Bool} {v : Value}
  {K : Act → World → Prop} {Q : Exit → Act → World → Prop} {α : Type} {c : α → Value} {xs : List α} {b : Nat} {i : Int} {q : Addr}
end
theorem rows_one {u : Value} : ∀ r ∈ [[u]], r.length = 1 := fun r hr => by simp at hr; subst hr; rfl
end Go.Rd
end

section
namespace Go.Rd
set_option linter.unusedVariables false
end Go.Rd
end

section
namespace Go.Rd
set_option linter.unusedVariables false
theorem br_T {α : Type} {p : Prop} [Decidable p] {a b : α} (h : p) : br (decide p) a b = a := by rw [decide_eq_true h]; rfl
theorem br_F {α : Type} {p : Prop} [Decidable p] {a b : α} (h : ¬ p) : br (decide p) a b = b := by rw [decide_eq_false h]; rfl
theorem br_eq {α : Type} {c : Bool} {a b : α} : br c a b = if c = true then a else b := by cases c <;> rfl
theorem ck_IR {α : Type} {n : Int} {x : Option α} (h1 : -9223372036854775808 ≤ n) (h2 : n ≤ 9223372036854775807) : ck (IR n) x = x := ck_yes ⟨h1, h2⟩
theorem ck_IX {α : Type} {i n : Int} {x : Option α} (h1 : 0 ≤ i) (h2 : i < n) : ck (IX i n) x = x := ck_yes ⟨h1, h2⟩
theorem ck_SX {α : Type} {i j n : Int} {x : Option α} (h1 : 0 ≤ i) (h2 : i ≤ j) (h3 : j ≤ n) : ck (SX i j n) x = x := ck_yes ⟨h1, h2, h3⟩
theorem ck_imp {α : Type} {c : Bool} {p : Prop} [Decidable p] {x : Option α} (h : c = true → p) : ck (c = true → p) x = x := ck_yes h
@[simp] theorem bd_some' {α β : Type} {x : α} {k : α → Option β} : bd (some x) k = k x := rfl
@[simp] theorem bdG_t {α β : Type} [Inhabited α] {m : Option α} {k : α → Option β} : bdG true m k = bd m k := rfl
@[simp] theorem bdG_f {α β : Type} [Inhabited α] {m : Option α} {k : α → Option β} : bdG false m k = k default := rfl
theorem ele_nat {α : Type} [Inhabited α] (xs : List α) (i : Nat) : ele xs (i : Int) = xs.getD i default := rfl
theorem ln_nonneg {α : Type} (xs : List α) : 0 ≤ ln xs := by unfold ln; omega
theorem lp_step {γ ρ : Type} {f : γ → Option (Stp γ ρ)} {g g' : γ} {o : Out γ ρ} (h : f g = some (.next g')) (k : lp f g' = some o) : lp f g = some o := (lp_next h).trans k
theorem ele_all {α : Type} [Inhabited α] {p : α → Prop} {l : List α} (h : ∀ x ∈ l, p x) {i : Nat} (hi : i < l.length) : p (ele l i) := by
  have : ele l i = l[i] := by simp [Rd.ele, List.getD_eq_getElem?_getD, List.getElem?_eq_getElem hi]
  rw [this]; exact h _ (List.getElem_mem hi)
theorem bdG_some' {α : Type} (c b : Bool) (k : Bool → Option α) : bdG c (some b) k = k (if c = true then b else false) := by cases c <;> rfl
theorem lp_all {f : Int → Option (Stp Int Bool)} {n : Nat} {p : Nat → Prop} (step : ∀ i : Nat, i < n → (∀ j, j < i → p j) → (p i → f i = some (.next ((i : Int) + 1))) ∧ (¬ p i → f i = some (.ret false))) (hend : f n = some (.brk n)) :
    ((∀ i, i < n → p i) ∧ lp f 0 = some (.go (n : Int))) ∨ (¬ (∀ i, i < n → p i) ∧ lp f 0 = some (.ret false)) := by
  have key : ∀ (m i : Nat), i + m = n → (∀ j, j < i → p j) → ((∀ i, i < n → p i) ∧ lp f i = some (.go (n : Int))) ∨ (¬ (∀ i, i < n → p i) ∧ lp f i = some (.ret false)) := by
    intro m
    induction m with
    | zero =>
      intro i h hp
      have hi : i = n := by omega
      subst hi
      exact .inl ⟨hp, lp_brk hend⟩
    | succ m ih =>
      intro i h hp
      obtain ⟨h1, h2⟩ := step i (by omega) hp
      by_cases hpi : p i
      · have hs : ∀ j, j < i + 1 → p j := fun j hj => by
          rcases Nat.lt_or_ge j i with h | h
          · exact hp j h
          · have : j = i := by omega
            subst this; exact hpi
        rcases ih (i + 1) (by omega) hs with ⟨a, b⟩ | ⟨a, b⟩
        · exact .inl ⟨a, (lp_next (h1 hpi)).trans b⟩
        · exact .inr ⟨a, (lp_next (h1 hpi)).trans b⟩
      · exact .inr ⟨fun h => hpi (h i (by omega)), lp_ret (h2 hpi)⟩
  exact key n 0 (by omega) (fun j hj => absurd hj (Nat.not_lt_zero _))
theorem take_next {α : Type} [Inhabited α] {xs : List α} {i : Nat} (h : i < xs.length) : xs.take (i + 1) = xs.take i ++ [ele xs i] := by
  rw [List.take_add_one, List.getElem?_eq_getElem h, Option.toList_some]
  simp [ele, List.getD_eq_getElem?_getD, List.getElem?_eq_getElem h]
theorem lp_build {α ρ : Type} {f : List α × Int → Option (Stp (List α × Int) ρ)} {n : Nat} {h : Nat → α} (step : ∀ i : Nat, i < n → f ((List.range i).map h, (i : Int)) = some (.next ((List.range i).map h ++ [h i], (i : Int) + 1)))
    (hend : f ((List.range n).map h, (n : Int)) = some (.brk ((List.range n).map h, (n : Int)))) : lp f ([], 0) = some (.go ((List.range n).map h, (n : Int))) := by
  have key : ∀ m i : Nat, i + m = n → lp f ((List.range i).map h, (i : Int)) = some (.go ((List.range n).map h, (n : Int))) := by
    intro m
    induction m with
    | zero =>
      intro i hi
      have : i = n := by omega
      subst this
      exact lp_brk hend
    | succ m ih =>
      intro i hi
      refine lp_step (step i (by omega)) ?_
      have := ih (i + 1) (by omega)
      rw [List.range_succ, List.map_append] at this
      exact this
  exact key n 0 (by omega)
theorem range_map {α : Type} [Inhabited α] (l : List α) : (List.range l.length).map (fun i : Nat => ele l (i : Int)) = l := by
  apply List.ext_getElem?
  intro i
  by_cases h : i < l.length
  · simp [h, ele_nat, List.getD_eq_getElem?_getD]
  · simp [List.getElem?_eq_none (Nat.le_of_not_lt h), h]
theorem range_map' {α β : Type} [Inhabited α] (l : List α) (g : α → β) : (List.range l.length).map (fun i : Nat => g (ele l (i : Int))) = l.map g := by
  conv => rhs; rw [← range_map l]
  rw [List.map_map]
  rfl
theorem lp_scan {ρ : Type} {f : Int → Option (Stp Int ρ)} {n : Nat} {p : Nat → Prop} (q : Nat → ρ) : ∀ (m s : Nat), s + m = n → (step : ∀ i : Nat, s ≤ i → i < n → (p i → f i = some (.next ((i : Int) + 1))) ∧ (¬ p i → f i = some (.ret (q i)))) → (hend : f n = some (.brk n)) →
    ((∀ i, s ≤ i → i < n → p i) ∧ lp f s = some (.go (n : Int))) ∨ (∃ i, s ≤ i ∧ i < n ∧ ¬ p i ∧ (∀ j, s ≤ j → j < i → p j) ∧ lp f s = some (.ret (q i)))
  | 0, s, h, step, hend => by
    have : s = n := by omega
    subst this
    exact .inl ⟨fun i h1 h2 => by omega, lp_brk hend⟩
  | m + 1, s, h, step, hend => by
    obtain ⟨h1, h2⟩ := step s (Nat.le_refl _) (by omega)
    by_cases hp : p s
    · rcases lp_scan q m (s + 1) (by omega) (fun i a b => step i (by omega) b) hend with ⟨a, b⟩ | ⟨i, a, b, c, d, e⟩
      · refine .inl ⟨fun i h3 h4 => ?_, (lp_next (h1 hp)).trans b⟩
        by_cases e : i = s
        · subst e; exact hp
        · exact a i (by omega) h4
      · refine .inr ⟨i, by omega, b, c, fun j h3 h4 => ?_, (lp_next (h1 hp)).trans e⟩
        by_cases e : j = s
        · subst e; exact hp
        · exact d j (by omega) h4
    · exact .inr ⟨s, Nat.le_refl _, by omega, hp, fun j h3 h4 => by omega, lp_ret (h2 hp)⟩
theorem lp_inv {α ρ : Type} {f : α × Int → Option (Stp (α × Int) ρ)} {n : Nat} (Inv : Nat → α → Prop) (step : ∀ (i : Nat) g, i < n → Inv i g → ∃ g', f (g, (i : Int)) = some (.next (g', (i : Int) + 1)) ∧ Inv (i + 1) g') (hend : ∀ g, f (g, (n : Int)) = some (.brk (g, (n : Int)))) (g0 : α) (h0 : Inv 0 g0) :
    ∃ g, lp f (g0, 0) = some (.go (g, (n : Int))) ∧ Inv n g := by
  have key : ∀ m i : Nat, i + m = n → ∀ g, Inv i g → ∃ g', lp f (g, (i : Int)) = some (.go (g', (n : Int))) ∧ Inv n g' := by
    intro m
    induction m with
    | zero =>
      intro i hi g hg
      have : i = n := by omega
      subst this
      exact ⟨g, lp_brk (hend g), hg⟩
    | succ m ih =>
      intro i hi g hg
      obtain ⟨g', h1, h2⟩ := step i g (by omega) hg
      obtain ⟨g2, h3, h4⟩ := ih (i + 1) (by omega) g' h2
      exact ⟨g2, lp_step h1 h3, h4⟩
  exact key n 0 (by omega) g0 h0
theorem br_go {α ρ : Type} {c : Bool} {a b : α} : br c (some (Out.go a : Out α ρ)) (some (Out.go b)) = some (.go (if c = true then a else b)) := by cases c <;> rfl
theorem ele_mem' {α : Type} [Inhabited α] {l : List α} {i : Nat} (h : i < l.length) : ele l (i : Int) ∈ l := by
  rw [ele_nat, List.getD_eq_getElem?_getD, List.getElem?_eq_getElem h]; exact List.getElem_mem h
theorem mem_ele {α : Type} [Inhabited α] {l : List α} {x : α} (h : x ∈ l) : ∃ i : Nat, i < l.length ∧ ele l (i : Int) = x := by
  obtain ⟨i, hi, rfl⟩ := List.getElem_of_mem h
  exact ⟨i, hi, by rw [ele_nat, List.getD_eq_getElem?_getD, List.getElem?_eq_getElem hi]; rfl⟩
theorem upd_upd {α : Type} (l : List α) (i : Int) (a b : α) : upd (upd l i a) i b = upd l i b := by unfold upd; rw [List.set_set]
theorem ele_upd {α : Type} [Inhabited α] {l : List α} {i : Int} {a : α} (h : IX i (ln l)) : ele (upd l i a) i = a := by
  have : i.toNat < l.length := by have := h.1; have := h.2; unfold ln at this; omega
  unfold ele upd
  rw [List.getD_eq_getElem?_getD, List.getElem?_set]
  simp [this]
theorem ele_upd_ne {α : Type} [Inhabited α] {l : List α} {i j : Int} {a : α} (h : i.toNat ≠ j.toNat) : ele (upd l i a) j = ele l j := by
  unfold ele upd
  rw [List.getD_eq_getElem?_getD, List.getElem?_set, if_neg h, ← List.getD_eq_getElem?_getD]
theorem lp_chk {α ρ : Type} {f : α × Int → Option (Stp (α × Int) ρ)} {n : Nat} {r0 : ρ} (p : Nat → Prop) (Inv : Nat → α → Prop) (step : ∀ (i : Nat) g, i < n → Inv i g → (p i ∧ ∃ g', f (g, (i : Int)) = some (.next (g', (i : Int) + 1)) ∧ Inv (i + 1) g') ∨ (¬ p i ∧ f (g, (i : Int)) = some (.ret r0)))
    (hend : ∀ g, f (g, (n : Int)) = some (.brk (g, (n : Int)))) (g0 : α) (h0 : Inv 0 g0) : ((∀ i, i < n → p i) ∧ ∃ g, lp f (g0, 0) = some (.go (g, (n : Int))) ∧ Inv n g) ∨ (¬ (∀ i, i < n → p i) ∧ lp f (g0, 0) = some (.ret r0)) := by
  have key : ∀ m i : Nat, i + m = n → (∀ j, j < i → p j) → ∀ g, Inv i g → ((∀ i, i < n → p i) ∧ ∃ g', lp f (g, (i : Int)) = some (.go (g', (n : Int))) ∧ Inv n g') ∨ (¬ (∀ i, i < n → p i) ∧ lp f (g, (i : Int)) = some (.ret r0)) := by
    intro m
    induction m with
    | zero =>
      intro i hi hp g hg
      have : i = n := by omega
      subst this
      exact .inl ⟨hp, g, lp_brk (hend g), hg⟩
    | succ m ih =>
      intro i hi hp g hg
      rcases step i g (by omega) hg with ⟨h1, g', h2, h3⟩ | ⟨h1, h2⟩
      · have hp' : ∀ j, j < i + 1 → p j := fun j hj => by
          by_cases e : j = i
          · subst e; exact h1
          · exact hp j (by omega)
        rcases ih (i + 1) (by omega) hp' g' h3 with ⟨a, g2, b, c⟩ | ⟨a, b⟩
        · exact .inl ⟨a, g2, (lp_next h2).trans b, c⟩
        · exact .inr ⟨a, (lp_next h2).trans b⟩
      · exact .inr ⟨fun h => h1 (h i (by omega)), lp_ret h2⟩
  exact key n 0 (by omega) (fun j hj => absurd hj (Nat.not_lt_zero _)) g0 h0
end Go.Rd
end

section
namespace Go.Rd
set_option linter.unusedVariables false
structure Pipe where
  (n N : Nat)
  (pace regs : Int)
  (T R P : Nat → Int)
  (val : Nat → Nat → Int)
namespace Pipe
def cyc (y : Pipe) (m σ : Nat) : Int := y.T m + σ * y.pace
def due (y : Pipe) (m σ : Nat) : Int := y.R m + σ * y.pace
def reg (y : Pipe) (m σ : Nat) : Int := (y.P m + σ) % y.regs
def In (y : Pipe) (m σ : Nat) : Prop := m < y.n ∧ σ < y.N
def ent (y : Pipe) (m σ : Nat) : Due := ⟨y.due m σ, y.reg m σ, y.val σ m⟩
structure Regs (y : Pipe) (r0 r : List Int) (c : Int) : Prop where
  len : (r.length : Int) = y.regs
  put : ∀ m σ, y.In m σ → y.due m σ ≤ c → (∀ m' σ', y.In m' σ' → y.due m σ ≤ y.due m' σ' → y.due m' σ' ≤ c → y.reg m' σ' = y.reg m σ → m' = m ∧ σ' = σ) → ele r (y.reg m σ) = y.val σ m
  old : ∀ x : Int, 0 ≤ x → x < y.regs → (∀ m σ, y.In m σ → y.due m σ ≤ c → y.reg m σ ≠ x) → ele r x = ele r0 x
structure Dues (y : Pipe) (D : Nat → Nat → Prop) (c : Int) (q : List Due) : Prop where
  src : ∀ d ∈ q, ∃ m σ, y.In m σ ∧ D m σ ∧ c ≤ y.due m σ ∧ d = y.ent m σ
  all : ∀ m σ, y.In m σ → D m σ → c ≤ y.due m σ → y.ent m σ ∈ q
theorem Dues.congr {y : Pipe} {D D' : Nat → Nat → Prop} {c : Int} {q : List Due} (h : y.Dues D c q) (e : ∀ m σ, y.In m σ → (D m σ ↔ D' m σ)) : y.Dues D' c q :=
  ⟨fun d hd => by obtain ⟨m, σ, a, b, x⟩ := h.src d hd; exact ⟨m, σ, a, (e m σ a).1 b, x⟩, fun m σ a b x => h.all m σ a ((e m σ a).2 b) x⟩
theorem Dues.add {y : Pipe} {D : Nat → Nat → Prop} {c : Int} {q : List Due} (h : y.Dues D c q) {m0 σ0 : Nat} (hi : y.In m0 σ0) (hc : c ≤ y.due m0 σ0) : y.Dues (fun m σ => D m σ ∨ (m = m0 ∧ σ = σ0)) c (q ++ [y.ent m0 σ0]) :=
  ⟨fun d hd => by
    rcases List.mem_append.1 hd with hd | hd
    · obtain ⟨m, σ, a, b, x⟩ := h.src d hd; exact ⟨m, σ, a, .inl b, x⟩
    · exact ⟨m0, σ0, hi, .inr ⟨rfl, rfl⟩, hc, List.mem_singleton.1 hd⟩,
   fun m σ a b x => by
    rcases b with b | ⟨rfl, rfl⟩
    · exact List.mem_append.2 (.inl (h.all m σ a b x))
    · exact List.mem_append.2 (.inr (List.mem_singleton.2 rfl))⟩
def land1 (c : Int) (r : List Int) (d : Due) : List Int := if d.due = c then upd r d.reg d.v else r
theorem land_len (c : Int) : ∀ (q : List Due) (r : List Int), (q.foldl (land1 c) r).length = r.length
  | [], r => rfl
  | d :: q, r => by
    rw [List.foldl_cons, land_len c q]
    unfold land1
    split
    · exact upd_length
    · rfl
theorem land_old (c : Int) {x : Int} (hx : 0 ≤ x) : ∀ (q : List Due) (r : List Int), (∀ d ∈ q, 0 ≤ d.reg) → (∀ d ∈ q, d.due = c → d.reg ≠ x) → ele (q.foldl (land1 c) r) x = ele r x
  | [], r, _, _ => rfl
  | d :: q, r, h0, h => by
    rw [List.foldl_cons, land_old c hx q _ (fun d hd => h0 d (List.mem_cons_of_mem _ hd)) fun d hd => h d (List.mem_cons_of_mem _ hd)]
    unfold land1
    split
    · have := h d (List.mem_cons_self ..) ‹_›
      have := h0 d (List.mem_cons_self ..)
      exact ele_upd_ne (by omega)
    · rfl
theorem land_put (c : Int) {x v : Int} (hx : 0 ≤ x) : ∀ (q : List Due) (r : List Int), x < r.length → (∀ d ∈ q, 0 ≤ d.reg) → (∃ d ∈ q, d.due = c ∧ d.reg = x) → (∀ d ∈ q, d.due = c → d.reg = x → d.v = v) → ele (q.foldl (land1 c) r) x = v
  | [], r, _, _, h, _ => by obtain ⟨d, h, _⟩ := h; cases h
  | d :: q, r, hl, h0, he, h => by
    rw [List.foldl_cons]
    by_cases hq : ∃ d ∈ q, d.due = c ∧ d.reg = x
    · exact land_put c hx q _ (by unfold land1; split <;> simp only [upd_length, hl]) (fun d hd => h0 d (List.mem_cons_of_mem _ hd)) hq fun d hd => h d (List.mem_cons_of_mem _ hd)
    · rw [land_old c hx q _ (fun d hd => h0 d (List.mem_cons_of_mem _ hd)) fun d hd h1 h2 => hq ⟨d, hd, h1, h2⟩]
      obtain ⟨d', hd', h1, h2⟩ := he
      rcases List.mem_cons.1 hd' with rfl | hd'
      · have := h d' (List.mem_cons_self ..) h1 h2
        unfold land1
        rw [if_pos h1, h2, ele_upd ⟨hx, by unfold ln; omega⟩, this]
      · exact absurd ⟨d', hd', h1, h2⟩ hq
structure Ok (y : Pipe) : Prop where
  regs : 1 ≤ y.regs
  pace : 1 ≤ y.pace
  wait : ∀ m, m < y.n → y.T m < y.R m
theorem reg_bd {y : Pipe} (h : y.Ok) (m σ : Nat) : 0 ≤ y.reg m σ ∧ y.reg m σ < y.regs := ⟨Int.emod_nonneg _ (by have := h.regs; omega), Int.emod_lt_of_pos _ (by have := h.regs; omega)⟩
theorem cyc_due {y : Pipe} (h : y.Ok) {m σ : Nat} (hi : y.In m σ) : y.cyc m σ < y.due m σ := by
  have := h.wait m hi.1
  unfold cyc due; omega
theorem Regs.land {y : Pipe} (h : y.Ok) {r0 r : List Int} {c : Int} (hr : y.Regs r0 r (c - 1)) {q : List Due} (hq : y.Dues (fun m σ => y.cyc m σ < c) c q) : y.Regs r0 (q.foldl (land1 c) r) c := by
  have h0 : ∀ d ∈ q, 0 ≤ d.reg := fun d hd => by
    obtain ⟨m, σ, _, _, _, rfl⟩ := hq.src d hd
    exact (reg_bd h m σ).1
  have hrl := hr.len
  refine ⟨by rw [land_len]; exact hr.len, fun m σ hi hd hu => ?_, fun x hx hx2 hu => ?_⟩
  · have hb := reg_bd h m σ
    by_cases hc : y.due m σ = c
    · refine land_put c hb.1 q r (by omega) h0 ⟨_, hq.all m σ hi (by have := cyc_due h hi; omega) (by omega), hc, rfl⟩ fun d hdq h1 h2 => ?_
      obtain ⟨m', σ', hi', _, hc', rfl⟩ := hq.src d hdq
      have h1' : y.due m' σ' = c := h1
      obtain ⟨rfl, rfl⟩ := hu m' σ' hi' (by omega) (by omega) h2
      rfl
    · rw [land_old c hb.1 q r h0 fun d hdq h1 h2 => ?_]
      · exact hr.put m σ hi (by omega) fun m' σ' hi' a b e => hu m' σ' hi' a (by omega) e
      · obtain ⟨m', σ', hi', _, hc', rfl⟩ := hq.src d hdq
        have h1' : y.due m' σ' = c := h1
        obtain ⟨rfl, rfl⟩ := hu m' σ' hi' (by omega) (by omega) h2
        exact hc h1'
  · rw [land_old c hx q r h0 fun d hdq h1 h2 => ?_]
    · exact hr.old x hx hx2 fun m σ hi hd => hu m σ hi (by omega)
    · obtain ⟨m', σ', hi', _, hc', rfl⟩ := hq.src d hdq
      have h1' : y.due m' σ' = c := h1
      exact hu m' σ' hi' (by omega) h2
theorem Dues.left {y : Pipe} {D : Nat → Nat → Prop} {c : Int} {q : List Due} (hq : y.Dues D c q) : y.Dues D (c + 1) (q.filter fun d => decide (d.due ≠ c)) :=
  ⟨fun d hd => by
    obtain ⟨h1, h2⟩ := List.mem_filter.1 hd
    obtain ⟨m, σ, hi, hD, hc, rfl⟩ := hq.src d h1
    have h2' : y.due m σ ≠ c := of_decide_eq_true h2
    exact ⟨m, σ, hi, hD, by omega, rfl⟩,
   fun m σ hi hD hc => List.mem_filter.2 ⟨hq.all m σ hi hD (by omega), by
    have : y.due m σ ≠ c := by omega
    exact decide_eq_true this⟩⟩
end Pipe
def lexL (m σ m' σ' : Nat) : Prop := σ < σ' ∨ (σ = σ' ∧ m < m')
theorem lex_tri {m σ m' σ' : Nat} (h1 : ¬ lexL m σ m' σ') (h2 : ¬ lexL m' σ' m σ) : m = m' ∧ σ = σ' := by unfold lexL at *; omega
def wd (M : List (List Int)) (a x : Nat) : Int := ele (ele M (a : Int)) (x : Int)
def Words (hits : Nat → Nat → Nat → Nat → Prop) (val : Nat → Nat → Int) (D : Nat → Nat → Prop) (M0 M : List (List Int)) : Prop :=
  ∀ a x, (∃ m σ, D m σ ∧ hits m σ a x ∧ (∀ m' σ', D m' σ' → hits m' σ' a x → ¬ lexL m σ m' σ') ∧ wd M a x = val σ m) ∨ ((∀ m σ, D m σ → ¬ hits m σ a x) ∧ wd M a x = wd M0 a x)
section
variable {hits : Nat → Nat → Nat → Nat → Prop} {val : Nat → Nat → Int} {M0 : List (List Int)}
theorem Words.same {D D' : Nat → Nat → Prop} {M M' : List (List Int)} (h : Words hits val D M0 M) (h' : Words hits val D' M0 M') {a x : Nat} (e : ∀ m σ, hits m σ a x → (D m σ ↔ D' m σ)) : wd M a x = wd M' a x := by
  rcases h a x with ⟨m, σ, d, hh, hl, hv⟩ | ⟨hn, hv⟩ <;> rcases h' a x with ⟨m', σ', d', hh', hl', hv'⟩ | ⟨hn', hv'⟩
  · obtain ⟨rfl, rfl⟩ := lex_tri (hl m' σ' ((e m' σ' hh').2 d') hh') (hl' m σ ((e m σ hh).1 d) hh)
    rw [hv, hv']
  · exact absurd hh (hn' m σ ((e m σ hh).1 d))
  · exact absurd hh' (hn m' σ' ((e m' σ' hh').2 d'))
  · rw [hv, hv']
theorem Words.congr {D D' : Nat → Nat → Prop} {M : List (List Int)} (h : Words hits val D M0 M) (e : ∀ m σ a x, hits m σ a x → (D m σ ↔ D' m σ)) : Words hits val D' M0 M := fun a x => by
  rcases h a x with ⟨m, σ, d, hh, hl, hv⟩ | ⟨hn, hv⟩
  · exact .inl ⟨m, σ, (e m σ a x hh).1 d, hh, fun m' σ' d' hh' => hl m' σ' ((e m' σ' a x hh').2 d') hh', hv⟩
  · exact .inr ⟨fun m σ d hh => hn m σ ((e m σ a x hh).2 d) hh, hv⟩
theorem Words.skip {D : Nat → Nat → Prop} {M : List (List Int)} (h : Words hits val D M0 M) {m0 σ0 : Nat} (hn : ∀ a x, ¬ hits m0 σ0 a x) : Words hits val (fun m σ => D m σ ∨ (m = m0 ∧ σ = σ0)) M0 M :=
  h.congr fun m σ a x hh => ⟨.inl, fun d => by
    rcases d with d | ⟨rfl, rfl⟩
    · exact d
    · exact absurd hh (hn a x)⟩
theorem Words.put {D : Nat → Nat → Prop} {M M' : List (List Int)} (h : Words hits val D M0 M) {m0 σ0 a0 x0 : Nat} (hh : ∀ a x, hits m0 σ0 a x ↔ a = a0 ∧ x = x0) (hl : ∀ m σ, D m σ → hits m σ a0 x0 → ¬ lexL m0 σ0 m σ)
    (hv : wd M' a0 x0 = val σ0 m0) (ho : ∀ a x, ¬ (a = a0 ∧ x = x0) → wd M' a x = wd M a x) : Words hits val (fun m σ => D m σ ∨ (m = m0 ∧ σ = σ0)) M0 M' := fun a x => by
  by_cases hax : a = a0 ∧ x = x0
  · obtain ⟨rfl, rfl⟩ := hax
    refine .inl ⟨m0, σ0, .inr ⟨rfl, rfl⟩, (hh _ _).2 ⟨rfl, rfl⟩, fun m σ d hm => ?_, hv⟩
    rcases d with d | ⟨rfl, rfl⟩
    · exact hl m σ d hm
    · unfold lexL; omega
  · have hne : ¬ hits m0 σ0 a x := fun q => hax ((hh a x).1 q)
    rw [ho a x hax]
    rcases h a x with ⟨m, σ, d, hm, hl', hv'⟩ | ⟨hn, hv'⟩
    · refine .inl ⟨m, σ, .inl d, hm, fun m' σ' d' hm' => ?_, hv'⟩
      rcases d' with d' | ⟨rfl, rfl⟩
      · exact hl' m' σ' d' hm'
      · exact absurd hm' hne
    · refine .inr ⟨fun m σ d hm => ?_, hv'⟩
      rcases d with d | ⟨rfl, rfl⟩
      · exact hn m σ d hm
      · exact hne hm
end
theorem wd_put {M : List (List Int)} {a0 x0 : Nat} {z : Int} (ha : a0 < M.length) (hx : x0 < (ele M (a0 : Int)).length) : wd (updG M a0 x0 z) a0 x0 = z := by
  unfold wd updG
  rw [ele_upd ⟨by omega, by unfold ln; omega⟩, ele_upd ⟨by omega, by unfold ln; omega⟩]
theorem wd_old {M : List (List Int)} {a0 x0 a x : Nat} {z : Int} (ha : a0 < M.length) (h : ¬ (a = a0 ∧ x = x0)) : wd (updG M a0 x0 z) a x = wd M a x := by
  unfold wd updG
  by_cases h1 : a0 = a
  · subst h1
    rw [ele_upd ⟨by omega, by unfold ln; omega⟩, ele_upd_ne (by omega)]
  · rw [ele_upd_ne (by omega)]
theorem nodup_short : ∀ (n : Nat) (l : List Nat), l.Nodup → (∀ x ∈ l, x < n) → l.length ≤ n
  | 0, l, _, h => by
    cases l with
    | nil => exact Nat.le_refl _
    | cons x l => exact absurd (h x (List.mem_cons_self ..)) (by omega)
  | n + 1, l, hn, h => by
    have := nodup_short n (l.erase n) (hn.erase n) fun x hx => by
      have h1 := (List.Nodup.mem_erase_iff hn).1 hx
      have := h x h1.2
      omega
    have := List.length_erase (a := n) (l := l)
    split at this <;> omega
theorem order_has {order : List Int} {n : Nat} (hl : order.length = n) (hr : ∀ s : Nat, s < n → 0 ≤ ele order (s : Int) ∧ ele order (s : Int) < n) (hd : ∀ s, s < n → ∀ i, i < s → ele order (i : Int) ≠ ele order (s : Int)) {i : Nat} (hi : i < n) : ∃ s : Nat, s < n ∧ ele order (s : Int) = i := by
  by_cases c : ∃ s : Nat, s < n ∧ ele order (s : Int) = i
  · exact c
  · have h1 : ((List.range n).map fun s : Nat => (ele order (s : Int)).toNat).Nodup := by
      rw [List.nodup_iff_pairwise_ne, List.pairwise_map, ]
      refine List.Pairwise.imp_of_mem ?_ (List.pairwise_lt_range (n := n))
      intro a b ha hb hab e
      have ha := List.mem_range.1 ha; have hb := List.mem_range.1 hb
      have := hr a ha; have := hr b hb; have := hd b hb a hab
      omega
    have h2 : (i :: (List.range n).map fun s : Nat => (ele order (s : Int)).toNat).Nodup := by
      refine List.nodup_cons.2 ⟨fun hm => ?_, h1⟩
      obtain ⟨s, hs, e⟩ := List.mem_map.1 hm
      have hs := List.mem_range.1 hs
      have := hr s hs
      exact c ⟨s, hs, by omega⟩
    have := nodup_short n _ h2 fun x hx => by
      rcases List.mem_cons.1 hx with rfl | hx
      · exact hi
      · obtain ⟨s, hs, e⟩ := List.mem_map.1 hx
        have hs := List.mem_range.1 hs
        have := hr s hs
        omega
    rw [List.length_cons, List.length_map, List.length_range] at this
    omega
end Go.Rd
end

section
namespace Go.Rd
open Go.RowKit
set_option linter.unusedVariables false
section
variable {P : Program} {n : Nat} {ops : Array Oper} {σ : Env} {C S : World → Prop}
def endAt (R : Act → World → Prop) (Q : Exit → Act → World → Prop) : Exit → Act → World → Prop
  | .normal => R
  | e => Q e
variable {Q : Exit → Act → World → Prop} {R : Act → World → Prop}
theorem endAt_letsOut (h : LetsOut (endAt R Q)) : LetsOut Q := let ⟨a, w, x⟩ := h; ⟨a, w, x⟩
theorem wp_endAt {o : Oper} {a : Act} {w : World} {K K' : Act → World → Prop} (h : ∀ a w, K a w → K' a w) (hh : o.wp P a w K (endAt R Q)) : o.wp P a w K' Q := by
  unfold Oper.wp at *
  generalize (execOp a.eval o).run P w = r at *
  cases r with
  | ok n w' =>
    cases n <;> simp only [Oper.upon] at hh ⊢ <;>
      first
        | exact h _ _ hh
        | exact Calls.mono hh (fun e w'' he => by cases e <;> first | exact h _ _ he | exact he | exact endAt_letsOut he)
        | exact Rows.mono hh (fun _ _ he => h _ _ he)
  | halt x w' => cases x <;> simp only [Oper.upon] at hh ⊢ <;> exact hh
theorem wpOp_endAt {i : Nat} {a : Act} {w : World} {K K' : Act → World → Prop} (h : ∀ a w, K a w → K' a w) (hh : wpOp P ops (endAt R Q) i K a w) : wpOp P ops Q i K' a w := by
  unfold Go.wpOp at *
  split
  · exact h _ _ (by simpa [*] using hh)
  · rename_i o ho
    simp only [ho] at hh
    split
    · rename_i hw
      simp only [hw, if_true] at hh
      exact hh.imp (wp_endAt h) fun ⟨x, y⟩ => ⟨x, endAt_letsOut y⟩
    · rename_i hw; simp only [hw] at hh; exact h _ _ hh
theorem wpAny_endAt {md : Region.Mode} (hR : ∀ a w, R a w → Q .normal a w) : ∀ (fuel : Nat) (listed : Array Bool) (a : Act) (w : World), wpAny P md ops (endAt R Q) fuel listed a w → wpAny P md ops Q fuel listed a w
  | 0, listed, a, w, h => ⟨h.1, hR a w h.2⟩
  | fuel + 1, listed, a, w, h => ⟨fun h0 => hR a w (h.1 h0), fun i hi => wpOp_endAt (fun a w => wpAny_endAt hR fuel _ a w) (h.2 i hi)⟩
theorem wpAnyG_endAt {md : Region.Mode} (hR : ∀ a w, R a w → Q .normal a w) : ∀ (fuel : Nat) (S : World → Prop) (listed : Array Bool) (C : World → Prop) (a : Act), wpAnyG P md ops (endAt R Q) S fuel listed C a → wpAnyG P md ops Q S fuel listed C a
  | 0, S, listed, C, a, h => ⟨h.1, fun w hw => hR a w (h.2 w hw)⟩
  | fuel + 1, S, listed, C, a, h => by
    intro hD
    rcases h hD with ⟨h0, h1⟩ | ⟨h0, h1⟩
    · refine .inl ⟨fun hr w hw => hR a w (h0 hr w hw), fun i hi w hw => wpOp_endAt (fun a w hh => ?_) (h1 i hi w hw)⟩
      obtain ⟨C', S', x1, x2, x3, x4, x5⟩ := hh
      exact ⟨C', S', x1, x2, x3, x4, wpAnyG_endAt hR fuel S' _ C' a x5⟩
    · exact .inr ⟨h0, fun w hw => wpAny_endAt hR _ _ a w (h1 w hw)⟩
theorem WD.cut2 (env : Nat → Nat → Env) (cls : Nat → Nat → World → Prop) {fuel : Nat} {listed : Array Bool} (hafter : ∀ g0 g1, WK n (Q .normal) (env g0 g1) (cls g0 g1))
    (h : WD P n ops (endAt (fun a w => ∃ g0 g1, Has n a (env g0 g1) ∧ cls g0 g1 w) Q) S fuel listed σ C) : WD P n ops Q S fuel listed σ C := fun hCS a ha =>
  wpAnyG_endAt (fun a w ⟨g0, g1, h1, h2⟩ => hafter g0 g1 a w h1 h2) _ _ _ _ _ (h hCS a ha)
theorem WQ.cutEnd2 {env : Nat → Nat → Env} {cls : Nat → Nat → World → Prop} (g0 g1 : Nat) (hs : Sub σ (env g0 g1)) (hd : ∀ w, C w → cls g0 g1 w) : WK n (endAt (fun a w => ∃ g0 g1, Has n a (env g0 g1) ∧ cls g0 g1 w) Q .normal) σ C := fun a w ha hw => ⟨g0, g1, ha.sub hs, hd w hw⟩
instance {R : Act → World → Prop} {Q : Exit → Act → World → Prop} [h : POk Q] : POk (endAt R Q) := ⟨h.ok⟩
variable {M : Nat → Prop} {w0 : World} {H : List Res}
def eachOkL (ops : Array Oper) (is : List Nat) (m k : Nat) : Bool := Region.ready .any ops (lst m k) == is && !is.isEmpty
theorem WD.each (is : List Nat) (k : Nat) {m fuel : Nat} (hr : eachOkL ops is m k = true)
    (h : ∀ i ∈ is, ∃ oi k', ops[i]? = some oi ∧ oi.guard = none ∧ (lst m k).setIfInBounds i true = lst m k' ∧
      EV P n oi σ (Own M w0 H) (fun a' w' => ∃ C' S' : World → Prop, Closed C' ∧ (∀ x, C' x → S' x) ∧ (∀ x, S' x → S x) ∧ C' w' ∧ wpAnyG P .any ops Q S' fuel (lst m k') C' a') Q) : WD P n ops Q S (fuel + 1) (lst m k) σ (Own M w0 H) := fun hCS a ha => by
  unfold eachOkL at hr
  simp only [Bool.and_eq_true, beq_iff_eq, Bool.not_eq_true', List.isEmpty_eq_false_iff] at hr
  intro _
  refine .inl ⟨fun h0 => absurd (hr.1.symm.trans h0) hr.2, fun j hj w hw => ?_⟩
  rw [hr.1] at hj
  obtain ⟨oi, k', h1, h2, h3, h4⟩ := h j hj
  rw [h3]
  unfold Go.wpOp
  simp only [h1]
  rw [if_pos (by simp [Region.wanted, h2])]
  exact h4 a w ha hw
def stepOkL (ops : Array Oper) (i m k k' : Nat) : Bool := (lst m k).setIfInBounds i true == lst m k'
theorem WD.two {o1 o2 : Oper} (i1 i2 k k1 k2 : Nat) {m fuel : Nat} (hr : eachOkL ops [i1, i2] m k = true) (h1 : ops[i1]? = some o1) (h2 : ops[i2]? = some o2) (g1 : o1.guard = none) (g2 : o2.guard = none) (s1 : stepOkL ops i1 m k k1 = true) (s2 : stepOkL ops i2 m k k2 = true)
    (e1 : EV P n o1 σ (Own M w0 H) (fun a' w' => ∃ C' S' : World → Prop, Closed C' ∧ (∀ x, C' x → S' x) ∧ (∀ x, S' x → S x) ∧ C' w' ∧ wpAnyG P .any ops Q S' fuel (lst m k1) C' a') Q)
    (e2 : EV P n o2 σ (Own M w0 H) (fun a' w' => ∃ C' S' : World → Prop, Closed C' ∧ (∀ x, C' x → S' x) ∧ (∀ x, S' x → S x) ∧ C' w' ∧ wpAnyG P .any ops Q S' fuel (lst m k2) C' a') Q) : WD P n ops Q S (fuel + 1) (lst m k) σ (Own M w0 H) :=
  WD.each [i1, i2] k hr fun i hi => by
    simp only [List.mem_cons, List.not_mem_nil, or_false] at hi
    unfold stepOkL at s1 s2
    rcases hi with rfl | rfl
    · exact ⟨o1, k1, h1, g1, beq_iff_eq.1 s1, e1⟩
    · exact ⟨o2, k2, h2, g2, beq_iff_eq.1 s2, e2⟩
end
end Go.Rd
end

section
namespace Go.Rd
open Go.RowKit Go.MapKept
set_option linter.unusedVariables false
section
variable {κ β : Type} [DecidableEq κ]
def mhas (m : List (κ × β)) (k : κ) : Bool := m.any fun p => decide (p.1 = k)
def mget (m : List (κ × β)) (k : κ) (d : β) : β := match m.find? (fun p => decide (p.1 = k)) with
  | some p => p.2
  | none => d
def mput (m : List (κ × β)) (k : κ) (v : β) : List (κ × β) := match m with
  | [] => [(k, v)]
  | p :: r => if p.1 = k then (k, v) :: r else p :: mput r k v
theorem mget_nil {k : κ} {d : β} : mget ([] : List (κ × β)) k d = d := rfl
theorem mget_cons {p : κ × β} {m : List (κ × β)} {k : κ} {d : β} : mget (p :: m) k d = if p.1 = k then p.2 else mget m k d := by
  unfold mget
  rw [List.find?_cons]
  by_cases h : p.1 = k <;> simp [h]
theorem mget_mput {m : List (κ × β)} {k k' : κ} {v d : β} : mget (mput m k v) k' d = if k = k' then v else mget m k' d := by
  induction m with
  | nil => unfold mput; rw [mget_cons]
  | cons p m ih =>
    unfold mput
    by_cases h : p.1 = k
    · rw [if_pos h, mget_cons, mget_cons]
      subst h
      by_cases h2 : p.1 = k' <;> simp [h2]
    · rw [if_neg h, mget_cons, mget_cons, ih]
      by_cases h2 : p.1 = k'
      · have : ¬ k = k' := fun e => h (h2.trans e.symm)
        simp [h2, this]
      · simp [h2]
end
def kI (n : Int) : Value := .int .i64 n
def kP (p : Int × Int) : Value := .agg #[.int .i64 p.1, .int .i64 p.2]
def bv (b : Bool) : Value := .bool b
structure KeyT (P : Program) {κ : Type} [DecidableEq κ] (K : TypeId) (ke : κ → Value) : Prop where
  check : ∀ k w b, (Instr.checkKey b 10000 K (ke k)).run P w = .ok () w
  find : ∀ (k : κ) w (es : List MapEntry) (ks : List κ), es.map (·.key) = ks.map ke → ∃ r, (Instr.findKey K (ke k) es).run P w = .ok r w ∧
    ((r = none ∧ ∀ j ∈ ks, j ≠ k) ∨ (∃ i e, r = some (i, e.val) ∧ es[i]? = some e ∧ ks[i]? = some k ∧ ∀ j < i, ks[j]? ≠ some k))
  same : ∀ k, Instr.sameBits 10000 (ke k) (ke k) = true
theorem find_asking {P : Program} {κ : Type} [DecidableEq κ] {K : TypeId} {ke : κ → Value} (heq : ∀ a b w, (Op.equal K (ke a) (ke b)).run P w = .ok (decide (b = a)) w) (k : κ) (w : World) : ∀ (es : List MapEntry) (ks : List κ) (n : Nat), es.map (·.key) = ks.map ke →
    ∃ r, (Instr.findAsking K (ke k) es n).run P w = .ok r w ∧ ((r = none ∧ ∀ j ∈ ks, j ≠ k) ∨ (∃ i e, r = some (n + i, e.val) ∧ es[i]? = some e ∧ ks[i]? = some k ∧ ∀ j < i, ks[j]? ≠ some k))
  | [], [], n, _ => ⟨none, by simp [Instr.findAsking], .inl ⟨rfl, fun j hj => by cases hj⟩⟩
  | [], _ :: _, n, h => by simp at h
  | _ :: _, [], n, h => by simp at h
  | e :: es, k' :: ks, n, h => by
    simp only [List.map_cons, List.cons.injEq] at h
    have hq := heq k k' w
    by_cases hk : k' = k
    · subst hk
      refine ⟨some (n, e.val), ?_, .inr ⟨0, e, rfl, rfl, rfl, fun j hj => by omega⟩⟩
      simp [Instr.findAsking, h.1, hq]
    · obtain ⟨r, hr, hh⟩ := find_asking heq k w es ks (n + 1) h.2
      refine ⟨r, ?_, ?_⟩
      · simp [Instr.findAsking, h.1, hq, hk, hr]
      · rcases hh with ⟨a, b⟩ | ⟨i, e', a, b, c, d⟩
        · exact .inl ⟨a, fun j hj => by rcases List.mem_cons.1 hj with rfl | hj; exact hk; exact b j hj⟩
        · refine .inr ⟨i + 1, e', by rw [a]; congr 2; omega, by simpa using b, by simpa using c, fun j hj => ?_⟩
          cases j with
          | zero => simpa using hk
          | succ j => simpa using d j (by omega)
theorem find_now {P : Program} {K : TypeId} {t : IntKind} (k : Int) : ∀ (es : List MapEntry) (ks : List Int) (n : Nat), es.map (·.key) = ks.map kI →
    ∃ r, Instr.findNow (.int t) (kI k) es n = some r ∧ ((r = none ∧ ∀ j ∈ ks, j ≠ k) ∨ (∃ i e, r = some (n + i, e.val) ∧ es[i]? = some e ∧ ks[i]? = some k ∧ ∀ j < i, ks[j]? ≠ some k))
  | [], [], n, _ => ⟨none, by simp [Instr.findNow], .inl ⟨rfl, fun j hj => by cases hj⟩⟩
  | [], _ :: _, n, h => by simp at h
  | _ :: _, [], n, h => by simp at h
  | e :: es, k' :: ks, n, h => by
    simp only [List.map_cons, List.cons.injEq] at h
    by_cases hk : k' = k
    · subst hk
      exact ⟨some (n, e.val), by simp [Instr.findNow, h.1, kI, Instr.sameNow], .inr ⟨0, e, rfl, rfl, rfl, fun j hj => by omega⟩⟩
    · obtain ⟨r, hr, hh⟩ := find_now (P := P) (K := K) (t := t) k es ks (n + 1) h.2
      refine ⟨r, ?_, ?_⟩
      · have hk2 : (k == k') = false := by simp; exact fun e => hk e.symm
        unfold kI at hr
        simp [Instr.findNow, h.1, kI, Instr.sameNow, hk2, hr]
      · rcases hh with ⟨a, b⟩ | ⟨i, e', a, b, c, d⟩
        · exact .inl ⟨a, fun j hj => by rcases List.mem_cons.1 hj with rfl | hj; exact hk; exact b j hj⟩
        · refine .inr ⟨i + 1, e', by rw [a]; congr 2; omega, by simpa using b, by simpa using c, fun j hj => ?_⟩
          cases j with
          | zero => simpa using hk
          | succ j => simpa using d j (by omega)
theorem KeyT.int {P : Program} {K : TypeId} (h : P.underlying K = some (.int .i64)) : KeyT P K kI where
  check := fun k w b => by rw [show (10000 : Nat) = 9999 + 1 from rfl, Instr.checkKey]; simp [run_underlying h, kI]
  find := fun k w es ks he => by
    obtain ⟨r, h1, h2⟩ := find_now (P := P) (K := K) (t := .i64) k es ks 0 he
    refine ⟨r, by rw [run_findKey h h1], ?_⟩
    simpa using h2
  same := fun k => by simp [kI, Instr.sameBits]
theorem KeyT.pair {P : Program} {K I : TypeId} (h : P.underlying K = some (.array 2 I)) (hI : P.underlying I = some (.int .i64)) (hs : (P.info? I).map (·.size) = some 1) : KeyT P K kP where
  check := fun k w b => by
    have hag : (isAgg I).run P w = .ok false w := by simp [isAgg, run_underlying hI]
    have hz := run_sizeOf (w := w) hs
    have hc : ∀ n : Int, (Instr.checkKey b 9999 I (.int .i64 n)).run P w = .ok () w := fun n => by rw [show (9999 : Nat) = 9998 + 1 from rfl, Instr.checkKey]; simp [run_underlying hI]
    rw [show (10000 : Nat) = 9999 + 1 from rfl, Instr.checkKey]
    simp only [Sem.run_bind, run_underlying h, Result.andThen_ok, kP, Std.Legacy.Range.forIn_eq_forIn_range', Std.Legacy.Range.size, Nat.sub_zero, Nat.add_one_sub_one, Nat.div_one]
    simp [List.range', hz, part, hag, hc]
  find := fun k w es ks he => by
    have heq : ∀ a b w, (Op.equal K (kP a) (kP b)).run P w = .ok (decide (b = a)) w := fun a b w => by
      have hag : (isAgg I).run P w = .ok false w := by simp [isAgg, run_underlying hI]
      have hz := run_sizeOf (w := w) hs
      have e1 : ∀ x y : Int, (Op.equalIn 9999 I (.int .i64 x) (.int .i64 y)).run P w = .ok (x == y) w := fun x y => run_equalIn_int (P := P) (w := w) 9998 I .i64 .i64 x y hI
      obtain ⟨a1, a2⟩ := a
      obtain ⟨b1, b2⟩ := b
      simp only [Op.equal, Op.maxDepth, kP]
      rw [Op.equalIn]
      simp only [Sem.run_bind, run_underlying h, Result.andThen_ok, Std.Legacy.Range.forIn_eq_forIn_range', Std.Legacy.Range.size, Nat.sub_zero, Nat.add_one_sub_one, Nat.div_one]
      simp [List.range', hz, part, hag, e1]
      by_cases h1 : a1 = b1
      · subst h1
        by_cases h2 : a2 = b2
        · subst h2; simp
        · have : ¬ b2 = a2 := fun e => h2 e.symm
          simp [h2, this]
      · have : ¬ b1 = a1 := fun e => h1 e.symm
        simp [h1, this]
    obtain ⟨r, h1, h2⟩ := find_asking heq k w es ks 0 he
    have hn : ∀ es : List MapEntry, es ≠ [] → Instr.findNow (.array 2 I) (kP k) es 0 = none := fun es hes => by
      cases es with
      | nil => exact absurd rfl hes
      | cons e es => simp [Instr.findNow, Instr.sameNow]
    refine ⟨r, ?_, by simpa using h2⟩
    cases es with
    | nil =>
      have : r = none := by simpa [Instr.findAsking] using h1.symm
      subst this
      simp [Instr.findKey, run_underlying h, Instr.findNow]
    | cons e es => simp [Instr.findKey, run_underlying h, hn (e :: es) (by simp), h1]
  same := fun k => by simp [kP, Instr.sameBits]
end Go.Rd
namespace Go.Rd
open Go.RowKit Go.MapKept
set_option linter.unusedVariables false
section
variable {κ β : Type} {ke : κ → Value} {ve : β → Value}
structure MapOk (ke : κ → Value) (ve : β → Value) (es : Array MapEntry) (c : Nat) (L : List (κ × β)) : Prop where
  size : es.size = L.length
  ent : ∀ (i : Nat) (p : κ × β), L[i]? = some p → ∃ n, es[i]? = some (MapEntry.mk (ke p.1) (ve p.2) n) ∧ n < c
  born : ∀ (i j : Nat) (e e' : MapEntry), es[i]? = some e → es[j]? = some e' → e.born = e'.born → i = j
theorem MapOk.nil : MapOk ke ve #[] 0 ([] : List (κ × β)) := ⟨rfl, fun i p h => by simp at h, fun i j e e' h => by simp at h⟩
theorem MapOk.keys {es : Array MapEntry} {c : Nat} {L : List (κ × β)} (h : MapOk ke ve es c L) : es.toList.map (·.key) = (L.map (·.1)).map ke := by
  apply List.ext_getElem?
  intro i
  simp only [List.getElem?_map, Array.getElem?_toList]
  cases hL : L[i]? with
  | none =>
    have : es[i]? = none := by
      rw [Array.getElem?_eq_none_iff, h.size]
      exact List.getElem?_eq_none_iff.1 hL
    simp [this]
  | some p =>
    obtain ⟨n, h1, _⟩ := h.ent i p hL
    simp [h1]
theorem MapOk.setVal {es : Array MapEntry} {c : Nat} {L : List (κ × β)} (h : MapOk ke ve es c L) {i : Nat} {k : κ} {v : β} (hk : ∃ p : κ × β, L[i]? = some p ∧ p.1 = k) : MapOk ke ve (es.modify i fun e => { e with val := ve v }) c (L.set i (k, v)) := by
  obtain ⟨p, hp, rfl⟩ := hk
  refine ⟨by simp [h.size], fun j q hq => ?_, fun a b e e' h1 h2 h3 => ?_⟩
  · rw [List.getElem?_set] at hq
    rw [Array.getElem?_modify]
    by_cases hj : i = j
    · subst hj
      obtain ⟨n, hn, hc⟩ := h.ent i p hp
      split at hq
      · split at hq
        · cases hq; exact ⟨n, by simp [hn], hc⟩
        · cases hq
      · contradiction
    · rw [if_neg hj] at hq ⊢
      exact h.ent j q hq
  · rw [Array.getElem?_modify] at h1 h2
    have key : ∀ a e, (if i = a then Option.map (fun e : MapEntry => { e with val := ve v }) es[a]? else es[a]?) = some e → ∃ e0, es[a]? = some e0 ∧ e0.born = e.born := fun a e h => by
      split at h
      · cases hq : es[a]? with
        | none => simp [hq] at h
        | some e0 => simp [hq] at h; exact ⟨e0, rfl, by rw [← h]⟩
      · exact ⟨e, h, rfl⟩
    obtain ⟨e0, q1, q2⟩ := key a e h1
    obtain ⟨e1, q3, q4⟩ := key b e' h2
    exact h.born a b e0 e1 q1 q3 (by rw [q2, q4, h3])
theorem MapOk.push {es : Array MapEntry} {c : Nat} {L : List (κ × β)} (h : MapOk ke ve es c L) (k : κ) (v : β) : MapOk ke ve (es.push { key := ke k, val := ve v, born := c }) (c + 1) (L ++ [(k, v)]) := by
  have old : ∀ (i : Nat) (e : MapEntry), es[i]? = some e → e.born < c := fun i e he => by
    have hlt : i < L.length := by rw [← h.size]; exact (Array.getElem?_eq_some_iff.1 he).1
    obtain ⟨n, h1, h2⟩ := h.ent i L[i] (List.getElem?_eq_getElem hlt)
    rw [he] at h1; cases h1; exact h2
  refine ⟨by simp [h.size], fun j q hq => ?_, fun a b e e' h1 h2 h3 => ?_⟩
  · rw [Array.getElem?_push]
    by_cases hj : j = es.size
    · rw [if_pos hj]
      have : q = (k, v) := by
        rw [hj, h.size] at hq; simpa using hq.symm
      subst this
      exact ⟨c, rfl, by omega⟩
    · rw [if_neg hj]
      have hlt : j < L.length := by
        have := (List.getElem?_eq_some_iff.1 hq).1
        simp at this
        rw [h.size] at hj; omega
      rw [List.getElem?_append_left hlt] at hq
      obtain ⟨n, q1, q2⟩ := h.ent j q hq
      exact ⟨n, q1, by omega⟩
  · rw [Array.getElem?_push] at h1 h2
    split at h1 <;> split at h2
    · omega
    · cases h1; have := old b e' h2; simp only at h3; omega
    · cases h2; have := old a e h1; simp only at h3; omega
    · exact h.born a b e e' h1 h2 h3
def mapR (b : Nat) (ke : κ → Value) (ve : β → Value) (L : List (κ × β)) : Res where
  foot := fun x => x = b
  holds := fun w => ∃ es c, w.heap[b]? = some (.map es c) ∧ MapOk ke ve es c L
  stable := fun w w' ⟨es, c, h, h2⟩ hk => ⟨es, c, (hk b rfl).trans h, h2⟩
theorem MapOk.find {es : Array MapEntry} {c : Nat} {L : List (κ × β)} (h : MapOk ke ve es c L) {i : Nat} {e : MapEntry} (he : es[i]? = some e) : es.findIdx? (fun x => (x.born : Int) == (e.born : Int)) = some i := by
  obtain ⟨hi, rfl⟩ := Array.getElem?_eq_some_iff.1 he
  rw [Array.findIdx?_eq_some_iff_getElem]
  refine ⟨hi, by simp, fun j hj hc => ?_⟩
  have hji : j < es.size := by omega
  have := h.born j i _ _ (Array.getElem?_eq_getElem hji) (Array.getElem?_eq_getElem hi) (by simp at hc; omega)
  omega
variable [DecidableEq κ]
theorem mget_at {k : κ} {d : β} : ∀ {L : List (κ × β)} {i : Nat}, (L.map (·.1))[i]? = some k → (∀ j < i, (L.map (·.1))[j]? ≠ some k) → ∃ p : κ × β, L[i]? = some p ∧ p.1 = k ∧ mget L k d = p.2
  | [], i, h, _ => by simp at h
  | p :: L, 0, h, _ => by
    simp at h
    exact ⟨p, rfl, h, by rw [mget_cons, if_pos h]⟩
  | p :: L, i + 1, h, hj => by
    have h0 : ¬ p.1 = k := by simpa using hj 0 (by omega)
    obtain ⟨q, h1, h2, h3⟩ := mget_at (k := k) (d := d) (L := L) (i := i) (by simpa using h) (fun j hlt => by simpa using hj (j + 1) (by omega))
    exact ⟨q, by simpa using h1, h2, by rw [mget_cons, if_neg h0, h3]⟩
theorem mget_not {k : κ} {d : β} : ∀ {L : List (κ × β)}, (∀ j ∈ L.map (·.1), j ≠ k) → mget L k d = d
  | [], _ => rfl
  | p :: L, h => by
    rw [mget_cons, if_neg (h p.1 (by simp)), mget_not fun j hj => h j (by simp at hj ⊢; exact .inr hj)]
theorem mput_at {k : κ} {v : β} : ∀ {L : List (κ × β)} {i : Nat}, (L.map (·.1))[i]? = some k → (∀ j < i, (L.map (·.1))[j]? ≠ some k) → mput L k v = L.set i (k, v)
  | [], i, h, _ => by simp at h
  | p :: L, 0, h, _ => by
    simp at h
    simp [mput, h]
  | p :: L, i + 1, h, hj => by
    have h0 : ¬ p.1 = k := by simpa using hj 0 (by omega)
    unfold mput
    rw [if_neg h0, List.set_cons_succ, mput_at (L := L) (i := i) (by simpa using h) (fun j hlt => by simpa using hj (j + 1) (by omega))]
theorem mput_not {k : κ} {v : β} : ∀ {L : List (κ × β)}, (∀ j ∈ L.map (·.1), j ≠ k) → mput L k v = L ++ [(k, v)]
  | [], _ => rfl
  | p :: L, h => by
    unfold mput
    rw [if_neg (h p.1 (by simp)), mput_not fun j hj => h j (by simp at hj ⊢; exact .inr hj)]
    rfl
def mapW (b : Nat) (ke : κ → Value) (ve : β → Value) (dft : β) (L : List (κ × β)) : Res where
  foot := fun x => x = b
  holds := fun w => ∃ L', (mapR b ke ve L').holds w ∧ ∀ key, mget L' key dft = mget L key dft
  stable := fun w w' ⟨L', h, h2⟩ hk => ⟨L', (mapR b ke ve L').stable w w' h hk, h2⟩
def mapMid (b : Nat) (ke : κ → Value) (ve : β → Value) (dft : β) (L : List (κ × β)) (k : κ) (s : Nat) : Res where
  foot := fun x => x = b
  holds := fun w => ∃ es c i, w.heap[b]? = some (.map es c) ∧ (∃ L', MapOk ke ve es c L' ∧ ∀ key, mget L' key dft = mget L key dft) ∧ es.findIdx? (fun e => (e.born : Int) == (s : Int)) = some i ∧ ∀ v, MapOk ke ve (es.modify i fun e => { e with val := ve v }) c (mput L k v)
  stable := fun w w' ⟨es, c, i, h, h2⟩ hk => ⟨es, c, i, (hk b rfl).trans h, h2⟩
end
section
variable {P : Program} {n : Nat} {σ : Env} {M : Nat → Prop} {w0 : World} {H : List Res} {d : Option Tmp} {T U E Kt : TypeId} {pos : String} {after : Array Edge} {gd : Option (Nat × Bool)} {x y z : Operand} {g g' g'' : Bool} {v : Value}
  {K : Act → World → Prop} {Q : Exit → Act → World → Prop} {κ β : Type} {ke : κ → Value} {ve : β → Value} {L : List (κ × β)} {b : Nat}
def MapT (P : Program) (U Kt E : TypeId) : Prop := P.underlying U = some (.map Kt E)
def ZVal (P : Program) (E : TypeId) (v : Value) : Prop := ((P.info? E).map fun i => i.zero) = some (some v)
theorem run_zeroV {w : World} (h : ZVal P E v) : (zeroValue E).run P w = .ok v w := by
  obtain ⟨i, hi, hz⟩ := Option.map_eq_some_iff.1 h
  simp [zeroValue, typeInfo, hi, hz]
theorem EV.makeMap {dd : Nat} (hn : dd < n) (kk : ∀ b, WK n K ((dd, (true, .map (some b))) :: σ) (Own M w0 (mapR b ke ve ([] : List (κ × β)) :: H))) : EV P n ⟨some dd, .makeMap U none, T, pos, after, gd⟩ σ (Own M w0 H) K Q := fun a w ha hw => by
  refine .inl ?_
  have hrun : (execOp a.eval ⟨some dd, .makeMap U none, T, pos, after, gd⟩).run P w = .ok (.value (.map (some w.heap.size))) (w.alloc (.map #[] 0)) := by
    simp [execOp, Instr.makeMap, newObj, Sem.run, Result.andThen]
  unfold Oper.wp
  rw [hrun]
  show K (a.put (some dd) _) _
  refine kk w.heap.size _ _ (ha.put hn true _) (hw.push (w' := w.alloc (.map #[] 0)) ?_ (mapR w.heap.size ke ve []) ⟨#[], 0, heap_alloc_new w _, MapOk.nil⟩ ?_)
  · exact Grow.alloc _
  · intro b hb
    cases hb
    simp
variable [DecidableEq κ]
theorem run_lookup {w : World} {k : κ} {dft : β} {ok : Bool} (hU : MapT P U Kt E) (hK : KeyT P Kt ke) (hz : ZVal P E (ve dft)) (h : (mapR b ke ve L).holds w) : (Instr.lookup U (.map (some b)) (ke k) ok).run P w = .ok (if ok then .tuple #[ve (mget L k dft), .bool (mhas L k)] else ve (mget L k dft)) w := by
  obtain ⟨es, c, hh, hM⟩ := h
  obtain ⟨r, h1, h2⟩ := hK.find k w es.toList (L.map (·.1)) hM.keys
  have hg : (getObj b).run P w = .ok (.map es c) w := by simp [getObj, Sem.run, hh]
  have hc := hK.check k w es.isEmpty
  unfold Instr.lookup
  rcases h2 with ⟨rfl, hn⟩ | ⟨i, e, rfl, he, hk, hj⟩
  · have e1 : mget L k dft = dft := mget_not hn
    have e2 : mhas L k = false := by
      unfold mhas
      rw [List.any_eq_false]
      intro p hp
      simpa using hn p.1 (List.mem_map_of_mem hp)
    simp [run_underlying hU, hg, hc, h1, run_zeroV hz, e1, e2]
  · obtain ⟨p, q1, q2, q3⟩ := mget_at (d := dft) hk hj
    obtain ⟨m, q4, _⟩ := hM.ent i p q1
    have : e.val = ve p.2 := by rw [Array.getElem?_toList, q4] at he; cases he; rfl
    have e2 : mhas L k = true := by
      unfold mhas
      rw [List.any_eq_true]
      exact ⟨p, List.mem_of_getElem? q1, by simpa using q2⟩
    simp [run_underlying hU, hg, hc, h1, q3, this, e2]
theorem QV.lookup {k : κ} (j : Nat) (dft : β) (hU : MapT P U Kt E) (hK : KeyT P Kt ke) (hz : ZVal P E (ve dft)) (hx : σ.ev x = some (g, .map (some b))) (hg : g = true) (hy : σ.ev y = some (g', ke k)) (hg' : g' = true) (hj : H[j]? = some (mapR b ke ve L)) :
    QV P ⟨d, .lookup U x y false, T, pos, after, gd⟩ σ (Own M w0 H) (ve (mget L k dft)) := .of_run fun n a ha w hw => by
  have := run_lookup (k := k) (ok := false) hU hK hz (hw.at j hj)
  simp only [execOp, ha.ev hx hg, ha.ev hy hg', Sem.run_bind, this, Result.andThen_ok, Sem.run_pure]
  rfl
theorem map_upd' {w : World} {o : Obj} {r' : Res} {j : Nat} {r : Res} (hw : Own M w0 H w) (hj : H[j]? = some r) (hf : ∀ x, r.foot x ↔ x = b) (hf' : ∀ x, r'.foot x ↔ x = b) {o0 : Obj} (hb : w.heap[b]? = some o0) (hr : r'.holds { w with heap := w.heap.setIfInBounds b o }) :
    Own M w0 (H.set j r') { w with heap := w.heap.setIfInBounds b o } := by
  have hlt : b < w.heap.size := (Array.getElem?_eq_some_iff.1 hb).1
  refine hw.upd j hj rfl rfl ⟨rfl, Nat.le_refl _⟩ (by simp) (fun x hx hn => ?_) hr fun x hx => ?_
  · exact (heap_set hb).2 x fun e => hn ((hf x).2 e)
  · exact ⟨.inl ((hf x).2 ((hf' x).1 hx)), by rw [(hf' x).1 hx]; simpa using hlt⟩
theorem EV.mapEntry {dd : Nat} (hn : dd < n) (k : κ) (j : Nat) (dft : β) (hU : MapT P U Kt E) (hK : KeyT P Kt ke) (hz : ZVal P E (ve dft)) (hx : σ.ev x = some (g, .map (some b))) (hg : g = true) (hy : σ.ev y = some (g', ke k)) (hg' : g' = true) (hj : H[j]? = some (mapR b ke ve L))
    (kk : ∀ s : Nat, WK n K ((dd, (true, .tuple #[ve (mget L k dft), .int .i64 s])) :: σ) (Own M w0 (H.set j (mapMid b ke ve dft L k s)))) : EV P n ⟨some dd, .mapEntry U x y, T, pos, after, gd⟩ σ (Own M w0 H) K Q := fun a w ha hw => by
  refine .inl ?_
  obtain ⟨es, c, hh, hM⟩ := hw.at j hj
  obtain ⟨r, h1, h2⟩ := hK.find k w es.toList (L.map (·.1)) hM.keys
  have hgo : (getObj b).run P w = .ok (.map es c) w := by simp [getObj, Sem.run, hh]
  have hc := hK.check k w false
  rcases h2 with ⟨rfl, hnk⟩ | ⟨i, e, rfl, he, hk, hjj⟩
  · have e1 : mget L k dft = dft := mget_not hnk
    have hrun : (execOp a.eval ⟨some dd, .mapEntry U x y, T, pos, after, gd⟩).run P w = .ok (.value (.tuple #[ve (mget L k dft), .int .i64 c])) { w with heap := w.heap.setIfInBounds b (.map (es.push { key := ke k, val := ve dft, born := c }) (c + 1)) } := by
      simp [execOp, Instr.mapEntry, ha.ev hx hg, ha.ev hy hg', run_underlying hU, hgo, hc, h1, run_zeroV hz, run_setObj_map _ hh, e1, goInt, Result.andThen]
    unfold Oper.wp
    rw [hrun]
    show K (a.put (some dd) _) _
    have hP := hM.push k dft
    refine kk c _ _ (ha.put hn true _) (map_upd' hw hj (fun _ => Iff.rfl) (fun _ => Iff.rfl) hh ⟨_, _, es.size, (heap_set hh).1, ⟨_, hP, fun key => ?_⟩, ?_, fun v => ?_⟩)
    · rw [← mput_not (v := dft) hnk, mget_mput]
      split
      · rename_i e; subst e; exact e1.symm
      · rfl
    · exact hP.find (e := { key := ke k, val := ve dft, born := c }) (by simp)
    · have := hP.setVal (i := es.size) (k := k) (v := v) ⟨(k, dft), by rw [hM.size]; simp, rfl⟩
      rw [mput_not hnk]
      rw [hM.size] at this ⊢
      simpa using this
  · obtain ⟨p, q1, q2, q3⟩ := mget_at (d := dft) hk hjj
    obtain ⟨m, q4, q5⟩ := hM.ent i p q1
    have hev : e = ⟨ke p.1, ve p.2, m⟩ := by rw [Array.getElem?_toList, q4] at he; cases he; rfl
    subst hev
    subst q2
    have hstay : (Instr.keyThatStays (ke p.1) (ke p.1)).run P w = .ok (ke p.1) w := by simp [Instr.keyThatStays, hK.same]
    have hmod : (es.modify i fun e => { e with key := ke p.1 }) = es := by
      apply Array.ext_getElem?
      intro q
      rw [Array.getElem?_modify]
      split
      · rename_i hq; subst hq; rw [q4]; rfl
      · rfl
    have hrun : (execOp a.eval ⟨some dd, .mapEntry U x y, T, pos, after, gd⟩).run P w = .ok (.value (.tuple #[ve (mget L p.1 dft), .int .i64 m])) { w with heap := w.heap.setIfInBounds b (.map es c) } := by
      simp [execOp, Instr.mapEntry, ha.ev hx hg, ha.ev hy hg', run_underlying hU, hgo, hc, h1, q4, hstay, hmod, run_setObj_map _ hh, q3, goInt, Result.andThen]
    unfold Oper.wp
    rw [hrun]
    show K (a.put (some dd) _) _
    refine kk m _ _ (ha.put hn true _) (map_upd' hw hj (fun _ => Iff.rfl) (fun _ => Iff.rfl) hh ⟨_, _, i, (heap_set hh).1, ⟨_, hM, fun _ => rfl⟩, hM.find q4, fun v => ?_⟩)
    rw [mput_at hk hjj]
    exact hM.setVal ⟨p, q1, rfl⟩
theorem EV.entryStore (k : κ) (j : Nat) (u : β) (s : Nat) (hx : σ.ev x = some (g, .map (some b))) (hg : g = true) (hy : σ.ev y = some (g', .int .i64 s)) (hg' : g' = true) (hz : σ.ev z = some (g'', ve u)) (hg'' : g'' = true) {dft : β} (hj : H[j]? = some (mapMid b ke ve dft L k s))
    (kk : WK n K σ (Own M w0 (H.set j (mapR b ke ve (mput L k u))))) : EV P n ⟨none, .entryStore U x y z, T, pos, after, gd⟩ σ (Own M w0 H) K Q := fun a w ha hw => by
  refine .inl ?_
  obtain ⟨es, c, i, hh, _, hf, hM⟩ := hw.at j hj
  have hgo : (getObj b).run P w = .ok (.map es c) w := by simp [getObj, Sem.run, hh]
  have hrun : (execOp a.eval ⟨none, .entryStore U x y z, T, pos, after, gd⟩).run P w = .ok .skip { w with heap := w.heap.setIfInBounds b (.map (es.modify i fun e => { e with val := ve u }) c) } := by
    simp [execOp, Instr.entryStore, ha.ev hx hg, ha.ev hy hg', ha.ev hz hg'', hgo, hf, asInt, asIntOf, run_setObj_map _ hh, Result.andThen]
  unfold Oper.wp
  rw [hrun]
  show K (a.put none undef) _
  exact kk a _ ha (map_upd' hw hj (fun _ => Iff.rfl) (fun _ => Iff.rfl) hh ⟨_, _, (heap_set hh).1, hM u⟩)
theorem EV.mapUpdate (k : κ) (j : Nat) (u : β) (hU : MapT P U Kt E) (hK : KeyT P Kt ke) (hx : σ.ev x = some (g, .map (some b))) (hg : g = true) (hy : σ.ev y = some (g', ke k)) (hg' : g' = true) (hz : σ.ev z = some (g'', ve u)) (hg'' : g'' = true) (hj : H[j]? = some (mapR b ke ve L))
    (kk : WK n K σ (Own M w0 (H.set j (mapR b ke ve (mput L k u))))) : EV P n ⟨none, .mapUpdate U x y z, T, pos, after, gd⟩ σ (Own M w0 H) K Q := fun a w ha hw => by
  refine .inl ?_
  obtain ⟨es, c, hh, hM⟩ := hw.at j hj
  obtain ⟨r, h1, h2⟩ := hK.find k w es.toList (L.map (·.1)) hM.keys
  have hgo : (getObj b).run P w = .ok (.map es c) w := by simp [getObj, Sem.run, hh]
  have hc := hK.check k w false
  rcases h2 with ⟨rfl, hnk⟩ | ⟨i, e, rfl, he, hk, hjj⟩
  · have hrun : (execOp a.eval ⟨none, .mapUpdate U x y z, T, pos, after, gd⟩).run P w = .ok .skip { w with heap := w.heap.setIfInBounds b (.map (es.push { key := ke k, val := ve u, born := c }) (c + 1)) } := by
      simp [execOp, Instr.mapUpdate, ha.ev hx hg, ha.ev hy hg', ha.ev hz hg'', run_underlying hU, hgo, hc, h1, run_setObj_map _ hh, Result.andThen]
    unfold Oper.wp
    rw [hrun]
    show K (a.put none undef) _
    refine kk a _ ha (map_upd' hw hj (fun _ => Iff.rfl) (fun _ => Iff.rfl) hh ⟨_, _, (heap_set hh).1, ?_⟩)
    rw [mput_not hnk]
    exact hM.push k u
  · obtain ⟨p, q1, q2, q3⟩ := mget_at (d := u) hk hjj
    obtain ⟨m, q4, q5⟩ := hM.ent i p q1
    have hev : e = ⟨ke p.1, ve p.2, m⟩ := by rw [Array.getElem?_toList, q4] at he; cases he; rfl
    subst hev
    subst q2
    have hstay : (Instr.keyThatStays (ke p.1) (ke p.1)).run P w = .ok (ke p.1) w := by simp [Instr.keyThatStays, hK.same]
    have hmod : (es.modify i fun e => { e with key := ke p.1, val := ve u }) = (es.modify i fun e => { e with val := ve u }) := by
      apply Array.ext_getElem?
      intro q
      rw [Array.getElem?_modify, Array.getElem?_modify]
      split
      · rename_i hq; subst hq; rw [q4]; rfl
      · rfl
    have hrun : (execOp a.eval ⟨none, .mapUpdate U x y z, T, pos, after, gd⟩).run P w = .ok .skip { w with heap := w.heap.setIfInBounds b (.map (es.modify i fun e => { e with val := ve u }) c) } := by
      simp [execOp, Instr.mapUpdate, ha.ev hx hg, ha.ev hy hg', ha.ev hz hg'', run_underlying hU, hgo, hc, h1, q4, hstay, hmod, run_setObj_map _ hh, Result.andThen]
    unfold Oper.wp
    rw [hrun]
    show K (a.put none undef) _
    refine kk a _ ha (map_upd' hw hj (fun _ => Iff.rfl) (fun _ => Iff.rfl) hh ⟨_, _, (heap_set hh).1, ?_⟩)
    rw [mput_at hk hjj]
    exact hM.setVal ⟨p, q1, rfl⟩
theorem Own.weak {r r' : Res} {w : World} (k : Nat) (hk : H[k]? = some r) (hr : r.holds w → r'.holds w) (hf : ∀ x, r'.foot x → r.foot x) (h : Own M w0 H w) : Own M w0 (H.set k r') w :=
  h.upd k hk rfl rfl ⟨rfl, Nat.le_refl _⟩ (Nat.le_refl _) (fun _ _ _ => rfl) (hr (h.at k hk)) fun b hb => ⟨.inl (hf b hb), (h.2.lt r (List.mem_of_getElem? hk) b (hf b hb)).2⟩
theorem Own.mapWeak {w : World} (k : Nat) (dft : β) (hk : H[k]? = some (mapR b ke ve L)) (h : Own M w0 H w) : Own M w0 (H.set k (mapW b ke ve dft L)) w :=
  h.weak k hk (fun x => ⟨L, x, fun _ => rfl⟩) fun _ x => x
theorem Own.midWeak {w : World} (k : Nat) {dft : β} {key : κ} {s : Nat} (hk : H[k]? = some (mapMid b ke ve dft L key s)) (h : Own M w0 H w) : Own M w0 (H.set k (mapW b ke ve dft L)) w :=
  h.weak k hk (fun ⟨es, c, i, h1, ⟨L', h2, h3⟩, _⟩ => ⟨L', ⟨es, c, h1, h2⟩, h3⟩) fun _ x => x
theorem QV.lookupW {k : κ} (j : Nat) (dft : β) (hU : MapT P U Kt E) (hK : KeyT P Kt ke) (hz : ZVal P E (ve dft)) (hx : σ.ev x = some (g, .map (some b))) (hg : g = true) (hy : σ.ev y = some (g', ke k)) (hg' : g' = true) (hj : H[j]? = some (mapW b ke ve dft L)) :
    QV P ⟨d, .lookup U x y false, T, pos, after, gd⟩ σ (Own M w0 H) (ve (mget L k dft)) := .of_run fun n a ha w hw => by
  obtain ⟨L', h1, h2⟩ := hw.at j hj
  have := run_lookup (k := k) (ok := false) hU hK hz h1
  rw [h2] at this
  simp only [execOp, ha.ev hx hg, ha.ev hy hg', Sem.run_bind, this, Result.andThen_ok, Sem.run_pure]
  rfl
end
end Go.Rd
end

section
namespace Go.Rd
open Go.RowKit
set_option linter.unusedVariables false
theorem putL_append : ∀ (vs a c : List Value) (off : Nat), off + vs.length ≤ a.length → putL (a ++ c) off vs = putL a off vs ++ c
  | [], a, c, off, _ => rfl
  | v :: vs, a, c, off, h => by
    simp only [List.length_cons] at h
    unfold putL
    rw [List.set_append_left _ _ (by omega), putL_append vs (a.set off v) c (off + 1) (by simp; omega)]
theorem putL_right : ∀ (vs a c : List Value) (off : Nat), putL (a ++ c) (a.length + off) vs = a ++ putL c off vs
  | [], a, c, off => rfl
  | v :: vs, a, c, off => by
    unfold putL
    rw [List.set_append_right _ _ (by omega), Nat.add_sub_cancel_left, Nat.add_assoc, putL_right vs a (c.set off v) (off + 1)]
theorem putL_flatten {sz : Nat} {vs : List Value} {off : Nat} (hl : off + vs.length ≤ sz) : ∀ {rows : List (List Value)} {i : Nat}, (∀ r ∈ rows, r.length = sz) → i < rows.length → putL rows.flatten (i * sz + off) vs = (rows.set i (putL (rows.getD i []) off vs)).flatten
  | [], i, _, h => by simp at h
  | r :: rows, 0, hr, _ => by
    have := hr r (by simp)
    simp [putL_append vs r rows.flatten off (by omega)]
  | r :: rows, i + 1, hr, h => by
    have h1 := hr r (by simp)
    have ih := putL_flatten (vs := vs) (off := off) hl (rows := rows) (i := i) (fun q hq => hr q (by simp [hq])) (by simpa using h)
    rw [List.flatten_cons, show (i + 1) * sz + off = r.length + (i * sz + off) from by rw [h1, Nat.succ_mul]; omega, putL_right, ih]
    simp
theorem map_set_putL {α : Type} [Inhabited α] {enc : α → List Value} {xs : List α} {i : Nat} {z : α} {off : Nat} {vs : List Value} (hi : i < xs.length) (he : enc z = putL (enc (xs.getD i default)) off vs) : (xs.map enc).set i (putL ((xs.map enc).getD i []) off vs) = (xs.set i z).map enc := by
  have : (xs.map enc).getD i [] = enc (xs.getD i default) := by simp [List.getD_eq_getElem?_getD, List.getElem?_eq_getElem hi]
  rw [this, ← he, List.map_set]
section
variable {P : Program} {n : Nat} {σ : Env} {M : Nat → Prop} {w0 : World} {H : List Res} {d : Option Tmp} {T U E S T2 : TypeId} {pos : String} {after : Array Edge} {gd : Option (Nat × Bool)} {x y z : Operand} {g g' g'' : Bool} {v yv : Value}
  {K : Act → World → Prop} {Q : Exit → Act → World → Prop}
theorem EV.storeE {α : Type} [Inhabited α] {enc : α → List Value} {sz : Nat} (k : Nat) (u : α) {xs : List α} {i : Int} {p q : Addr} {off : Nat} {vs : List Value} (hx : σ.ev x = some (g, .pointer (some q))) (hg : g = true) (hy : σ.ev y = some (g', yv)) (hg' : g' = true)
    (hk : H[k]? = some (vec v E sz (xs.map enc))) (hp : ElemP v i sz p) (hi : IX i (ln xs)) (hq : q = p.add off) (hv : yv.cells = vs.toArray) (hs : SizeT P T vs.length) (hl : off + vs.length ≤ sz) (ho : ∀ u ∈ vs, u.oneCell' = true) (he : enc u = putL (enc (ele xs i)) off vs)
    (kk : WK n K σ (Own M w0 (H.set k (vec v E sz ((upd xs i u).map enc))))) : EV P n ⟨none, .store T x y, U, pos, after, gd⟩ σ (Own M w0 H) K Q := fun a w ha hw => by
  refine .inl ?_
  have hvh := hw.at k hk
  obtain ⟨⟨h1, h2⟩, h3⟩ := hvh
  rcases h2 with ⟨rfl, _⟩ | ⟨b, cap, cur, rfl, hb, hh, hnc, hcm, hcs, ht⟩
  · obtain ⟨a, n, c', he', _⟩ := hp; simp at he'
  obtain ⟨aa, n', c', he', h0, hlt, rfl⟩ := hp
  simp only [Value.slice.injEq, Option.some.injEq] at he'
  obtain ⟨rfl, hn', rfl⟩ := he'
  have hxs : i.toNat < xs.length := by have := hi.2; unfold ln at this; omega
  have hrl : (xs.map enc).length = xs.length := List.length_map _
  have hq2 : q = ⟨b, i.toNat * sz + off, none⟩ := by rw [hq, Addr.add_add, Addr.add_lit]; simp
  subst hq2
  have hcl : cur.toList.length = cap * sz := by simpa using hcs
  have hle : (i.toNat + 1) * sz ≤ cap * sz := Nat.mul_le_mul_right _ (by rw [hrl] at hnc; omega)
  rw [Nat.succ_mul] at hle
  obtain ⟨w', q1, q2, q3, q4, q5, q6, q7⟩ := run_storeCells_blk (P := P) vs ⟨b, i.toNat * sz + off, none⟩ 0 (i.toNat * sz + off) cur.toList w (by simpa using hh) (by simp [Addr.add]) (by omega) ho
  obtain ⟨inf, hinf, hsz⟩ := Option.map_eq_some_iff.1 hs
  have hrun : (execOp a.eval ⟨none, .store T x y, U, pos, after, gd⟩).run P w = .ok .skip w' := by
    simp [execOp, ha.ev hx hg, ha.ev hy hg', Instr.storeAt, Instr.sureAddr, storeVar, hv, sizeOf, typeInfo, hinf, hsz, q1]
  unfold Oper.wp
  rw [hrun]
  show K (a.put none undef) w'
  have hbl : b < w.heap.size := (Array.getElem?_eq_some_iff.1 hh).1
  have hfl := flatten_len h3
  have hrows : ((upd xs i u).map enc).flatten = putL (xs.map enc).flatten (i.toNat * sz + off) vs := by
    rw [putL_flatten hl h3 (by rw [hrl]; exact hxs), map_set_putL hxs he]
    rfl
  have hur : ((upd xs i u).map enc).length = (xs.map enc).length := by simp [upd]
  have hholds : (vec (.slice (some ⟨b, 0, none⟩) (xs.map enc).length cap) E sz ((upd xs i u).map enc)).holds w' := by
    refine ⟨⟨by rw [hrows, putL_length, hur]; exact h1, .inr ⟨b, cap, (putL cur.toList (i.toNat * sz + off) vs).toArray, by rw [hur], hb, q2, by rw [hur]; exact hnc, hcm, by simp [putL_length, hcs], ?_⟩⟩, fun r hr => ?_⟩
    · rw [hrows]
      have e1 : cur.toList = (xs.map enc).flatten ++ cur.toList.drop ((xs.map enc).length * sz) := by
        conv => lhs; rw [← List.take_append_drop ((xs.map enc).length * sz) cur.toList]
        rw [ht]
      have hmul : (i.toNat + 1) * sz ≤ (xs.map enc).length * sz := Nat.mul_le_mul_right _ (by rw [hrl]; omega)
      rw [Nat.succ_mul] at hmul
      rw [e1, putL_append vs _ _ _ (by rw [hfl]; omega), hur, List.take_append_of_le_length (by rw [putL_length, hfl]; exact Nat.le_refl _), List.take_of_length_le (by rw [putL_length, hfl]; exact Nat.le_refl _)]
    · obtain ⟨s, hs', rfl⟩ := List.mem_map.1 hr
      rcases List.mem_or_eq_of_mem_set hs' with hm | rfl
      · exact h3 _ (List.mem_map_of_mem hm)
      · rw [he, putL_length]
        have := h3 (enc (ele xs i)) (List.mem_map_of_mem (by unfold ele; rw [List.getD_eq_getElem?_getD, List.getElem?_eq_getElem hxs]; exact List.getElem_mem hxs))
        exact this
  refine kk a w' ha (hw.upd k hk q5 q6 q7 (by omega) (fun c hc hne => q3 c fun e => hne (by subst e; exact ⟨_, _, rfl⟩)) hholds fun c hc => ?_)
  obtain ⟨n2, k2, he2⟩ := hc
  simp only [Value.slice.injEq, Option.some.injEq, Addr.mk.injEq] at he2
  obtain ⟨⟨rfl, _⟩, _⟩ := he2
  exact ⟨.inl ⟨_, _, rfl⟩, by omega⟩
theorem QV.indexL {xs : List Int} {m : Nat} {k : IntKind} {i : Int} {C : World → Prop} (hU : P.underlying U = some (.array m E)) (hE : Plain P E) (hs : SizeT P E 1) (hx : σ.ev x = some (g, .agg (xs.map i64v).toArray)) (hg : g = true) (hy : σ.ev y = some (g', .int k i)) (hg' : g' = true) (hl : xs.length = m) (hi : IX i m) :
    QV P ⟨d, .index U x y, T, pos, after, gd⟩ σ C (.int .i64 (ele xs i)) := .of_run fun n a ha w hw => by
  obtain ⟨inf, hin, hsz⟩ := Option.map_eq_some_iff.1 hs
  have h0 := hi.1; have h1 := hi.2
  have hlt : i.toNat < xs.length := by omega
  have hA := run_isAgg_plain hE w
  have hget : (xs.map i64v)[i.toNat]? = some (.int .i64 (ele xs i)) := by
    rw [List.getElem?_map, List.getElem?_eq_getElem hlt]
    simp [ele, List.getD_eq_getElem?_getD, List.getElem?_eq_getElem hlt, i64v]
  have hget' : (List.map i64v xs).toArray[i.toNat]? = some (.int .i64 (ele xs i)) := by simpa using hget
  simp [execOp, ha.ev hx hg, ha.ev hy hg', Instr.index, asIntOf, run_underlying hU, h0, h1, sizeOf, typeInfo, hin, hsz, part, hA, -List.map_toArray, -List.getElem?_toArray, hget']
end
end Go.Rd
end

section
namespace Go.Rd
open Go.RowKit
set_option linter.unusedVariables false
theorem sub_len {α : Type} {xs : List α} {i j : Int} (h : SX i j (ln xs)) : (sub xs i j).length = (j - i).toNat := by
  obtain ⟨h1, h2, h3⟩ := h
  unfold sub ln at *
  rw [List.length_take, List.length_drop]; omega
theorem subS_slen {α : Type} {xs : List α} {v : Value} {sz : Nat} {i j : Int} (hv : SliceLen v xs.length) (h : SX i j (ln xs)) : SliceLen (subS v sz i.toNat j.toNat) (sub xs i j).length := by
  rw [sub_len h]
  obtain ⟨h1, h2, h3⟩ := h
  unfold ln at h3
  have := subS_len (sz := sz) hv (l := i.toNat) (h := j.toNat) (by omega) (by omega)
  rwa [show (j - i).toNat = j.toNat - i.toNat from by omega]
section
variable {P : Program} {n : Nat} {σ : Env} {M : Nat → Prop} {w0 : World} {H : List Res} {d : Option Tmp} {T U E : TypeId} {pos : String} {after : Array Edge} {gd : Option (Nat × Bool)} {x y : Operand} {g g' : Bool} {v : Value}
  {K : Act → World → Prop} {Q : Exit → Act → World → Prop}
theorem zero_cells {α : Type} {enc : α → List Value} {z : α} {sz m : Nat} (hl : (enc z).length = sz) (h0 : 0 < sz) : (Builtin.zeroCells (enc z).toArray m).toList = ((List.replicate m z).map enc).flatten := by
  apply List.ext_getElem?
  intro j
  have hall : ∀ r ∈ (List.replicate m z).map enc, r.length = sz := by intro r hr; obtain ⟨u, hu, rfl⟩ := List.mem_map.1 hr; rw [List.mem_replicate] at hu; rw [hu.2, hl]
  have hfl : ((List.replicate m z).map enc).flatten.length = m * sz := by rw [flatten_len hall]; simp
  have hs : (enc z).toArray.size = sz := by simpa using hl
  by_cases hj : j < m * sz
  · have hq : j / sz < m := Nat.div_lt_of_lt_mul (by rwa [Nat.mul_comm] at hj)
    have hd := drop_flatten (sz := sz) (rows := (List.replicate m z).map enc) (i := j / sz) (r := enc z) hall (by simp [hq])
    have hmod : j % sz < sz := Nat.mod_lt _ h0
    have e1 : ((List.replicate m z).map enc).flatten[j]? = (enc z)[j % sz]? := by
      have : (enc z)[j % sz]? = ((((List.replicate m z).map enc).flatten.drop (j / sz * sz)).take (enc z).length)[j % sz]? := by rw [hd]
      rw [this, List.getElem?_take, hl, if_pos hmod, List.getElem?_drop, Nat.mul_comm, Nat.div_add_mod]
    rw [e1]
    have hlt : j % sz < (enc z).length := by rw [hl]; exact hmod
    simp [Builtin.zeroCells, hj, hl, List.getElem?_eq_getElem hlt]
  · have hj' := Nat.le_of_not_lt hj
    rw [List.getElem?_eq_none (by rw [Array.length_toList, size_zeroCells, hs]; exact hj'), List.getElem?_eq_none (by rw [hfl]; exact hj')]
def clr {α : Type} (xs : List α) (i : Int) (z : α) : List α := xs.take i.toNat ++ List.replicate (xs.length - i.toNat) z
theorem addr_zero (p : Addr) : p = p.add 0 := (by cases p; simp [Addr.add])
theorem clr_len {α : Type} {xs : List α} {i : Int} {z : α} (h : i ≤ ln xs) : (clr xs i z).length = xs.length := by
  unfold clr ln at *
  rw [List.length_append, List.length_take, List.length_replicate]; omega
theorem putL_all : ∀ (vs a : List Value) (off : Nat), off + vs.length = a.length → putL a off vs = a.take off ++ vs
  | [], a, off, h => by simp only [List.length_nil, Nat.add_zero] at h; subst h; simp [putL]
  | v :: vs, a, off, h => by
    simp only [List.length_cons] at h
    unfold putL
    rw [putL_all vs (a.set off v) (off + 1) (by simp; omega)]
    have : (a.set off v).take (off + 1) = a.take off ++ [v] := by
      rw [List.take_add_one, List.take_set_of_le (Nat.le_refl _), List.getElem?_set_self (by omega)]; rfl
    rw [this, List.append_assoc]; rfl
theorem flatten_take {sz : Nat} : ∀ {rows : List (List Value)} (i : Nat), (∀ r ∈ rows, r.length = sz) → (rows.take i).flatten = rows.flatten.take (i * sz)
  | [], i, _ => by simp
  | r :: rows, 0, _ => by simp
  | r :: rows, i + 1, h => by
    have h1 := h r (by simp)
    rw [List.take_succ_cons, List.flatten_cons, List.flatten_cons, flatten_take i (fun q hq => h q (by simp [hq])), show (i + 1) * sz = r.length + i * sz from by rw [h1, Nat.succ_mul]; omega, List.take_length_add_append]
theorem EV.clear {α : Type} {enc : α → List Value} {sz : Nat} (k : Nat) (z : α) {xs : List α} {lo hi : Int} (hT : SliceT P U E sz) (hz : ZeroT P E (enc z)) (hlen : ∀ u, (enc u).length = sz) (h0 : 0 < sz) (h1 : ∀ c ∈ enc z, c.oneCell' = true)
    (hx : σ.ev x = some (g, subS v sz lo.toNat hi.toNat)) (hg : g = true) (hk : H[k]? = some (vec v E sz (xs.map enc))) (hS : SX lo hi (ln xs)) (hh : hi = ln xs) {dd : Nat} (hd : d = some dd ∧ dd < n ∨ d = none)
    (kk : WK n K σ (Own M w0 (H.set k (vec v E sz ((clr xs lo z).map enc))))) (kd : ∀ dd, d = some dd → WK n K ((dd, (true, .tuple #[])) :: σ) (Own M w0 (H.set k (vec v E sz ((clr xs lo z).map enc))))) :
    EV P n ⟨d, .call ⟨.builtin .clear, #[x], #[U]⟩, T, pos, after, gd⟩ σ (Own M w0 H) K Q := fun a w ha hw => by
  refine .inl ?_
  obtain ⟨s1, s2, s3⟩ := hS
  subst hh
  obtain ⟨⟨q1, q2⟩, q3⟩ := hw.at k hk
  obtain ⟨hU, hSz⟩ := hT
  obtain ⟨inf, zv, z1, z2, z3⟩ := hz.out
  have hrl : (xs.map enc).length = xs.length := List.length_map _
  have hhi : (ln xs).toNat = xs.length := by unfold ln; omega
  have hend : ∀ w', (vec v E sz ((clr xs lo z).map enc)).holds w' → Own M w0 (H.set k (vec v E sz ((clr xs lo z).map enc))) w' → K (a.put d (.tuple #[])) w' := fun w' _ ho => by
    cases d with
    | none => exact kk a w' ha ho
    | some dd' =>
      rcases hd with ⟨hd1, hd2⟩ | hd
      · cases hd1; exact kd _ rfl _ w' (ha.put hd2 true _) ho
      · cases hd
  rcases q2 with ⟨rfl, hl0⟩ | ⟨b, cap, cur, rfl, hb, hh, hnc, hcm, hcs, ht⟩
  · have hx0 : xs = [] := List.length_eq_zero_iff.1 (by rw [← hrl]; exact hl0)
    subst hx0
    have hl0 : lo = 0 := by unfold ln at s3; simp at s3; omega
    subst hl0
    have hrun : (execOp a.eval ⟨d, .call ⟨.builtin .clear, #[x], #[U]⟩, T, pos, after, gd⟩).run P w = .ok (.value (.tuple #[])) w := by
      simp [execOp, resolve, invoke, builtin, ha.ev hx hg, Builtin.clear_, run_underlying hU, subS, ln, Result.andThen]
    unfold Oper.wp
    rw [hrun]
    have e : clr ([] : List α) 0 z = [] := rfl
    have es : H.set k (vec (.slice none 0 0) E sz (([] : List α).map enc)) = H := by
      apply List.ext_getElem?
      intro j
      rw [List.getElem?_set]
      split
      · rename_i hj; subst hj
        split
        · exact hk.symm
        · rw [List.getElem?_eq_none (by omega)] at hk; cases hk
      · rfl
    have hown : Own M w0 (H.set k (vec (.slice none 0 0) E sz ((clr ([] : List α) 0 z).map enc))) w := by rw [e, es]; exact hw
    exact hend w (hown.at k (by rw [List.getElem?_set_self (List.getElem?_eq_some_iff.1 hk).1])) hown
  · by_cases hm : xs.length - lo.toNat = 0
    · have e : clr xs lo z = xs := by unfold clr; rw [hm, List.replicate_zero, List.append_nil, List.take_of_length_le (by omega)]
      have es : H.set k (vec (.slice (some ⟨b, 0, none⟩) (xs.map enc).length cap) E sz (xs.map enc)) = H := by
        apply List.ext_getElem?
        intro j
        rw [List.getElem?_set]
        split
        · rename_i hj; subst hj
          split
          · exact hk.symm
          · rw [List.getElem?_eq_none (by omega)] at hk; cases hk
        · rfl
      have hrun : (execOp a.eval ⟨d, .call ⟨.builtin .clear, #[x], #[U]⟩, T, pos, after, gd⟩).run P w = .ok (.value (.tuple #[])) w := by
        have ex := ha.ev hx hg
        simp only [subS, hhi, hm] at ex
        split at ex <;> simp [execOp, resolve, invoke, builtin, ex, Builtin.clear_, run_underlying hU, Result.andThen]
      unfold Oper.wp
      rw [hrun]
      have hown : Own M w0 (H.set k (vec (.slice (some ⟨b, 0, none⟩) (xs.map enc).length cap) E sz ((clr xs lo z).map enc))) w := by rw [e, es]; exact hw
      exact hend w (hown.at k (by rw [List.getElem?_set_self (List.getElem?_eq_some_iff.1 hk).1])) hown
    · have hne : ¬ cap = lo.toNat := by rw [hrl] at hnc; omega
      have hzl : (enc z).length = sz := hlen z
      have hzc := zero_cells (enc := enc) (z := z) (m := xs.length - lo.toNat) hzl h0
      have hfz := flatten_len (sz := sz) (rows := (List.replicate (xs.length - lo.toNat) z).map enc) (by intro r hr; obtain ⟨u, hu, rfl⟩ := List.mem_map.1 hr; rw [List.mem_replicate] at hu; rw [hu.2, hzl])
      rw [List.length_map, List.length_replicate] at hfz
      have hcl : cur.toList.length = cap * sz := by simpa using hcs
      have hmul : (lo.toNat + (xs.length - lo.toNat)) * sz ≤ cap * sz := Nat.mul_le_mul_right _ (by rw [hrl] at hnc; omega)
      rw [Nat.add_mul] at hmul
      obtain ⟨w', q1', r2, r3, r4, r5, r6, r7⟩ := run_storeCells_blk (P := P) ((List.replicate (xs.length - lo.toNat) z).map enc).flatten ⟨b, lo.toNat * sz, none⟩ 0 (lo.toNat * sz) cur.toList w (by simpa using hh) (by simp [Addr.add]) (by rw [hfz]; omega)
        (fun u hu => by obtain ⟨r, hr, hu⟩ := List.mem_flatten.1 hu; obtain ⟨v, hv, rfl⟩ := List.mem_map.1 hr; rw [List.mem_replicate] at hv; rw [hv.2] at hu; exact h1 u hu)
      have hrun : (execOp a.eval ⟨d, .call ⟨.builtin .clear, #[x], #[U]⟩, T, pos, after, gd⟩).run P w = .ok (.value (.tuple #[])) w' := by
        have ex := ha.ev hx hg
        simp only [subS, hhi, if_neg hne, Option.map_some, Addr.add_lit, Nat.zero_add] at ex
        obtain ⟨m', hm'⟩ : ∃ m', xs.length - lo.toNat = m' + 1 := ⟨xs.length - lo.toNat - 1, by omega⟩
        rw [hm'] at ex hzc q1'
        rw [List.map_replicate] at hzc q1'
        have hzr : (zeroValue E).run P w = .ok zv w := by simp [zeroValue, typeInfo, z1, z2]
        simp [execOp, resolve, invoke, builtin, ex, Builtin.clear_, run_underlying hU, Result.andThen, hzr, z3, hzc, q1']
      unfold Oper.wp
      rw [hrun]
      have hbl : b < w.heap.size := (Array.getElem?_eq_some_iff.1 hh).1
      have hcl2 : ((clr xs lo z).map enc).length = (xs.map enc).length := by rw [List.length_map, List.length_map, clr_len s2]
      have hflat : ((clr xs lo z).map enc).flatten = putL (xs.map enc).flatten (lo.toNat * sz) ((List.replicate (xs.length - lo.toNat) z).map enc).flatten := by
        have hfx := flatten_len q3
        rw [putL_all _ _ _ (by rw [hfz, hfx, hrl, ← Nat.add_mul]; congr 1; omega), ← flatten_take _ q3]
        unfold clr
        rw [List.map_append, List.flatten_append, List.map_take]
      have hholds : (vec (.slice (some ⟨b, 0, none⟩) (xs.map enc).length cap) E sz ((clr xs lo z).map enc)).holds w' := by
        refine ⟨⟨by rw [hflat, putL_length, hcl2]; exact q1, .inr ⟨b, cap, (putL cur.toList (lo.toNat * sz) ((List.replicate (xs.length - lo.toNat) z).map enc).flatten).toArray, by rw [hcl2], hb, r2, by rw [hcl2]; exact hnc, hcm, by simp [putL_length, hcs], ?_⟩⟩, fun r hr => ?_⟩
        · have e1 : cur.toList = (xs.map enc).flatten ++ cur.toList.drop ((xs.map enc).length * sz) := by
            conv => lhs; rw [← List.take_append_drop ((xs.map enc).length * sz) cur.toList]
            rw [ht]
          have hfx := flatten_len q3
          rw [hflat, e1, putL_append _ _ _ _ (by rw [hfz, hfx, hrl, ← Nat.add_mul]; exact Nat.mul_le_mul_right _ (by omega)), hcl2, List.take_append_of_le_length (by rw [putL_length, hfx]; exact Nat.le_refl _), List.take_of_length_le (by rw [putL_length, hfx]; exact Nat.le_refl _)]
        · obtain ⟨u, hu, rfl⟩ := List.mem_map.1 hr
          exact hlen u
      refine hend w' hholds (hw.upd k hk r5 r6 r7 (by omega) (fun c hc hne => r3 c fun e => hne (by subst e; exact ⟨_, _, rfl⟩)) hholds fun c hc => ?_)
      obtain ⟨n2, k2, he2⟩ := hc
      simp only [Value.slice.injEq, Option.some.injEq, Addr.mk.injEq] at he2
      obtain ⟨⟨rfl, _⟩, _⟩ := he2
      exact ⟨.inl ⟨_, _, rfl⟩, by omega⟩
end
def ordV (a b : Edg) : Int := if a.fr < b.fr then -1 else if b.fr < a.fr then 1 else if a.to < b.to then -1 else if b.to < a.to then 1 else if a.bk < b.bk then -1 else if b.bk < a.bk then 1 else if a.wt < b.wt then -1 else if b.wt < a.wt then 1 else 0
def sortE (xs : List Edg) : List Edg := xs.mergeSort fun x y => !decide (ordV y x < 0)
def SortFunc_m (xs : List Edg) : Option (List Edg) := ck (xs.length < 4611686018427387904) (some (sortE xs))
def optC {α β : Type} (o : Option α) (a : Option β) (f : α → Option β) : Option β := match o with | none => a | some y => f y
theorem optC_none {α β : Type} {o : Option α} {a : Option β} {f : α → Option β} {r : β} (h : o = none) (hm : optC o a f = some r) : a = some r := by subst h; exact hm
theorem optC_some {α β : Type} {o : Option α} {a : Option β} {f : α → Option β} {r : β} {y : α} (h : o = some y) (hm : optC o a f = some r) : f y = some r := by subst h; exact hm
abbrev LayT : Type := List Int × List Stm × List Int × Int × Int × List Int × List Int × List Int
def LayAt (K : World) (v : Value) : Option LayT → Prop
  | none => v = .pointer none
  | some y => ∃ p h1 h2 h3 h4 h5 h6, v = .pointer (some p) ∧ CellsAt K p [h1, h2, h3, .int .i64 y.2.2.2.1, .int .i64 y.2.2.2.2.1, h4, h5, h6] 0 ∧ Arr K h1 1 (y.1.map icell) ∧ Arr K h2 9 (y.2.1.map Stm.cells) ∧ Arr K h3 1 (y.2.2.1.map icell) ∧ Arr K h4 1 (y.2.2.2.2.2.1.map icell) ∧ Arr K h5 1 (y.2.2.2.2.2.2.1.map icell) ∧ Arr K h6 1 (y.2.2.2.2.2.2.2.map icell)
theorem LayAt.none {K : World} : LayAt K (.pointer none) Option.none := rfl
theorem LayAt.mk {K : World} {p : Addr} {h1 h2 h3 h4 h5 h6 : Value} {a c f g h : List Int} {b : List Stm} {d e : Int} (hc : CellsAt K p [h1, h2, h3, .int .i64 d, .int .i64 e, h4, h5, h6] 0) (a1 : Arr K h1 1 (a.map icell)) (a2 : Arr K h2 9 (b.map Stm.cells)) (a3 : Arr K h3 1 (c.map icell)) (a4 : Arr K h4 1 (f.map icell)) (a5 : Arr K h5 1 (g.map icell)) (a6 : Arr K h6 1 (h.map icell)) :
    LayAt K (.pointer (some p)) (some (a, b, c, d, e, f, g, h)) := ⟨p, h1, h2, h3, h4, h5, h6, rfl, hc, a1, a2, a3, a4, a5, a6⟩
theorem LayAt.nil {K : World} {v : Value} {o : Option LayT} (h : LayAt K v o) (e : o = Option.none) : v = .pointer Option.none := by subst e; exact h
theorem LayAt.at {K : World} {v : Value} {o : Option LayT} {y : LayT} (h : LayAt K v o) (e : o = some y) : ∃ p h1 h2 h3 h4 h5 h6, v = .pointer (some p) ∧ CellsAt K p [h1, h2, h3, .int .i64 y.2.2.2.1, .int .i64 y.2.2.2.2.1, h4, h5, h6] 0 ∧ Arr K h1 1 (y.1.map icell) ∧ Arr K h2 9 (y.2.1.map Stm.cells) ∧ Arr K h3 1 (y.2.2.1.map icell) ∧ Arr K h4 1 (y.2.2.2.2.2.1.map icell) ∧ Arr K h5 1 (y.2.2.2.2.2.2.1.map icell) ∧ Arr K h6 1 (y.2.2.2.2.2.2.2.map icell) := by subst e; exact h
end Go.Rd
end

section
namespace Go.Rd
set_option linter.unusedVariables false
noncomputable def num_Class_m (op : Int) : Option (Int) :=
 br (op == 3) (
 br (op == 3) (
 some 2) (
 br (op == 13) (
 some 1) (
 some 0))) (
 br (op == 4) (
 some 2) (
 br (op == 13) (
 some 1) (
 some 0)))

noncomputable def roundelayref1_Class_m (op : Int) : Option (Int) :=
 br ((op == 3) || (op == 4)) (
 some 2) (
 br (op == 13) (
 some 1) (
 some 0))

noncomputable def roundelayref1_Size_L0 (log : Int) : (Int × Int) → Option (Stp (Int × Int) (Empty)) := fun (n3_1, i4_1) =>
 br (decide (i4_1 < log)) (
 ck (IR (n3_1 + n3_1)) <|
 ck (IR (i4_1 + 1)) <|
 some (.next ((n3_1 + n3_1), (i4_1 + 1)))) (
 some (.brk (n3_1, i4_1)))
noncomputable def roundelayref1_Size_m (log : Int) : Option (Int) :=
 bd (lp (roundelayref1_Size_L0 log) (1, 0)) fun o1 => o1.on (fun (n3_1, i4_1) =>
 some n3_1) (fun r => r.elim)

noncomputable def roundelayref1_Rest_m (a : Int) (b : Int) : Option (Int) :=
 ck (b ≠ 0) <|
 br (decide ((Int.tmod a b) < 0)) (
 ck (IR ((Int.tmod a b) + b)) <|
 some ((Int.tmod a b) + b)) (
 some (Int.tmod a b))

noncomputable def roundelayref1_bits_L0 (op : Int) : (Int × Int × Int × Int × Int) → Option (Stp (Int × Int × Int × Int × Int) (Empty)) := fun (a1_1, b2_1, n7_1, power8_1, i9_1) =>
 br (decide (i9_1 < 64)) (
 br (((((op == 4) && ((Int.tmod a1_1 2) != 0)) && ((Int.tmod b2_1 2) != 0)) || ((op == 5) && (((Int.tmod a1_1 2) != 0) || ((Int.tmod b2_1 2) != 0)))) || ((op == 6) && (!(((Int.tmod a1_1 2) != 0) == ((Int.tmod b2_1 2) != 0))))) (
 br (decide ((Int.tmod a1_1 2) < 0)) (
 br (decide ((Int.tmod b2_1 2) < 0)) (
 ck (IR (Int.tdiv (IntKind.i64.wrap (a1_1 - (IntKind.i64.wrap ((Int.tmod a1_1 2) + 2)))) 2)) <|
 ck (IR (Int.tdiv (IntKind.i64.wrap (b2_1 - (IntKind.i64.wrap ((Int.tmod b2_1 2) + 2)))) 2)) <|
 some (.next ((Int.tdiv (IntKind.i64.wrap (a1_1 - (IntKind.i64.wrap ((Int.tmod a1_1 2) + 2)))) 2), (Int.tdiv (IntKind.i64.wrap (b2_1 - (IntKind.i64.wrap ((Int.tmod b2_1 2) + 2)))) 2), (IntKind.i64.wrap (n7_1 + power8_1)), (IntKind.i64.wrap (power8_1 + power8_1)), (IntKind.i64.wrap (i9_1 + 1))))) (
 ck (IR (Int.tdiv (IntKind.i64.wrap (a1_1 - (IntKind.i64.wrap ((Int.tmod a1_1 2) + 2)))) 2)) <|
 ck (IR (Int.tdiv (IntKind.i64.wrap (b2_1 - (Int.tmod b2_1 2))) 2)) <|
 some (.next ((Int.tdiv (IntKind.i64.wrap (a1_1 - (IntKind.i64.wrap ((Int.tmod a1_1 2) + 2)))) 2), (Int.tdiv (IntKind.i64.wrap (b2_1 - (Int.tmod b2_1 2))) 2), (IntKind.i64.wrap (n7_1 + power8_1)), (IntKind.i64.wrap (power8_1 + power8_1)), (IntKind.i64.wrap (i9_1 + 1)))))) (
 br (decide ((Int.tmod b2_1 2) < 0)) (
 ck (IR (Int.tdiv (IntKind.i64.wrap (a1_1 - (Int.tmod a1_1 2))) 2)) <|
 ck (IR (Int.tdiv (IntKind.i64.wrap (b2_1 - (IntKind.i64.wrap ((Int.tmod b2_1 2) + 2)))) 2)) <|
 some (.next ((Int.tdiv (IntKind.i64.wrap (a1_1 - (Int.tmod a1_1 2))) 2), (Int.tdiv (IntKind.i64.wrap (b2_1 - (IntKind.i64.wrap ((Int.tmod b2_1 2) + 2)))) 2), (IntKind.i64.wrap (n7_1 + power8_1)), (IntKind.i64.wrap (power8_1 + power8_1)), (IntKind.i64.wrap (i9_1 + 1))))) (
 ck (IR (Int.tdiv (IntKind.i64.wrap (a1_1 - (Int.tmod a1_1 2))) 2)) <|
 ck (IR (Int.tdiv (IntKind.i64.wrap (b2_1 - (Int.tmod b2_1 2))) 2)) <|
 some (.next ((Int.tdiv (IntKind.i64.wrap (a1_1 - (Int.tmod a1_1 2))) 2), (Int.tdiv (IntKind.i64.wrap (b2_1 - (Int.tmod b2_1 2))) 2), (IntKind.i64.wrap (n7_1 + power8_1)), (IntKind.i64.wrap (power8_1 + power8_1)), (IntKind.i64.wrap (i9_1 + 1))))))) (
 br (decide ((Int.tmod a1_1 2) < 0)) (
 br (decide ((Int.tmod b2_1 2) < 0)) (
 ck (IR (Int.tdiv (IntKind.i64.wrap (a1_1 - (IntKind.i64.wrap ((Int.tmod a1_1 2) + 2)))) 2)) <|
 ck (IR (Int.tdiv (IntKind.i64.wrap (b2_1 - (IntKind.i64.wrap ((Int.tmod b2_1 2) + 2)))) 2)) <|
 some (.next ((Int.tdiv (IntKind.i64.wrap (a1_1 - (IntKind.i64.wrap ((Int.tmod a1_1 2) + 2)))) 2), (Int.tdiv (IntKind.i64.wrap (b2_1 - (IntKind.i64.wrap ((Int.tmod b2_1 2) + 2)))) 2), n7_1, (IntKind.i64.wrap (power8_1 + power8_1)), (IntKind.i64.wrap (i9_1 + 1))))) (
 ck (IR (Int.tdiv (IntKind.i64.wrap (a1_1 - (IntKind.i64.wrap ((Int.tmod a1_1 2) + 2)))) 2)) <|
 ck (IR (Int.tdiv (IntKind.i64.wrap (b2_1 - (Int.tmod b2_1 2))) 2)) <|
 some (.next ((Int.tdiv (IntKind.i64.wrap (a1_1 - (IntKind.i64.wrap ((Int.tmod a1_1 2) + 2)))) 2), (Int.tdiv (IntKind.i64.wrap (b2_1 - (Int.tmod b2_1 2))) 2), n7_1, (IntKind.i64.wrap (power8_1 + power8_1)), (IntKind.i64.wrap (i9_1 + 1)))))) (
 br (decide ((Int.tmod b2_1 2) < 0)) (
 ck (IR (Int.tdiv (IntKind.i64.wrap (a1_1 - (Int.tmod a1_1 2))) 2)) <|
 ck (IR (Int.tdiv (IntKind.i64.wrap (b2_1 - (IntKind.i64.wrap ((Int.tmod b2_1 2) + 2)))) 2)) <|
 some (.next ((Int.tdiv (IntKind.i64.wrap (a1_1 - (Int.tmod a1_1 2))) 2), (Int.tdiv (IntKind.i64.wrap (b2_1 - (IntKind.i64.wrap ((Int.tmod b2_1 2) + 2)))) 2), n7_1, (IntKind.i64.wrap (power8_1 + power8_1)), (IntKind.i64.wrap (i9_1 + 1))))) (
 ck (IR (Int.tdiv (IntKind.i64.wrap (a1_1 - (Int.tmod a1_1 2))) 2)) <|
 ck (IR (Int.tdiv (IntKind.i64.wrap (b2_1 - (Int.tmod b2_1 2))) 2)) <|
 some (.next ((Int.tdiv (IntKind.i64.wrap (a1_1 - (Int.tmod a1_1 2))) 2), (Int.tdiv (IntKind.i64.wrap (b2_1 - (Int.tmod b2_1 2))) 2), n7_1, (IntKind.i64.wrap (power8_1 + power8_1)), (IntKind.i64.wrap (i9_1 + 1)))))))) (
 some (.brk (a1_1, b2_1, n7_1, power8_1, i9_1)))
noncomputable def roundelayref1_bits_m (op : Int) (a : Int) (b : Int) : Option (Int) :=
 bd (lp (roundelayref1_bits_L0 op) (a, b, 0, 1, 0)) fun o1 => o1.on (fun (a1_1, b2_1, n7_1, power8_1, i9_1) =>
 some n7_1) (fun r => r.elim)

noncomputable def roundelayref1_Op_m (op : Int) (a : Int) (b : Int) : Option (Int) :=
 br (op == 1) (
 some (IntKind.i64.wrap (a + b))) (
 br (op == 2) (
 some (IntKind.i64.wrap (a - b))) (
 br (op == 3) (
 some (IntKind.i64.wrap (a * b))) (
 br (op == 4) (
 br (op == 4) (
 bd (roundelayref1_bits_m op a b) fun x14 =>
 some x14) (
 br (op == 7) (
 br (decide (a < b)) (
 some 1) (
 some 0)) (
 br (op == 8) (
 br (a == b) (
 some 1) (
 some 0)) (
 some 0)))) (
 br (op == 5) (
 br (op == 5) (
 bd (roundelayref1_bits_m op a b) fun x35 =>
 some x35) (
 br (op == 7) (
 br (decide (a < b)) (
 some 1) (
 some 0)) (
 br (op == 8) (
 br (a == b) (
 some 1) (
 some 0)) (
 some 0)))) (
 br (op == 6) (
 bd (roundelayref1_bits_m op a b) fun x54 =>
 some x54) (
 br (op == 7) (
 br (decide (a < b)) (
 some 1) (
 some 0)) (
 br (op == 8) (
 br (a == b) (
 some 1) (
 some 0)) (
 some 0))))))))

noncomputable def roundelayref1_Index_m (step : Int) (plus : Int) (turn : Int) (log : Int) : Option (Int) :=
 br ((((((((decide (log < 0)) || (decide (log > 5))) || (decide (step < (-64)))) || (decide (step > 64))) || (decide (plus < (-64)))) || (decide (plus > 64))) || (decide (turn < 0))) || (decide (turn > 200))) (
 some 0) (
 ck (IR (step * turn)) <|
 ck (IR ((step * turn) + plus)) <|
 bd (roundelayref1_Size_m log) fun x8 =>
 bd (roundelayref1_Rest_m ((step * turn) + plus) x8) fun x11 =>
 some x11)
end Go.Rd
end

section
namespace Go.Rd
set_option linter.unusedVariables false
theorem num_Class_s (op : Int) : num_Class_m op = some (clsV op) := by
  unfold num_Class_m clsV
  simp only [br_eq, beq_iff_eq]
  (repeat' split) <;> simp_all
theorem ref_Class_s (op : Int) : roundelayref1_Class_m op = some (clsV op) := by
  unfold roundelayref1_Class_m clsV
  simp only [br_eq, Bool.or_eq_true, beq_iff_eq]
  (repeat' split) <;> simp_all
theorem Size_loop (log : Int) (hl : log ≤ 5) : ∀ (m i : Nat), i + m = log.toNat → lp (roundelayref1_Size_L0 log) (2 ^ i, i) = some (.go (2 ^ log.toNat, (log.toNat : Int)))
  | 0, i, h => by
    have hi : i = log.toNat := by omega
    subst hi
    refine lp_brk ?_
    unfold roundelayref1_Size_L0
    exact br_F (by omega)
  | m + 1, i, h => by
    have hp := two_pow_5 i (by omega)
    refine lp_step ?_ (Size_loop log hl m (i + 1) (by omega))
    unfold roundelayref1_Size_L0
    simp only
    rw [br_T (by omega), ck_IR (by omega) (by omega), ck_IR (by omega) (by omega), pow_next]
    rfl
theorem Size_s (log : Int) (hl : log ≤ 5) : roundelayref1_Size_m log = some (2 ^ log.toNat) := by
  have := Size_loop log hl log.toNat 0 (by omega)
  unfold roundelayref1_Size_m
  rw [show ((1 : Int), (0 : Int)) = ((2 : Int) ^ 0, ((0 : Nat) : Int)) from rfl, this]
  rfl
theorem Rest_s (a b : Int) (hb : 0 < b) (hB : b ≤ 9223372036854775807) : roundelayref1_Rest_m a b = some (a % b) := by
  have ht := tmod_lt' a hb
  have hf := tmod_fix (a := a) hb
  unfold roundelayref1_Rest_m
  rw [ck_yes (by omega)]
  by_cases h : Int.tmod a b < 0
  · rw [if_pos h] at hf
    rw [br_T h, ck_IR (by omega) (by omega), hf]
  · rw [if_neg h] at hf
    rw [br_F h, hf]
theorem ref_Index_s (step plus turn log : Int) : roundelayref1_Index_m step plus turn log = some (idx step plus turn log) := by
  unfold roundelayref1_Index_m idx
  by_cases h : OkIdx step plus turn log
  · have hb := h
    unfold OkIdx at hb
    obtain ⟨h1, h2, h3, h4, h5, h6, h7, h8⟩ := hb
    have hp2 := two_pow_5 log.toNat (by omega)
    have hst := step_turn h3 h4 h7 h8
    simp only [show ¬ log < 0 from by omega, show ¬ log > 5 from by omega, show ¬ step < -64 from by omega, show ¬ step > 64 from by omega, show ¬ plus < -64 from by omega, show ¬ plus > 64 from by omega, show ¬ turn < 0 from by omega, show ¬ turn > 200 from by omega, decide_false, Bool.or_self, br_false, if_pos h]
    rw [ck_IR (by omega) (by omega), ck_IR (by omega) (by omega), Size_s log h2, bd_ret, Rest_s _ _ (by omega) (by omega), bd_ret]
  · rw [if_neg h]
    have hc : (((((((decide (log < 0) || decide (log > 5)) || decide (step < -64)) || decide (step > 64)) || decide (plus < -64)) || decide (plus > 64)) || decide (turn < 0)) || decide (turn > 200)) = true := by
      unfold OkIdx at h
      simp only [Bool.or_eq_true, decide_eq_true_eq]
      omega
    rw [hc]; rfl
theorem tdiv2_bd {x : Int} (h : -9223372036854775808 ≤ x ∧ x ≤ 9223372036854775807) : -9223372036854775808 ≤ x.tdiv 2 ∧ x.tdiv 2 ≤ 9223372036854775807 := by
  have h1 := Int.tmod_add_mul_tdiv x 2
  have h2 := tmod_lt' x (m := 2) (by decide)
  omega
theorem bits_loop (op a b : Int) (ha : -9223372036854775808 ≤ a ∧ a ≤ 9223372036854775807) (hb : -9223372036854775808 ≤ b ∧ b ≤ 9223372036854775807) : ∀ (m i : Nat), i + m = 64 →
    ∃ x y z t, lp (roundelayref1_bits_L0 op) (a / 2 ^ i, b / 2 ^ i, IntKind.i64.wrap (bitsN op a b i), IntKind.i64.wrap (2 ^ i), i) = some (.go (x, y, IntKind.i64.wrap (bitsN op a b 64), z, t))
  | 0, i, h => by
    have hi : i = 64 := by omega
    subst hi
    refine ⟨a / 2 ^ 64, b / 2 ^ 64, IntKind.i64.wrap (2 ^ 64), ((64 : Nat) : Int), lp_brk ?_⟩
    unfold roundelayref1_bits_L0
    exact br_F (by omega)
  | m + 1, i, h => by
    obtain ⟨x, y, z, t, ih⟩ := bits_loop op a b ha hb m (i + 1) (by omega)
    refine ⟨x, y, z, t, lp_step ?_ ih⟩
    have hba := half_bd ha.1 ha.2 i
    have hbb := half_bd hb.1 hb.2 i
    have hcd := bits_cond op a b i
    have key : ∀ {A : Int}, (-9223372036854775808 ≤ A ∧ A ≤ 9223372036854775807) →
        (A.tmod 2 < 0 → IR (Int.tdiv (IntKind.i64.wrap (A - IntKind.i64.wrap (A.tmod 2 + 2))) 2) ∧ Int.tdiv (IntKind.i64.wrap (A - IntKind.i64.wrap (A.tmod 2 + 2))) 2 = A / 2) ∧
        (¬ A.tmod 2 < 0 → IR (Int.tdiv (IntKind.i64.wrap (A - A.tmod 2)) 2) ∧ Int.tdiv (IntKind.i64.wrap (A - A.tmod 2)) 2 = A / 2) := fun {A} hA => by
      constructor
      · intro hn
        have h1 := tdiv2_bd (wrap_bd (A - IntKind.i64.wrap (A.tmod 2 + 2)))
        have h2 := half_neg hA.1 hA.2 hn
        rw [wrap_i64 h1.1 h1.2] at h2
        exact ⟨h1, h2⟩
      · intro hn
        have h1 := tdiv2_bd (wrap_bd (A - A.tmod 2))
        have h2 := half_pos hA.1 hA.2 hn
        rw [wrap_i64 h1.1 h1.2] at h2
        exact ⟨h1, h2⟩
    have ka := key hba
    have kb := key hbb
    have hpw : IntKind.i64.wrap (IntKind.i64.wrap (2 ^ i) + IntKind.i64.wrap (2 ^ i)) = IntKind.i64.wrap (2 ^ (i + 1)) := by rw [wrap_add2, pow_next]
    have hi1 : IntKind.i64.wrap ((i : Int) + 1) = ((i + 1 : Nat) : Int) := by rw [wrap_i64 (by omega) (by omega)]; rfl
    unfold roundelayref1_bits_L0
    simp only
    rw [br_T (by omega), hcd, hpw, hi1]
    have ea := half_next a i
    have eb := half_next b i
    cases hc : bitC op (bitA a i) (bitA b i) with
    | true =>
      have hn := bits_n_yes (op := op) (a := a) (b := b) (i := i) hc rfl
      rw [br_true, hn]
      by_cases na : (a / 2 ^ i).tmod 2 < 0 <;> by_cases nb : (b / 2 ^ i).tmod 2 < 0
      · rw [br_T na, br_T nb, ck_yes (ka.1 na).1, ck_yes (kb.1 nb).1, (ka.1 na).2, (kb.1 nb).2, ea, eb]
      · rw [br_T na, br_F nb, ck_yes (ka.1 na).1, ck_yes (kb.2 nb).1, (ka.1 na).2, (kb.2 nb).2, ea, eb]
      · rw [br_F na, br_T nb, ck_yes (ka.2 na).1, ck_yes (kb.1 nb).1, (ka.2 na).2, (kb.1 nb).2, ea, eb]
      · rw [br_F na, br_F nb, ck_yes (ka.2 na).1, ck_yes (kb.2 nb).1, (ka.2 na).2, (kb.2 nb).2, ea, eb]
    | false =>
      have hn := bits_n_no (op := op) (a := a) (b := b) (i := i) hc rfl
      rw [br_false, hn]
      by_cases na : (a / 2 ^ i).tmod 2 < 0 <;> by_cases nb : (b / 2 ^ i).tmod 2 < 0
      · rw [br_T na, br_T nb, ck_yes (ka.1 na).1, ck_yes (kb.1 nb).1, (ka.1 na).2, (kb.1 nb).2, ea, eb]
      · rw [br_T na, br_F nb, ck_yes (ka.1 na).1, ck_yes (kb.2 nb).1, (ka.1 na).2, (kb.2 nb).2, ea, eb]
      · rw [br_F na, br_T nb, ck_yes (ka.2 na).1, ck_yes (kb.1 nb).1, (ka.2 na).2, (kb.1 nb).2, ea, eb]
      · rw [br_F na, br_F nb, ck_yes (ka.2 na).1, ck_yes (kb.2 nb).1, (ka.2 na).2, (kb.2 nb).2, ea, eb]
theorem bits_s (op a b : Int) (ha : -9223372036854775808 ≤ a ∧ a ≤ 9223372036854775807) (hb : -9223372036854775808 ≤ b ∧ b ≤ 9223372036854775807) : roundelayref1_bits_m op a b = some (IntKind.i64.wrap (bitsN op a b 64)) := by
  obtain ⟨x, y, z, t, h⟩ := bits_loop op a b ha hb 64 0 (by omega)
  simp only [Int.pow_zero, Int.ediv_one] at h
  unfold roundelayref1_bits_m
  rw [show (a, b, (0 : Int), (1 : Int), (0 : Int)) = (a, b, IntKind.i64.wrap (bitsN op a b 0), IntKind.i64.wrap 1, ((0 : Nat) : Int)) from rfl, h]
  rfl
theorem ref_Op_s (op a b : Int) (ha : -9223372036854775808 ≤ a ∧ a ≤ 9223372036854775807) (hb : -9223372036854775808 ≤ b ∧ b ≤ 9223372036854775807) : roundelayref1_Op_m op a b = some (opV op a b) := by
  unfold roundelayref1_Op_m
  rw [bits_s op a b ha hb]
  simp only [bd_ret, br_eq, beq_iff_eq]
  by_cases h4 : op = 4
  · have := opV_bits op a b (.inl (by simp [h4]))
    subst h4; simp [this]
  · by_cases h5 : op = 5
    · have := opV_bits op a b (.inr (.inl (by simp [h5])))
      subst h5; simp [this]
    · by_cases h6 : op = 6
      · have := opV_bits op a b (.inr (.inr (by simp [h6])))
        subst h6; simp [this]
      · unfold opV
        (repeat' split) <;> simp_all
end Go.Rd
end

section
namespace Go.Rd
set_option linter.unusedVariables false
noncomputable def target_May_L0 (t : Tgt) : Int → Option (Stp (Int) (Bool)) := fun x4_1 =>
 br (decide (x4_1 < 3)) (
 ck (IX x4_1 3) <|
 ck ((!(decide ((sel3 t.u0 t.u1 t.u2 x4_1) < 1))) = true → IX x4_1 3) <|
 ck ((!((decide ((sel3 t.u0 t.u1 t.u2 x4_1) < 1)) || (decide ((sel3 t.u0 t.u1 t.u2 x4_1) > 4)))) = true → IX x4_1 3) <|
 ck ((!(((decide ((sel3 t.u0 t.u1 t.u2 x4_1) < 1)) || (decide ((sel3 t.u0 t.u1 t.u2 x4_1) > 4))) || (decide ((sel3 t.w0 t.w1 t.w2 x4_1) < 1)))) = true → IX x4_1 3) <|
 br ((((decide ((sel3 t.u0 t.u1 t.u2 x4_1) < 1)) || (decide ((sel3 t.u0 t.u1 t.u2 x4_1) > 4))) || (decide ((sel3 t.w0 t.w1 t.w2 x4_1) < 1))) || (decide ((sel3 t.w0 t.w1 t.w2 x4_1) > 6))) (
 some (.ret false)) (
 ck (IR (x4_1 + 1)) <|
 some (.next (x4_1 + 1)))) (
 some (.brk x4_1))
noncomputable def target_May_m (t : Tgt) : Option (Bool) :=
 bd (lp (target_May_L0 t) 0) fun o2 => o2.on (fun x4_1 =>
 some ((decide (t.regs ≥ 1)) && (decide (t.regs ≤ 128)))) (fun r => some r)

noncomputable def target_Wait_m (t : Tgt) (op : Int) : Option (Int) :=
 bd (target_May_m t) fun x2 =>
 br (!x2) (
 some 0) (
 bd (num_Class_m op) fun x8 =>
 ck (IX x8 3) <|
 some (sel3 t.w0 t.w1 t.w2 x8))

noncomputable def roundelayref4_May_L0 (t : Tgt) : Int → Option (Stp (Int) (Bool)) := fun k3_1 =>
 br (decide (k3_1 < 3)) (
 ck (IX k3_1 3) <|
 ck ((!(decide ((sel3 t.u0 t.u1 t.u2 k3_1) < 1))) = true → IX k3_1 3) <|
 ck ((!((decide ((sel3 t.u0 t.u1 t.u2 k3_1) < 1)) || (decide ((sel3 t.u0 t.u1 t.u2 k3_1) > 4)))) = true → IX k3_1 3) <|
 ck ((!(((decide ((sel3 t.u0 t.u1 t.u2 k3_1) < 1)) || (decide ((sel3 t.u0 t.u1 t.u2 k3_1) > 4))) || (decide ((sel3 t.w0 t.w1 t.w2 k3_1) < 1)))) = true → IX k3_1 3) <|
 br ((((decide ((sel3 t.u0 t.u1 t.u2 k3_1) < 1)) || (decide ((sel3 t.u0 t.u1 t.u2 k3_1) > 4))) || (decide ((sel3 t.w0 t.w1 t.w2 k3_1) < 1))) || (decide ((sel3 t.w0 t.w1 t.w2 k3_1) > 6))) (
 some (.ret false)) (
 ck (IR (k3_1 + 1)) <|
 some (.next (k3_1 + 1)))) (
 some (.brk k3_1))
noncomputable def roundelayref4_May_m (t : Tgt) : Option (Bool) :=
 bd (lp (roundelayref4_May_L0 t) 0) fun o2 => o2.on (fun k3_1 =>
 some ((decide (t.regs > 0)) && (decide (t.regs ≤ 128)))) (fun r => some r)

noncomputable def roundelayref4_Wait_m (t : Tgt) (op : Int) : Option (Int) :=
 bd (roundelayref4_May_m t) fun x2 =>
 br (!x2) (
 some 0) (
 bd (roundelayref1_Class_m op) fun x8 =>
 ck (IX x8 3) <|
 some (sel3 t.w0 t.w1 t.w2 x8))

noncomputable def loop_in_m (n_ : Int) (from_ : Int) (below : Int) : Option (Bool) :=
 some ((decide (n_ ≥ from_)) && (decide (n_ < below)))

noncomputable def loop_Uses_m (s : Stm) : Option (List Rf) :=
 br (s.op == 4) (
 some [s.a]) (
 br (decide (s.op > 10)) (
 some [s.a, s.b]) (
 some []))

noncomputable def loop_ref_m (l : Lp) (k_ : Int) (r_ : Rf) : Option (Bool) :=
 br (r_.bk == 0) (
 bd (loop_in_m r_.bk 0 4) fun x5 =>
 bdG (x5) (loop_in_m r_.st 0 k_) fun x8 =>
 some (x5 && x8)) (
 bd (loop_in_m r_.bk 0 4) fun x12 =>
 bdG (x12) (loop_in_m r_.st 0 (ln l.body)) fun x15 =>
 some (x12 && x15))

noncomputable def loop_stmt_L0 (l : Lp) (k_ : Int) (x17 : List Rf) : Int → Option (Stp (Int) (Bool)) := fun x49_1 =>
 br (decide (x49_1 < (ln x17))) (
 ck (IX x49_1 (ln x17)) <|
 bd (loop_ref_m l k_ (ele x17 x49_1)) fun x33 =>
 br (!x33) (
 some (.ret false)) (
 ck (IR (x49_1 + 1)) <|
 some (.next (x49_1 + 1)))) (
 some (.brk x49_1))
noncomputable def loop_stmt_m (l : Lp) (k_ : Int) : Option (Bool) :=
 ck (IX k_ (ln l.body)) <|
 bd (loop_in_m ((ele l.body k_).ar) 0 (ln l.logs)) fun x8 =>
 bdG (x8) (loop_in_m ((ele l.body k_).sp) (-64) 65) fun x11 =>
 bdG (x8 && x11) (loop_in_m ((ele l.body k_).pl) (-64) 65) fun x14 =>
 bd (loop_Uses_m (Stm.mk ((ele l.body k_).op) ((ele l.body k_).a) ((ele l.body k_).b) ((ele l.body k_).ar) ((ele l.body k_).sp) ((ele l.body k_).pl) ((ele l.body k_).n))) fun x17 =>
 bd (lp (loop_stmt_L0 l k_ x17) 0) fun o21 => o21.on (fun x49_1 =>
 br ((ele l.body k_).op == 1) (
 some ((((((ele l.body k_).ar == 0) && ((ele l.body k_).sp == 0)) && ((ele l.body k_).pl == 0)) && ([((ele l.body k_).a).st, ((ele l.body k_).a).bk] == [0, 0])) && ([((ele l.body k_).b).st, ((ele l.body k_).b).bk] == [0, 0]))) (
 br ((ele l.body k_).n != 0) (
 some false) (
 br ((ele l.body k_).op == 2) (
 some ((((((ele l.body k_).ar == 0) && ((ele l.body k_).sp == 0)) && ((ele l.body k_).pl == 0)) && ([((ele l.body k_).a).st, ((ele l.body k_).a).bk] == [0, 0])) && ([((ele l.body k_).b).st, ((ele l.body k_).b).bk] == [0, 0]))) (
 br ((ele l.body k_).op == 3) (
 some ((((x8 && x11) && x14) && ([((ele l.body k_).a).st, ((ele l.body k_).a).bk] == [0, 0])) && ([((ele l.body k_).b).st, ((ele l.body k_).b).bk] == [0, 0]))) (
 br ((ele l.body k_).op == 4) (
 some (((x8 && x11) && x14) && ([((ele l.body k_).b).st, ((ele l.body k_).b).bk] == [0, 0]))) (
 bdG ((((ele l.body k_).ar == 0) && ((ele l.body k_).sp == 0)) && ((ele l.body k_).pl == 0)) (loop_in_m (IntKind.i64.wrap ((ele l.body k_).op - 10)) 1 9) fun x41 =>
 some (((((ele l.body k_).ar == 0) && ((ele l.body k_).sp == 0)) && ((ele l.body k_).pl == 0)) && x41))))))) (fun r => some r)

noncomputable def loop_May_L0 (l : Lp) : Int → Option (Stp (Int) (Bool)) := fun x12_1 =>
 br (decide (x12_1 < (ln l.logs))) (
 ck (IX x12_1 (ln l.logs)) <|
 bd (loop_in_m (ele l.logs x12_1) 0 6) fun x13 =>
 br (!x13) (
 some (.ret false)) (
 ck (IR (x12_1 + 1)) <|
 some (.next (x12_1 + 1)))) (
 some (.brk x12_1))
noncomputable def loop_May_L2 (l : Lp) : (Int × Int) → Option (Stp (Int × Int) (Bool)) := fun (last5_2, x23_2) =>
 br (decide (x23_2 < (ln l.outs))) (
 ck (IX x23_2 (ln l.outs)) <|
 ck (IR (last5_2 + 1)) <|
 bd (loop_in_m (ele l.outs x23_2) (last5_2 + 1) (ln l.body)) fun x20 =>
 br (!x20) (
 some (.ret false)) (
 ck (IR (x23_2 + 1)) <|
 some (.next ((ele l.outs x23_2), (x23_2 + 1))))) (
 some (.brk (last5_2, x23_2)))
noncomputable def loop_May_L4 (l : Lp) : Int → Option (Stp (Int) (Bool)) := fun x40_3 =>
 br (decide (x40_3 < (ln l.body))) (
 bdG (!(decide ((ln l.body) > 16))) (loop_stmt_m l x40_3) fun x19 =>
 br ((decide ((ln l.body) > 16)) || (!x19)) (
 some (.ret false)) (
 ck (IR (x40_3 + 1)) <|
 some (.next (x40_3 + 1)))) (
 some (.brk x40_3))
noncomputable def loop_May_m (l : Lp) : Option (Bool) :=
 bd (lp (loop_May_L0 l) 0) fun o2 => o2.on (fun x12_1 =>
 bd (lp (loop_May_L2 l) ((-1), 0)) fun o7 => o7.on (fun (last5_2, x23_2) =>
 bd (lp (loop_May_L4 l) 0) fun o12 => o12.on (fun x40_3 =>
 some ((decide ((ln l.logs) ≤ 3)) && (decide ((ln l.body) > 0)))) (fun r => some r)) (fun r => some r)) (fun r => some r)

noncomputable def roundelayref2_Within_m (n_ : Int) (least : Int) (most : Int) : Option (Bool) :=
 some ((decide (n_ ≥ least)) && (decide (n_ ≤ most)))

noncomputable def roundelayref2_Uses_m (s : Stm) : Option (List Rf) :=
 br (s.op == 4) (
 some [s.a]) (
 br (decide (s.op > 10)) (
 some [s.a, s.b]) (
 some []))

noncomputable def roundelayref2_stmt_L0 (l : Lp) (k_ : Int) (x7 : List Rf) : Int → Option (Stp (Int) (Bool)) := fun i7_1 =>
 br (decide (i7_1 < (ln x7))) (
 ck (IR ((ln l.body) - 1)) <|
 ck (IX i7_1 (ln x7)) <|
 br ((ele x7 i7_1).bk == 0) (
 ck (IR (k_ - 1)) <|
 ck (IX i7_1 (ln x7)) <|
 bd (roundelayref2_Within_m ((ele x7 i7_1).bk) 0 3) fun x32 =>
 ck ((!(!x32)) = true → IX i7_1 (ln x7)) <|
 bdG (!(!x32)) (roundelayref2_Within_m ((ele x7 i7_1).st) 0 (k_ - 1)) fun x39 =>
 br ((!x32) || (!x39)) (
 some (.ret false)) (
 ck (IR (i7_1 + 1)) <|
 some (.next (i7_1 + 1)))) (
 ck (IX i7_1 (ln x7)) <|
 bd (roundelayref2_Within_m ((ele x7 i7_1).bk) 0 3) fun x52 =>
 ck ((!(!x52)) = true → IX i7_1 (ln x7)) <|
 bdG (!(!x52)) (roundelayref2_Within_m ((ele x7 i7_1).st) 0 ((ln l.body) - 1)) fun x59 =>
 br ((!x52) || (!x59)) (
 some (.ret false)) (
 ck (IR (i7_1 + 1)) <|
 some (.next (i7_1 + 1))))) (
 some (.brk i7_1))
noncomputable def roundelayref2_stmt_m (l : Lp) (k_ : Int) : Option (Bool) :=
 ck (IX k_ (ln l.body)) <|
 bd (roundelayref2_Uses_m (Stm.mk ((ele l.body k_).op) ((ele l.body k_).a) ((ele l.body k_).b) ((ele l.body k_).ar) ((ele l.body k_).sp) ((ele l.body k_).pl) ((ele l.body k_).n))) fun x7 =>
 bd (lp (roundelayref2_stmt_L0 l k_ x7) 0) fun o11 => o11.on (fun i7_1 =>
 br (((decide ((ln x7) < 2)) && ((((ele l.body k_).b).st != 0) || (((ele l.body k_).b).bk != 0))) || ((decide ((ln x7) < 1)) && ((((ele l.body k_).a).st != 0) || (((ele l.body k_).a).bk != 0)))) (
 some false) (
 br (((ele l.body k_).op != 1) && ((ele l.body k_).n != 0)) (
 some false) (
 br (((ele l.body k_).op == 3) || ((ele l.body k_).op == 4)) (
 ck (IR ((ln l.logs) - 1)) <|
 bd (roundelayref2_Within_m ((ele l.body k_).ar) 0 ((ln l.logs) - 1)) fun x26 =>
 bdG (x26) (roundelayref2_Within_m ((ele l.body k_).sp) (-64) 64) fun x29 =>
 bdG (x26 && x29) (roundelayref2_Within_m ((ele l.body k_).pl) (-64) 64) fun x32 =>
 some ((x26 && x29) && x32)) (
 br ((((ele l.body k_).ar != 0) || ((ele l.body k_).sp != 0)) || ((ele l.body k_).pl != 0)) (
 some false) (
 bdG (!(((ele l.body k_).op == 1) || ((ele l.body k_).op == 2))) (roundelayref2_Within_m ((ele l.body k_).op) 11 18) fun x39 =>
 some ((((ele l.body k_).op == 1) || ((ele l.body k_).op == 2)) || x39)))))) (fun r => some r)

noncomputable def roundelayref2_May_L0 (l : Lp) : Int → Option (Stp (Int) (Bool)) := fun i4_1 =>
 br (decide (i4_1 < (ln l.logs))) (
 ck (IX i4_1 (ln l.logs)) <|
 bd (roundelayref2_Within_m (ele l.logs i4_1) 0 5) fun x16 =>
 br (!x16) (
 some (.ret false)) (
 ck (IR (i4_1 + 1)) <|
 some (.next (i4_1 + 1)))) (
 some (.brk i4_1))
noncomputable def roundelayref2_May_L2 (l : Lp) : Int → Option (Stp (Int) (Bool)) := fun i5_2 =>
 br (decide (i5_2 < (ln l.outs))) (
 ck (IX i5_2 (ln l.outs)) <|
 ck (IR ((ln l.body) - 1)) <|
 bd (roundelayref2_Within_m (ele l.outs i5_2) 0 ((ln l.body) - 1)) fun x23 =>
 ck ((!(!x23) && (decide (i5_2 > 0))) = true → IX i5_2 (ln l.outs)) <|
 ck ((!(!x23) && (decide (i5_2 > 0))) = true → IR (i5_2 - 1)) <|
 ck ((!(!x23) && (decide (i5_2 > 0))) = true → IX (i5_2 - 1) (ln l.outs)) <|
 br ((!x23) || ((decide (i5_2 > 0)) && (decide ((ele l.outs i5_2) ≤ (ele l.outs (i5_2 - 1)))))) (
 some (.ret false)) (
 ck (IR (i5_2 + 1)) <|
 some (.next (i5_2 + 1)))) (
 some (.brk i5_2))
noncomputable def roundelayref2_May_L4 (l : Lp) : Int → Option (Stp (Int) (Bool)) := fun k6_3 =>
 br (decide (k6_3 < (ln l.body))) (
 bd (roundelayref2_stmt_m l k6_3) fun x22 =>
 br (!x22) (
 some (.ret false)) (
 ck (IR (k6_3 + 1)) <|
 some (.next (k6_3 + 1)))) (
 some (.brk k6_3))
noncomputable def roundelayref2_May_m (l : Lp) : Option (Bool) :=
 br (((decide ((ln l.logs) > 3)) || (decide ((ln l.body) < 1))) || (decide ((ln l.body) > 16))) (
 some false) (
 bd (lp (roundelayref2_May_L0 l) 0) fun o5 => o5.on (fun i4_1 =>
 bd (lp (roundelayref2_May_L2 l) 0) fun o10 => o10.on (fun i5_2 =>
 bd (lp (roundelayref2_May_L4 l) 0) fun o15 => o15.on (fun k6_3 =>
 some true) (fun r => some r)) (fun r => some r)) (fun r => some r))

noncomputable def roundelayref2_Fits_L0 (s : Sta) : Int → Option (Stp (Int) (Bool)) := fun i5_1 =>
 br (decide (i5_1 < (ln s.bef))) (
 ck (IX i5_1 (ln s.bef)) <|
 br ((ln (ele s.bef i5_1)) != 3) (
 some (.ret false)) (
 ck (IR (i5_1 + 1)) <|
 some (.next (i5_1 + 1)))) (
 some (.brk i5_1))
noncomputable def roundelayref2_Fits_L2 (l : Lp) (s : Sta) : Int → Option (Stp (Int) (Bool)) := fun i6_2 =>
 br (decide (i6_2 < (ln s.mem))) (
 ck (IX i6_2 (ln l.logs)) <|
 bd (roundelayref1_Size_m (ele l.logs i6_2)) fun x25 =>
 ck (IX i6_2 (ln s.mem)) <|
 br ((ln (ele s.mem i6_2)) != x25) (
 some (.ret false)) (
 ck (IR (i6_2 + 1)) <|
 some (.next (i6_2 + 1)))) (
 some (.brk i6_2))
noncomputable def roundelayref2_Fits_m (l : Lp) (s : Sta) : Option (Bool) :=
 bd (roundelayref2_May_m l) fun x3 =>
 br (((!x3) || ((ln s.bef) != (ln l.body))) || ((ln s.mem) != (ln l.logs))) (
 some false) (
 bd (lp (roundelayref2_Fits_L0 s) 0) fun o9 => o9.on (fun i5_1 =>
 bd (lp (roundelayref2_Fits_L2 l s) 0) fun o14 => o14.on (fun i6_2 =>
 some true) (fun r => some r)) (fun r => some r))
end Go.Rd
end

section
namespace Go.Rd
open Go.RowKit Go.ChangeShapes Go.WideShapes Go.ChangeAt
set_option linter.unusedVariables false
section
variable {H : Type} {enc : TypeId × Value → H} {P : Program} {w : World} {base : Nat} {spare : Nat → Bool} {held : Bool}
theorem struct_at {fuel : Nat} {t : TypeId} {fs : Array Field} {cs : List Value} {x : DataW H × List MemPlace} {l : List (TypeId × Nat)} (ht : P.underlying t = some (.struct fs)) (hl : fs.toList.map (fun f => (f.type, f.offset)) = l)
    (h : DataW.trod enc P w base spare held fuel t cs = some x) (t1 : TypeId) (o : Nat) (hm : (t1, o) ∈ l) : ∃ fuel' y, DataW.trod enc P w base spare held fuel' t1 ((cs.drop o).take (P.cellsOf t1)) = some y := by
  subst hl
  obtain ⟨f, hf, he⟩ := List.mem_map.1 hm
  simp only [Prod.mk.injEq] at he
  obtain ⟨rfl, rfl⟩ := he
  exact (trod_struct ht h).2 f hf

theorem ints_arg {fuel : Nat} {t e : TypeId} {v : Value} {x : DataW H × List MemPlace} (ht : P.underlying t = some (.slice e)) (he : flatT P 6 e = true) (hsz : P.cellsOf e = 1) (hx : DataW.trod enc P w base spare held fuel t [v] = some x) :
    ∃ xs : List Int, Arr w v 1 (xs.map icell) ∧ (∀ u ∈ xs, InR u) ∧ xs.length ≤ maxLen :=
  slice_list icell InR ht hsz hx fun fuel' es y h => by
    obtain ⟨ns, rfl, hl, hr⟩ := trod_flat he h
    rw [hsz] at hl
    match ns, hl with
    | [n], _ => exact ⟨n, rfl, hr n (by simp)⟩

theorem stms_arg {fuel : Nat} {t e : TypeId} {v : Value} {x : DataW H × List MemPlace} (ht : P.underlying t = some (.slice e)) (he : flatT P 6 e = true) (hsz : P.cellsOf e = 9) (hx : DataW.trod enc P w base spare held fuel t [v] = some x) :
    ∃ xs : List Stm, Arr w v 9 (xs.map Stm.cells) ∧ (∀ u ∈ xs, u.InR) ∧ xs.length ≤ maxLen :=
  slice_list Stm.cells Stm.InR ht hsz hx fun fuel' es y h => by
    obtain ⟨ns, rfl, hl, hr⟩ := trod_flat he h
    rw [hsz] at hl
    match ns, hl with
    | [a, b, c, d, e, f, g, i, j], _ => exact ⟨⟨a, ⟨b, c⟩, ⟨d, e⟩, f, g, i, j⟩, rfl, by unfold Stm.InR; simp at hr; simp [hr]⟩

theorem one_slice {fuel : Nat} {t e : TypeId} {cs : List Value} {x : DataW H × List MemPlace} (ht : P.underlying t = some (.slice e)) (hx : DataW.trod enc P w base spare held fuel t cs = some x) : ∃ v, cs = [v] := by
  rcases trod_slice ht hx with h | ⟨a, len, cap, f, h, _⟩
  · exact ⟨_, h⟩
  · exact ⟨_, h⟩

theorem rows_arg {fuel : Nat} {t e i : TypeId} {v : Value} {x : DataW H × List MemPlace} (ht : P.underlying t = some (.slice e)) (he : P.underlying e = some (.slice i)) (hi : flatT P 6 i = true) (hs1 : P.cellsOf e = 1) (hs2 : P.cellsOf i = 1)
    (hx : DataW.trod enc P w base spare held fuel t [v] = some x) : ∃ B, RowsRep w v B := by
  obtain ⟨B, h1, h2, h3⟩ := slice_list (α := Value × List Int) vcell (fun p => Arr w p.1 1 (p.2.map icell) ∧ (∀ x ∈ p.2, InR x) ∧ p.2.length ≤ maxLen) ht hs1 hx fun fuel' es y h => by
    obtain ⟨u, rfl⟩ := one_slice he h
    obtain ⟨xs, a, b, c⟩ := ints_arg he hi hs2 h
    exact ⟨(u, xs), rfl, a, b, c⟩
  exact ⟨B, h1, fun p hp => (h2 p hp).1, fun p hp => (h2 p hp).2.1, fun p hp => (h2 p hp).2.2, h3⟩

theorem loop_arg {fuel : Nat} {t t1 t2 e1 e2 : TypeId} {fs : Array Field} {cs : List Value} {x : DataW H × List MemPlace} (ht : P.underlying t = some (.struct fs)) (hl : fs.toList.map (fun f => (f.type, f.offset)) = [(t1, 0), (t2, 1), (t1, 2)])
    (h1 : P.underlying t1 = some (.slice e1)) (h2 : P.underlying t2 = some (.slice e2)) (hf1 : flatT P 6 e1 = true) (hf2 : flatT P 6 e2 = true) (hz : P.cellsOf t = 3 ∧ P.cellsOf t1 = 1 ∧ P.cellsOf t2 = 1 ∧ P.cellsOf e1 = 1 ∧ P.cellsOf e2 = 9)
    (hx : DataW.trod enc P w base spare held fuel t cs = some x) : ∃ v1 v2 v3 l, cs = [v1, v2, v3] ∧ LpRep w v1 v2 v3 l := by
  obtain ⟨z0, z1, z2, z3, z4⟩ := hz
  have hlen := (trod_struct ht hx).1
  rw [z0] at hlen
  obtain ⟨_, _, g1⟩ := struct_at ht hl hx t1 0 (by simp)
  obtain ⟨_, _, g2⟩ := struct_at ht hl hx t2 1 (by simp)
  obtain ⟨_, _, g3⟩ := struct_at ht hl hx t1 2 (by simp)
  match cs, hlen with
  | [v1, v2, v3], _ =>
    rw [z1] at g1 g3
    rw [z2] at g2
    obtain ⟨logs, a1, a2, a3⟩ := ints_arg h1 hf1 z3 g1
    obtain ⟨body, b1, b2, b3⟩ := stms_arg h2 hf2 z4 g2
    obtain ⟨outs, c1, c2, c3⟩ := ints_arg h1 hf1 z3 g3
    exact ⟨v1, v2, v3, ⟨logs, body, outs⟩, rfl, a1, b1, c1, a2, b2, c2, a3, b3, c3⟩

theorem state_arg {fuel : Nat} {t e i j : TypeId} {fs : Array Field} {cs : List Value} {x : DataW H × List MemPlace} (ht : P.underlying t = some (.struct fs)) (hl : fs.toList.map (fun f => (f.type, f.offset)) = [(e, 0), (e, 1)])
    (h1 : P.underlying e = some (.slice i)) (h2 : P.underlying i = some (.slice j)) (hf : flatT P 6 j = true) (hz : P.cellsOf t = 2 ∧ P.cellsOf e = 1 ∧ P.cellsOf i = 1 ∧ P.cellsOf j = 1)
    (hx : DataW.trod enc P w base spare held fuel t cs = some x) : ∃ v4 v5 B M, cs = [v4, v5] ∧ RowsRep w v4 B ∧ RowsRep w v5 M := by
  obtain ⟨z0, z1, z2, z3⟩ := hz
  have hlen := (trod_struct ht hx).1
  rw [z0] at hlen
  obtain ⟨_, _, g1⟩ := struct_at ht hl hx e 0 (by simp)
  obtain ⟨_, _, g2⟩ := struct_at ht hl hx e 1 (by simp)
  match cs, hlen with
  | [v4, v5], _ =>
    rw [z1] at g1 g2
    obtain ⟨B, a⟩ := rows_arg h1 h2 hf z2 z3 g1
    obtain ⟨M, b⟩ := rows_arg h1 h2 hf z2 z3 g2
    exact ⟨v4, v5, B, M, rfl, a, b⟩
end
end Go.Rd
end

section
namespace Go.Rd
open Go.RowKit Go.ChangeShapes Go.WideShapes Go.ChangeAt
set_option linter.unusedVariables false
section
variable {H : Type} {enc : TypeId × Value → H} {P : Program} {w : World} {base : Nat} {spare : Nat → Bool} {held : Bool}
def Opr.InRo (o : Opr) : Prop := ∀ x ∈ [o.slot, o.stage, o.op, o.dest, o.a, o.b, o.ar, o.sp, o.pl, o.n], InR x
theorem oprs_arg {fuel : Nat} {t e : TypeId} {v : Value} {x : DataW H × List MemPlace} (ht : P.underlying t = some (.slice e)) (he : flatT P 6 e = true) (hsz : P.cellsOf e = 10) (hx : DataW.trod enc P w base spare held fuel t [v] = some x) :
    ∃ xs : List Opr, Arr w v 10 (xs.map Opr.cells) ∧ (∀ u ∈ xs, u.InRo) ∧ xs.length ≤ maxLen :=
  slice_list Opr.cells Opr.InRo ht hsz hx fun fuel' es y h => by
    obtain ⟨ns, rfl, hl, hr⟩ := trod_flat he h
    rw [hsz] at hl
    match ns, hl with
    | [a, b, c, d, e, f, g, i, j, k], _ => exact ⟨⟨a, b, c, d, e, f, g, i, j, k⟩, rfl, hr⟩
structure KrnRep (w : World) (v : Value) (k : Krn) : Prop where
  ops : Arr w v 10 (k.ops.map Opr.cells)
  pace : InR k.pace
  stages : InR k.stages
  rops : ∀ o ∈ k.ops, o.InRo
  len : k.ops.length ≤ maxLen
theorem int_one {fuel : Nat} {t : TypeId} {cs : List Value} {x : DataW H × List MemPlace} (ht : P.underlying t = some (.int .i64)) (hx : DataW.trod enc P w base spare held fuel t cs = some x) : ∃ n, cs = [.int .i64 n] ∧ InR n := by
  obtain ⟨n, h, _, hw⟩ := DataW.trod_int ht hx
  exact ⟨n, h, wf_i64 hw⟩
theorem krn_arg {fuel : Nat} {t ti t2 e2 : TypeId} {fs : Array Field} {cs : List Value} {x : DataW H × List MemPlace} (ht : P.underlying t = some (.struct fs)) (hl : fs.toList.map (fun f => (f.type, f.offset)) = [(ti, 0), (ti, 1), (t2, 2)])
    (hi : P.underlying ti = some (.int .i64)) (h2 : P.underlying t2 = some (.slice e2)) (hf2 : flatT P 6 e2 = true) (hz : P.cellsOf t = 3 ∧ P.cellsOf ti = 1 ∧ P.cellsOf t2 = 1 ∧ P.cellsOf e2 = 10)
    (hx : DataW.trod enc P w base spare held fuel t cs = some x) : ∃ v k, cs = [.int .i64 k.pace, .int .i64 k.stages, v] ∧ KrnRep w v k := by
  obtain ⟨z0, z1, z2, z3⟩ := hz
  have hlen := (trod_struct ht hx).1
  rw [z0] at hlen
  obtain ⟨_, _, g1⟩ := struct_at ht hl hx ti 0 (by simp)
  obtain ⟨_, _, g2⟩ := struct_at ht hl hx ti 1 (by simp)
  obtain ⟨_, _, g3⟩ := struct_at ht hl hx t2 2 (by simp)
  match cs, hlen with
  | [v1, v2, v3], _ =>
    rw [z1] at g1 g2
    rw [z2] at g3
    obtain ⟨p, hp, rp⟩ := int_one hi g1
    obtain ⟨q, hq, rq⟩ := int_one hi g2
    obtain ⟨ops, a, b, c⟩ := oprs_arg h2 hf2 z3 g3
    simp at hp hq
    subst hp; subst hq
    exact ⟨v3, ⟨p, q, ops⟩, rfl, a, rp, rq, b, c⟩
structure PlnRep (w : World) (v : Value) (k : Pln) : Prop where
  times : Arr w v 1 (k.times.map icell)
  pace : InR k.pace
  rtimes : ∀ o ∈ k.times, InR o
  len : k.times.length ≤ maxLen
structure RowsOk (xss : List (List Int)) : Prop where
  rng : ∀ xs ∈ xss, ∀ x ∈ xs, InR x
  lens : ∀ xs ∈ xss, xs.length ≤ maxLen
  len : xss.length ≤ maxLen
theorem RowsRep.plain {v : Value} {B : List (Value × List Int)} (h : RowsRep w v B) : RowsA w v (B.map (·.2)) ∧ RowsOk (B.map (·.2)) :=
  ⟨⟨B, rfl, h.rows, h.each⟩, fun xs hx => by obtain ⟨p, hp, rfl⟩ := List.mem_map.1 hx; exact h.rng p hp, fun xs hx => by obtain ⟨p, hp, rfl⟩ := List.mem_map.1 hx; exact h.lens p hp, by rw [List.length_map]; exact h.len⟩
end
end Go.Rd
end

section
namespace Go.Rd
set_option linter.unusedVariables false
theorem tb_t {p : Prop} (h : p) : tb p = true := tb_of h
theorem tb_f {p : Prop} (h : ¬ p) : tb p = false := tb_nof h

def tgtAt (t : Tgt) (i : Nat) : Prop := 1 ≤ sel3 t.u0 t.u1 t.u2 i ∧ sel3 t.u0 t.u1 t.u2 i ≤ 4 ∧ 1 ≤ sel3 t.w0 t.w1 t.w2 i ∧ sel3 t.w0 t.w1 t.w2 i ≤ 6
theorem tgtAt_all (t : Tgt) : (∀ i, i < 3 → tgtAt t i) ↔ ((1 ≤ t.u0 ∧ t.u0 ≤ 4 ∧ 1 ≤ t.w0 ∧ t.w0 ≤ 6) ∧ (1 ≤ t.u1 ∧ t.u1 ≤ 4 ∧ 1 ≤ t.w1 ∧ t.w1 ≤ 6) ∧ (1 ≤ t.u2 ∧ t.u2 ≤ 4 ∧ 1 ≤ t.w2 ∧ t.w2 ≤ 6)) := by
  constructor
  · intro h
    exact ⟨h 0 (by omega), h 1 (by omega), h 2 (by omega)⟩
  · rintro ⟨h0, h1, h2⟩ i hi
    match i, hi with
    | 0, _ => exact h0
    | 1, _ => exact h1
    | 2, _ => exact h2
theorem tgt_step (t : Tgt) (i : Nat) (hi : i < 3) (f : Int → Option (Stp Int Bool)) (hf : f i = br (decide ((i : Int) < 3)) (
    ck (IX (i : Int) 3) <| ck ((!(decide ((sel3 t.u0 t.u1 t.u2 i) < 1))) = true → IX (i : Int) 3) <| ck ((!((decide ((sel3 t.u0 t.u1 t.u2 i) < 1)) || (decide ((sel3 t.u0 t.u1 t.u2 i) > 4)))) = true → IX (i : Int) 3) <|
    ck ((!(((decide ((sel3 t.u0 t.u1 t.u2 i) < 1)) || (decide ((sel3 t.u0 t.u1 t.u2 i) > 4))) || (decide ((sel3 t.w0 t.w1 t.w2 i) < 1)))) = true → IX (i : Int) 3) <|
    br ((((decide ((sel3 t.u0 t.u1 t.u2 i) < 1)) || (decide ((sel3 t.u0 t.u1 t.u2 i) > 4))) || (decide ((sel3 t.w0 t.w1 t.w2 i) < 1))) || (decide ((sel3 t.w0 t.w1 t.w2 i) > 6))) (some (.ret false)) (ck (IR ((i : Int) + 1)) <| some (.next ((i : Int) + 1)))) (some (.brk (i : Int)))) :
    (tgtAt t i → f i = some (.next ((i : Int) + 1))) ∧ (¬ tgtAt t i → f i = some (.ret false)) := by
  have hix : IX (i : Int) 3 := ⟨by omega, by omega⟩
  rw [hf, br_T (by omega), ck_yes hix, ck_imp (fun _ => hix), ck_imp (fun _ => hix), ck_imp (fun _ => hix), ck_IR (by omega) (by omega)]
  unfold tgtAt
  constructor
  · intro h
    have : ((((decide ((sel3 t.u0 t.u1 t.u2 i) < 1)) || (decide ((sel3 t.u0 t.u1 t.u2 i) > 4))) || (decide ((sel3 t.w0 t.w1 t.w2 i) < 1))) || (decide ((sel3 t.w0 t.w1 t.w2 i) > 6))) = false := by
      simp only [Bool.or_eq_false_iff, decide_eq_false_iff_not]; omega
    rw [this]; rfl
  · intro h
    have : ((((decide ((sel3 t.u0 t.u1 t.u2 i) < 1)) || (decide ((sel3 t.u0 t.u1 t.u2 i) > 4))) || (decide ((sel3 t.w0 t.w1 t.w2 i) < 1))) || (decide ((sel3 t.w0 t.w1 t.w2 i) > 6))) = true := by
      simp only [Bool.or_eq_true, decide_eq_true_eq]; omega
    rw [this]; rfl
theorem target_May_s (t : Tgt) : target_May_m t = some (tgtOk t) := by
  unfold target_May_m
  have ha := tgtAt_all t
  rcases lp_all (f := target_May_L0 t) (n := 3) (p := tgtAt t) (fun i hi _ => tgt_step t i hi _ rfl) (by unfold target_May_L0; exact br_F (by omega)) with ⟨h, e⟩ | ⟨h, e⟩
  · rw [e, bd_ret, Out.on_go]
    congr 1
    rw [ha] at h
    unfold tgtOk
    rw [← Bool.decide_and]
    exact decide_eq_decide.2 ⟨fun h' => ⟨h.1, h.2.1, h.2.2, h'⟩, fun h' => h'.2.2.2⟩
  · rw [e, bd_ret, Out.on_ret]
    congr 1
    rw [ha] at h
    exact (tgtOk_not.2 fun h' => h ⟨h'.1, h'.2.1, h'.2.2.1⟩).symm
theorem ref_tMay_s (t : Tgt) : roundelayref4_May_m t = some (tgtOk t) := by
  unfold roundelayref4_May_m
  have ha := tgtAt_all t
  rcases lp_all (f := roundelayref4_May_L0 t) (n := 3) (p := tgtAt t) (fun i hi _ => tgt_step t i hi _ rfl) (by unfold roundelayref4_May_L0; exact br_F (by omega)) with ⟨h, e⟩ | ⟨h, e⟩
  · rw [e, bd_ret, Out.on_go]
    congr 1
    rw [ha] at h
    unfold tgtOk
    rw [← Bool.decide_and]
    exact decide_eq_decide.2 ⟨fun h' => ⟨h.1, h.2.1, h.2.2, h'⟩, fun h' => h'.2.2.2⟩
  · rw [e, bd_ret, Out.on_ret]
    congr 1
    rw [ha] at h
    exact (tgtOk_not.2 fun h' => h ⟨h'.1, h'.2.1, h'.2.2.1⟩).symm
theorem target_Wait_s (t : Tgt) (op : Int) : target_Wait_m t op = some (waitV t op) := by
  have hc := clsV_range op
  unfold target_Wait_m waitV
  rw [target_May_s, bd_ret]
  cases h : tgtOk t with
  | true => simp only [Bool.not_true, br_false, if_true]; rw [num_Class_s, bd_ret, ck_IX hc.1 hc.2]
  | false => rfl
theorem ref_Wait_s (t : Tgt) (op : Int) : roundelayref4_Wait_m t op = some (waitV t op) := by
  have hc := clsV_range op
  unfold roundelayref4_Wait_m waitV
  rw [ref_tMay_s, bd_ret]
  cases h : tgtOk t with
  | true => simp only [Bool.not_true, br_false, if_true]; rw [ref_Class_s, bd_ret, ck_IX hc.1 hc.2]
  | false => rfl

theorem Uses_s (s : Stm) : loop_Uses_m s = some (usesL s) := by
  unfold loop_Uses_m usesL
  simp only [br_eq, beq_iff_eq, decide_eq_true_eq]
  (repeat' split) <;> rfl
theorem ref_Uses_s (s : Stm) : roundelayref2_Uses_m s = some (usesL s) := by
  unfold roundelayref2_Uses_m usesL
  simp only [br_eq, beq_iff_eq, decide_eq_true_eq]
  (repeat' split) <;> rfl
theorem ref_s (l : Lp) (k : Int) (r : Rf) : loop_ref_m l k r = some (tb (RefOk l.body.length k r)) := by
  unfold loop_ref_m loop_in_m bdG
  simp only [bd_ret, br_eq, beq_iff_eq]
  by_cases h0 : r.bk = 0
  · rw [if_pos h0, h0]
    simp only [show ((0 : Int) ≥ 0) from by omega, show ((0 : Int) < 4) from by omega, decide_true, Bool.and_self, if_true, Bool.true_and]
    congr 1
    refine tb_eq ?_
    simp only [Bool.and_eq_true, decide_eq_true_eq]
    unfold RefOk
    omega
  · rw [if_neg h0]
    by_cases h1 : 0 ≤ r.bk ∧ r.bk < 4
    · simp only [show r.bk ≥ 0 from h1.1, h1.2, decide_true, Bool.and_self, if_true, Bool.true_and]
      congr 1
      refine tb_eq ?_
      simp only [Bool.and_eq_true, decide_eq_true_eq]
      unfold RefOk ln
      omega
    · have : (decide (r.bk ≥ 0) && decide (r.bk < 4)) = false := by
        simp only [Bool.and_eq_false_iff, decide_eq_false_iff_not]; omega
      rw [this]
      simp only [Bool.false_eq_true, if_false, Bool.false_and]
      congr 1
      exact (tb_f (by unfold RefOk; omega)).symm
structure Lp.Fine (l : Lp) : Prop where
  rlogs : ∀ x ∈ l.logs, InR x
  rbody : ∀ x ∈ l.body, x.InR
  routs : ∀ x ∈ l.outs, InR x
  llogs : l.logs.length ≤ maxLen
  lbody : l.body.length ≤ maxLen
  louts : l.outs.length ≤ maxLen
theorem LpRep.fine {w : World} {v1 v2 v3 : Value} {l : Lp} (h : LpRep w v1 v2 v3 l) : l.Fine := ⟨h.rlogs, h.rbody, h.routs, h.llogs, h.lbody, h.louts⟩
theorem maxLen_eq : maxLen = 9223372036854775807 := rfl
theorem zero2 (r : Rf) : ([r.st, r.bk] == [(0 : Int), 0]) = tb r.isZero := by
  refine tb_eq ?_
  simp [Rf.isZero]
theorem stmt_uses (l : Lp) (k : Int) (s : Stm) (hx : l.body.length ≤ maxLen) : (UsesTo l.body.length k (usesL s).length s ∧ lp (loop_stmt_L0 l k (usesL s)) 0 = some (.go ((usesL s).length : Int))) ∨
    (¬ UsesTo l.body.length k (usesL s).length s ∧ lp (loop_stmt_L0 l k (usesL s)) 0 = some (.ret false)) := by
  have hl := usesL_len s
  have := lp_all (f := loop_stmt_L0 l k (usesL s)) (n := (usesL s).length) (p := fun i => RefOk l.body.length k ((usesL s).getD i Rf.zero)) (fun i hi _ => by
    have e : loop_stmt_L0 l k (usesL s) i = br (!tb (RefOk l.body.length k ((usesL s).getD i Rf.zero))) (some (.ret false)) (some (.next ((i : Int) + 1))) := by
      unfold loop_stmt_L0
      rw [br_T (by unfold ln; omega), ck_IX (by omega) (by unfold ln; omega), ref_s, bd_ret, ck_IR (by omega) (by omega)]
      rfl
    constructor
    · intro h; rw [e, tb_t h]; rfl
    · intro h; rw [e, tb_f h]; rfl) (by unfold loop_stmt_L0; exact br_F (by unfold ln; omega))
  rcases this with ⟨h, e⟩ | ⟨h, e⟩
  · exact .inl ⟨fun j hj hj2 => h j hj2, e⟩
  · exact .inr ⟨fun h' => h fun i hi => h' i (by omega) hi, e⟩
theorem stillB (s : Stm) : ((s.ar == 0 && s.sp == 0) && s.pl == 0) = tb (StillOk s) := by
  refine tb_eq ?_
  simp [StillOk, and_assoc]
theorem wordB (nl : Int) (s : Stm) : (((decide (s.ar ≥ 0) && decide (s.ar < nl)) && (decide (s.sp ≥ -64) && decide (s.sp < 65))) && (decide (s.pl ≥ -64) && decide (s.pl < 65))) = tb (WordOk nl s) := by
  refine tb_eq ?_
  simp only [Bool.and_eq_true, decide_eq_true_eq]
  unfold WordOk
  omega
theorem tb_and {p q : Prop} : (tb p && tb q) = tb (p ∧ q) := by
  refine tb_eq ?_
  rw [Bool.and_eq_true, tb_iff, tb_iff]
theorem stmt_s (l : Lp) (k : Nat) (hk : k < l.body.length) (hf : l.Fine) : loop_stmt_m l k = some (tb (StmtOk l.logs.length l.body.length k (ele l.body k))) := by
  have hR : (ele l.body k).InR := ele_all hf.rbody hk
  have hop := hR.1
  unfold Rd.InR at hop
  have hl := hf.lbody
  rw [maxLen_eq] at hl
  generalize hs : ele l.body k = s at *
  have hs' : (Stm.mk s.op s.a s.b s.ar s.sp s.pl s.n) = s := rfl
  unfold loop_stmt_m
  rw [ck_IX (by omega) (by unfold ln; omega), hs, hs', Uses_s]
  unfold loop_in_m
  simp only [bd_ret, bdG_some']
  rcases stmt_uses l k s hf.lbody with ⟨hu, e⟩ | ⟨hu, e⟩
  · rw [e]
    simp only [bd_ret, Out.on_go]
    rw [tb_congr (stmt_rest (nl := l.logs.length) hu (by omega)), stillB, zero2, zero2]
    have w : ∀ A B C : Bool, ((A && (if A = true then B else false)) && (if (A && (if A = true then B else false)) = true then C else false)) = ((A && B) && C) := by decide
    rw [w, show ln l.logs = (l.logs.length : Int) from rfl, wordB]
    simp only [br_eq, beq_iff_eq, bne_iff_ne]
    by_cases h1 : s.op = 1
    · rw [if_pos h1, tb_congr (rest_1 h1), tb_and, tb_and, tb_congr (and_assoc)]
    · rw [if_neg h1]
      by_cases hn : s.n = 0
      · rw [if_neg (by simpa using hn)]
        by_cases h2 : s.op = 2
        · rw [if_pos h2, tb_congr (rest_2 h2 hn), tb_and, tb_and, tb_congr (and_assoc)]
        · rw [if_neg h2]
          by_cases h3 : s.op = 3
          · rw [if_pos h3, tb_congr (rest_3 h3 hn), tb_and, tb_and, tb_congr (and_assoc)]
          · rw [if_neg h3]
            by_cases h4 : s.op = 4
            · rw [if_pos h4, tb_congr (rest_4 h4 hn), tb_and]
            · rw [if_neg h4, tb_congr (rest_5 h1 h2 h3 h4 hn)]
              have ho := op_sub10 hop
              have e1 : (decide (IntKind.i64.wrap (s.op - 10) ≥ 1) && decide (IntKind.i64.wrap (s.op - 10) < 9)) = tb (11 ≤ s.op ∧ s.op ≤ 18) := by
                refine tb_eq ?_
                rw [Bool.and_eq_true, decide_eq_true_eq, decide_eq_true_eq]
                exact ho
              rw [e1]
              by_cases hst : StillOk s
              · rw [tb_t hst, if_pos rfl, Bool.true_and]
                congr 1
                exact tb_congr ⟨fun h => ⟨hst, h⟩, fun h => h.2⟩
              · rw [tb_f hst, Bool.false_and]
                congr 1
                exact (tb_f fun h => hst h.1).symm
      · rw [if_pos (by simpa using hn)]
        congr 1
        exact (tb_f (rest_n h1 hn)).symm
  · rw [e]
    simp only [bd_ret, Out.on_ret]
    congr 1
    refine (tb_f fun h => hu fun j hj hj2 => ?_).symm
    exact (uses_all.2 ⟨h.1, h.2.1⟩) j hj2

def LogAt (l : Lp) (j : Nat) : Prop := 0 ≤ l.logs.getD j 0 ∧ l.logs.getD j 0 ≤ 5
theorem logs_to {l : Lp} : LogsTo l l.logs.length ↔ ∀ i, i < l.logs.length → LogAt l i := ⟨fun h i hi => h i (by omega), fun h j hj => h j (by omega)⟩
def BodyAt (l : Lp) (j : Nat) : Prop := StmtOk l.logs.length l.body.length j (l.body.getD j Stm.zero)
theorem body_to {l : Lp} : BodyTo l l.body.length ↔ ∀ i, i < l.body.length → BodyAt l i := ⟨fun h i hi => h i (by omega), fun h j hj => h j (by omega)⟩
theorem ele_int (l : List Int) (i : Nat) : ele l (i : Int) = l.getD i 0 := rfl
theorem ele_stm (l : List Stm) (i : Nat) : ele l (i : Int) = l.getD i Stm.zero := rfl
theorem logs_s (l : Lp) (hf : l.Fine) : (LogsTo l l.logs.length ∧ lp (loop_May_L0 l) 0 = some (.go (l.logs.length : Int))) ∨ (¬ LogsTo l l.logs.length ∧ lp (loop_May_L0 l) 0 = some (.ret false)) := by
  have hl := hf.llogs
  rw [maxLen_eq] at hl
  rw [logs_to]
  refine lp_all (fun i hi _ => ?_) (by unfold loop_May_L0; exact br_F (by unfold ln; omega))
  have e : loop_May_L0 l i = br (!(decide (l.logs.getD i 0 ≥ 0) && decide (l.logs.getD i 0 < 6))) (some (.ret false)) (some (.next ((i : Int) + 1))) := by
    unfold loop_May_L0 loop_in_m
    rw [br_T (by unfold ln; omega), ck_IX (by omega) (by unfold ln; omega), bd_ret, ck_IR (by omega) (by omega)]
    rfl
  rw [e]
  constructor
  · intro h
    rw [show (decide (l.logs.getD i 0 ≥ 0) && decide (l.logs.getD i 0 < 6)) = true from by simp only [Bool.and_eq_true, decide_eq_true_eq]; unfold LogAt at h; omega]; rfl
  · intro h
    rw [show (decide (l.logs.getD i 0 ≥ 0) && decide (l.logs.getD i 0 < 6)) = false from by simp only [Bool.and_eq_false_iff, decide_eq_false_iff_not]; unfold LogAt at h; omega]; rfl
theorem outs_s (l : Lp) (hf : l.Fine) : ∀ (m i : Nat), i + m = l.outs.length → OutsTo l i →
    (OutsTo l l.outs.length ∧ ∃ x, lp (loop_May_L2 l) (lastOut l i, i) = some (.go (x, (l.outs.length : Int)))) ∨ (¬ OutsTo l l.outs.length ∧ lp (loop_May_L2 l) (lastOut l i, i) = some (.ret false))
  | 0, i, h, hp => by
    have hi : i = l.outs.length := by omega
    subst hi
    exact .inl ⟨hp, _, lp_brk (by unfold loop_May_L2; exact br_F (by unfold ln; omega))⟩
  | m + 1, i, h, hp => by
    have hl := hf.louts
    have hb := hf.lbody
    rw [maxLen_eq] at hl hb
    have hlo := lastOut_bd (by omega) hp
    have hst := out_step (l := l) (i := i) (by omega) hp
    rw [Int.toNat_natCast] at hst
    have e : loop_May_L2 l (lastOut l i, i) = br (!(decide (l.outs.getD i 0 ≥ lastOut l i + 1) && decide (l.outs.getD i 0 < l.body.length))) (some (.ret false)) (some (.next (l.outs.getD i 0, (i : Int) + 1))) := by
      unfold loop_May_L2 loop_in_m
      simp only
      rw [br_T (by unfold ln; omega), ck_IX (by omega) (by unfold ln; omega), ck_IR (by omega) (by omega), bd_ret, ck_IR (by omega) (by omega)]
      rfl
    by_cases hc : lastOut l i + 1 ≤ l.outs.getD i 0 ∧ l.outs.getD i 0 < l.body.length
    · have hc' : (decide (l.outs.getD i 0 ≥ lastOut l i + 1) && decide (l.outs.getD i 0 < l.body.length)) = true := by simp only [Bool.and_eq_true, decide_eq_true_eq]; exact hc
      rw [hc', Bool.not_true, br_false] at e
      have hnext : OutsTo l ((i : Int) + 1) := to_next hp (by omega) (by rw [Int.toNat_natCast]; exact hst.1 hc)
      have hn := lastOut_next (l := l) (i := i) (by omega)
      rw [Int.toNat_natCast] at hn
      have ih := outs_s l hf m (i + 1) (by omega) hnext
      rw [show ((i + 1 : Nat) : Int) = (i : Int) + 1 from rfl, hn] at ih
      rcases ih with ⟨a, x, b⟩ | ⟨a, b⟩
      · exact .inl ⟨a, x, (lp_next e).trans b⟩
      · exact .inr ⟨a, (lp_next e).trans b⟩
    · have hc' : (decide (l.outs.getD i 0 ≥ lastOut l i + 1) && decide (l.outs.getD i 0 < l.body.length)) = false := by simp only [Bool.and_eq_false_iff, decide_eq_false_iff_not]; omega
      rw [hc', Bool.not_false, br_true] at e
      exact .inr ⟨fun h' => hc (hst.2 (h' i (by omega))), lp_ret e⟩
theorem body_s (l : Lp) (hf : l.Fine) (hle : l.body.length ≤ 16) : (BodyTo l l.body.length ∧ lp (loop_May_L4 l) 0 = some (.go (l.body.length : Int))) ∨ (¬ BodyTo l l.body.length ∧ lp (loop_May_L4 l) 0 = some (.ret false)) := by
  rw [body_to]
  refine lp_all (fun i hi _ => ?_) (by unfold loop_May_L4; exact br_F (by unfold ln; omega))
  have e : loop_May_L4 l i = br (!tb (BodyAt l i)) (some (.ret false)) (some (.next ((i : Int) + 1))) := by
    have h16 : ¬ ln l.body > 16 := by unfold ln; omega
    unfold loop_May_L4
    rw [br_T (by unfold ln; omega), stmt_s l i hi hf, decide_eq_false h16, ck_IR (by omega) (by omega), ele_stm]
    simp only [Bool.not_false, bdG_t, bd_ret, Bool.false_or, BodyAt]
  rw [e]
  exact ⟨fun h => by rw [tb_t h]; rfl, fun h => by rw [tb_f h]; rfl⟩
theorem May_s (l : Lp) (hf : l.Fine) : loop_May_m l = some (tb (LoopOk l)) := by
  unfold loop_May_m
  rcases logs_s l hf with ⟨h1, e1⟩ | ⟨h1, e1⟩
  · rw [e1, bd_ret, Out.on_go]
    have h0 := outs_s l hf l.outs.length 0 (by omega) (to_zero)
    rw [show lastOut l ((0 : Nat) : Int) = -1 from rfl] at h0
    rcases h0 with ⟨h2, x, e2⟩ | ⟨h2, e2⟩
    · rw [show ((-1 : Int), (0 : Int)) = (-1, ((0 : Nat) : Int)) from rfl, e2, bd_ret, Out.on_go]
      simp only
      by_cases h16 : l.body.length ≤ 16
      · rcases body_s l hf h16 with ⟨h3, e3⟩ | ⟨h3, e3⟩
        · rw [e3, bd_ret, Out.on_go]
          congr 1
          refine tb_eq ?_
          simp only [Bool.and_eq_true, decide_eq_true_eq]
          unfold ln
          exact ⟨fun h => ⟨by omega, by omega, h16, h1, h2, h3⟩, fun h => ⟨by have := h.1; omega, by have := h.2.1; omega⟩⟩
        · rw [e3, bd_ret, Out.on_ret]
          congr 1
          exact (tb_f fun h => h3 h.2.2.2.2.2).symm
      · have : loop_May_L4 l 0 = some (.ret false) := by
          unfold loop_May_L4
          rw [br_T (by unfold ln; omega), show (decide (ln l.body > 16)) = true from decide_eq_true (by unfold ln; omega)]
          rfl
        rw [lp_ret this, bd_ret, Out.on_ret]
        congr 1
        exact (tb_f fun h => h16 h.2.2.1).symm
    · rw [show ((-1 : Int), (0 : Int)) = (-1, ((0 : Nat) : Int)) from rfl, e2, bd_ret, Out.on_ret]
      congr 1
      exact (tb_f fun h => h2 h.2.2.2.2.1).symm
  · rw [e1, bd_ret, Out.on_ret]
    congr 1
    exact (tb_f fun h => h1 h.2.2.2.1).symm

theorem ref_uses (l : Lp) (k : Int) (s : Stm) (hx : l.body.length ≤ maxLen) (hk : 0 ≤ k) (hk2 : k ≤ l.body.length) : (UsesTo l.body.length k (usesL s).length s ∧ lp (roundelayref2_stmt_L0 l k (usesL s)) 0 = some (.go ((usesL s).length : Int))) ∨
    (¬ UsesTo l.body.length k (usesL s).length s ∧ lp (roundelayref2_stmt_L0 l k (usesL s)) 0 = some (.ret false)) := by
  have hl := usesL_len s
  rw [maxLen_eq] at hx
  have := lp_all (f := roundelayref2_stmt_L0 l k (usesL s)) (n := (usesL s).length) (p := fun i => RefOk l.body.length k ((usesL s).getD i Rf.zero)) (fun i hi _ => by
    have hix : IX (i : Int) (ln (usesL s)) := ⟨by omega, by unfold ln; omega⟩
    have e : roundelayref2_stmt_L0 l k (usesL s) i = br (!tb (RefOk l.body.length k ((usesL s).getD i Rf.zero))) (some (.ret false)) (some (.next ((i : Int) + 1))) := by
      unfold roundelayref2_stmt_L0 roundelayref2_Within_m
      rw [show ele (usesL s) (i : Int) = (usesL s).getD i Rf.zero from rfl]
      generalize (usesL s).getD i Rf.zero = r
      rw [br_T (by unfold ln; omega), ck_IR (by unfold ln; omega) (by unfold ln; omega), ck_yes hix]
      simp only [bd_ret, bdG_some', Bool.not_not]
      rw [ck_yes hix, ck_imp (fun _ => hix), ck_yes hix, ck_imp (fun _ => hix), ck_IR (by omega) (by omega), ck_IR (by omega) (by omega)]
      have hb : ∀ b : Bool, (!b || !(if b = true then (decide (r.st ≥ 0) && decide (r.st ≤ k - 1)) else false)) = !(b && (decide (r.st ≥ 0) && decide (r.st ≤ k - 1))) := fun b => by cases b <;> simp
      have hb2 : ∀ b : Bool, (!b || !(if b = true then (decide (r.st ≥ 0) && decide (r.st ≤ ln l.body - 1)) else false)) = !(b && (decide (r.st ≥ 0) && decide (r.st ≤ ln l.body - 1))) := fun b => by cases b <;> simp
      rw [hb, hb2]
      rw [br_eq]
      simp only [beq_iff_eq]
      have q : ∀ {b : Bool} {p : Prop}, (b = true ↔ p) → br (!b) (some (Stp.ret false)) (some (Stp.next ((i : Int) + 1))) = br (!tb p) (some (.ret false)) (some (.next ((i : Int) + 1))) := fun h => by rw [tb_eq h]
      split
      · refine q ?_
        simp only [Bool.and_eq_true, decide_eq_true_eq]
        unfold RefOk; omega
      · refine q ?_
        simp only [Bool.and_eq_true, decide_eq_true_eq]
        unfold RefOk ln; omega
    constructor
    · intro h; rw [e, tb_t h]; rfl
    · intro h; rw [e, tb_f h]; rfl) (by unfold roundelayref2_stmt_L0; exact br_F (by unfold ln; omega))
  rcases this with ⟨h, e⟩ | ⟨h, e⟩
  · exact .inl ⟨fun j hj hj2 => h j hj2, e⟩
  · exact .inr ⟨fun h' => h fun i hi => h' i (by omega) hi, e⟩
theorem zerosB (s : Stm) : ((decide (ln (usesL s) < 2) && ((s.b.st != 0) || (s.b.bk != 0))) || (decide (ln (usesL s) < 1) && ((s.a.st != 0) || (s.a.bk != 0)))) = !tb (Zeros s) := by
  have : (!((decide (ln (usesL s) < 2) && ((s.b.st != 0) || (s.b.bk != 0))) || (decide (ln (usesL s) < 1) && ((s.a.st != 0) || (s.a.bk != 0))))) = tb (Zeros s) := by
    refine tb_eq ?_
    unfold Zeros Rf.isZero ln
    simp only [Bool.not_eq_true', Bool.or_eq_false_iff, Bool.and_eq_false_iff, decide_eq_false_iff_not, bne_eq_false_iff_eq]
    omega
  rw [← this, Bool.not_not]
theorem ref_stmt_s (l : Lp) (k : Nat) (hk : k < l.body.length) (hf : l.Fine) : roundelayref2_stmt_m l k = some (tb (StmtOk l.logs.length l.body.length k (ele l.body k))) := by
  have hl := hf.lbody
  have hl2 := hf.llogs
  rw [maxLen_eq] at hl hl2
  generalize hs : ele l.body k = s
  have hs' : (Stm.mk s.op s.a s.b s.ar s.sp s.pl s.n) = s := rfl
  unfold roundelayref2_stmt_m
  rw [ck_IX (by omega) (by unfold ln; omega), hs, hs', ref_Uses_s]
  unfold roundelayref2_Within_m
  simp only [bd_ret, bdG_some']
  rcases ref_uses l k s hf.lbody (by omega) (by omega) with ⟨hu, e⟩ | ⟨hu, e⟩
  · rw [e]
    simp only [bd_ret, Out.on_go]
    rw [tb_congr (stmt_rest (nl := l.logs.length) hu (by omega)), zerosB, ck_IR (by unfold ln; omega) (by unfold ln; omega)]
    by_cases hz : Zeros s
    · rw [tb_t hz, Bool.not_true, br_false]
      by_cases hn : s.op = 1 ∨ s.n = 0
      · rw [show ((s.op != 1) && (s.n != 0)) = false from by simp; omega, br_false]
        by_cases h34 : s.op = 3 ∨ s.op = 4
        · rw [show ((s.op == 3) || (s.op == 4)) = true from by simpa using h34, br_true, tb_congr (rest_34 h34 hz (by omega))]
          have w : ∀ A B C : Bool, ((A && (if A = true then B else false)) && (if (A && (if A = true then B else false)) = true then C else false)) = ((A && B) && C) := by decide
          rw [w]
          congr 1
          refine tb_eq ?_
          simp only [Bool.and_eq_true, decide_eq_true_eq]
          unfold WordOk ln; omega
        · rw [show ((s.op == 3) || (s.op == 4)) = false from by simp; omega, br_false]
          by_cases hst : StillOk s
          · have hst' := hst
            unfold StillOk at hst'
            rw [show (((s.ar != 0) || (s.sp != 0)) || (s.pl != 0)) = false from by simp [hst'.1, hst'.2.1, hst'.2.2], br_false, tb_congr (rest_end h34 hz hst hn)]
            congr 1
            refine tb_eq ?_
            by_cases h12 : s.op = 1 ∨ s.op = 2
            · simp [h12]; omega
            · simp; omega
          · have hst' := hst
            unfold StillOk at hst'
            rw [show (((s.ar != 0) || (s.sp != 0)) || (s.pl != 0)) = true from by simp; omega, br_true]
            congr 1
            exact (tb_f fun h => hst (rest_still h34 h)).symm
      · rw [show ((s.op != 1) && (s.n != 0)) = true from by simp; omega, br_true]
        congr 1
        exact (tb_f (rest_n (by omega) (by omega))).symm
    · rw [tb_f hz, Bool.not_false, br_true]
      congr 1
      exact (tb_f fun h => hz (rest_zero h)).symm
  · rw [e]
    simp only [bd_ret, Out.on_ret]
    congr 1
    refine (tb_f fun h => hu fun j hj hj2 => ?_).symm
    exact (uses_all.2 ⟨h.1, h.2.1⟩) j hj2
def OutAt (l : Lp) (j : Nat) : Prop := 0 ≤ l.outs.getD j 0 ∧ l.outs.getD j 0 < l.body.length ∧ (∀ m : Nat, j = m + 1 → l.outs.getD m 0 < l.outs.getD j 0)
theorem outs_to {l : Lp} : OutsTo l l.outs.length ↔ ∀ i, i < l.outs.length → OutAt l i := ⟨fun h i hi => h i (by omega), fun h j hj => h j (by omega)⟩
theorem ref_outs (l : Lp) (hf : l.Fine) : (OutsTo l l.outs.length ∧ lp (roundelayref2_May_L2 l) 0 = some (.go (l.outs.length : Int))) ∨ (¬ OutsTo l l.outs.length ∧ lp (roundelayref2_May_L2 l) 0 = some (.ret false)) := by
  have hl := hf.louts
  have hb := hf.lbody
  rw [maxLen_eq] at hl hb
  rw [outs_to]
  refine lp_all (fun i hi _ => ?_) (by unfold roundelayref2_May_L2; exact br_F (by unfold ln; omega))
  have hix : IX (i : Int) (ln l.outs) := ⟨by omega, by unfold ln; omega⟩
  have e : roundelayref2_May_L2 l i = br (!tb (OutAt l i)) (some (.ret false)) (some (.next ((i : Int) + 1))) := by
    unfold roundelayref2_May_L2 roundelayref2_Within_m
    rw [br_T (by unfold ln; omega), ck_yes hix, ck_IR (by unfold ln; omega) (by unfold ln; omega), bd_ret, ck_imp (fun _ => hix), ck_imp (fun h => ⟨by omega, by omega⟩), ck_imp (fun h => ⟨by simp at h; omega, by unfold ln; omega⟩), ck_IR (by omega) (by omega)]
    have : ((!(decide (ele l.outs (i : Int) ≥ 0) && decide (ele l.outs (i : Int) ≤ ln l.body - 1))) || (decide ((i : Int) > 0) && decide (ele l.outs (i : Int) ≤ ele l.outs ((i : Int) - 1)))) = !tb (OutAt l i) := by
      have : (!((!(decide (ele l.outs (i : Int) ≥ 0) && decide (ele l.outs (i : Int) ≤ ln l.body - 1))) || (decide ((i : Int) > 0) && decide (ele l.outs (i : Int) ≤ ele l.outs ((i : Int) - 1))))) = tb (OutAt l i) := by
        refine tb_eq ?_
        rw [ele_int]
        unfold OutAt ln
        cases i with
        | zero => simp; omega
        | succ m =>
          have e2 : ((m + 1 : Nat) : Int) - 1 = (m : Int) := by omega
          rw [e2, ele_int]
          simp
          constructor <;> intro h <;> omega
      rw [← this, Bool.not_not]
    rw [this]
  rw [e]
  exact ⟨fun h => by rw [tb_t h]; rfl, fun h => by rw [tb_f h]; rfl⟩
theorem ref_logs (l : Lp) (hf : l.Fine) : (LogsTo l l.logs.length ∧ lp (roundelayref2_May_L0 l) 0 = some (.go (l.logs.length : Int))) ∨ (¬ LogsTo l l.logs.length ∧ lp (roundelayref2_May_L0 l) 0 = some (.ret false)) := by
  have hl := hf.llogs
  rw [maxLen_eq] at hl
  rw [logs_to]
  refine lp_all (fun i hi _ => ?_) (by unfold roundelayref2_May_L0; exact br_F (by unfold ln; omega))
  have e : roundelayref2_May_L0 l i = br (!(decide (l.logs.getD i 0 ≥ 0) && decide (l.logs.getD i 0 ≤ 5))) (some (.ret false)) (some (.next ((i : Int) + 1))) := by
    unfold roundelayref2_May_L0 roundelayref2_Within_m
    rw [br_T (by unfold ln; omega), ck_IX (by omega) (by unfold ln; omega), bd_ret, ck_IR (by omega) (by omega)]
    rfl
  rw [e]
  constructor
  · intro h
    rw [show (decide (l.logs.getD i 0 ≥ 0) && decide (l.logs.getD i 0 ≤ 5)) = true from by simp only [Bool.and_eq_true, decide_eq_true_eq]; unfold LogAt at h; omega]; rfl
  · intro h
    rw [show (decide (l.logs.getD i 0 ≥ 0) && decide (l.logs.getD i 0 ≤ 5)) = false from by simp only [Bool.and_eq_false_iff, decide_eq_false_iff_not]; unfold LogAt at h; omega]; rfl
theorem ref_body (l : Lp) (hf : l.Fine) : (BodyTo l l.body.length ∧ lp (roundelayref2_May_L4 l) 0 = some (.go (l.body.length : Int))) ∨ (¬ BodyTo l l.body.length ∧ lp (roundelayref2_May_L4 l) 0 = some (.ret false)) := by
  have hb := hf.lbody
  rw [maxLen_eq] at hb
  rw [body_to]
  refine lp_all (fun i hi _ => ?_) (by unfold roundelayref2_May_L4; exact br_F (by unfold ln; omega))
  have e : roundelayref2_May_L4 l i = br (!tb (BodyAt l i)) (some (.ret false)) (some (.next ((i : Int) + 1))) := by
    unfold roundelayref2_May_L4
    rw [br_T (by unfold ln; omega), ref_stmt_s l i hi hf, bd_ret, ck_IR (by omega) (by omega)]
    rfl
  rw [e]
  exact ⟨fun h => by rw [tb_t h]; rfl, fun h => by rw [tb_f h]; rfl⟩
theorem ref_May_s (l : Lp) (hf : l.Fine) : roundelayref2_May_m l = some (tb (LoopOk l)) := by
  unfold roundelayref2_May_m
  by_cases h0 : l.logs.length ≤ 3 ∧ 1 ≤ l.body.length ∧ l.body.length ≤ 16
  · rw [show ((decide (ln l.logs > 3) || decide (ln l.body < 1)) || decide (ln l.body > 16)) = false from by simp only [Bool.or_eq_false_iff, decide_eq_false_iff_not]; unfold ln; omega, br_false]
    rcases ref_logs l hf with ⟨h1, e1⟩ | ⟨h1, e1⟩
    · rw [e1, bd_ret, Out.on_go]
      rcases ref_outs l hf with ⟨h2, e2⟩ | ⟨h2, e2⟩
      · rw [e2, bd_ret, Out.on_go]
        rcases ref_body l hf with ⟨h3, e3⟩ | ⟨h3, e3⟩
        · rw [e3, bd_ret, Out.on_go]
          congr 1
          exact (tb_t ⟨h0.1, h0.2.1, h0.2.2, h1, h2, h3⟩).symm
        · rw [e3, bd_ret, Out.on_ret]
          congr 1
          exact (tb_f fun h => h3 h.2.2.2.2.2).symm
      · rw [e2, bd_ret, Out.on_ret]
        congr 1
        exact (tb_f fun h => h2 h.2.2.2.2.1).symm
    · rw [e1, bd_ret, Out.on_ret]
      congr 1
      exact (tb_f fun h => h1 h.2.2.2.1).symm
  · rw [show ((decide (ln l.logs > 3) || decide (ln l.body < 1)) || decide (ln l.body > 16)) = true from by simp only [Bool.or_eq_true, decide_eq_true_eq]; unfold ln; omega, br_true]
    congr 1
    exact (tb_f fun h => h0 ⟨h.1, h.2.1, h.2.2.1⟩).symm
theorem ele_rows (l : List (List Int)) (i : Nat) : ele l (i : Int) = l.getD i [] := rfl
theorem LoopOk.log {l : Lp} (h : LoopOk l) (i : Nat) (hi : i < l.logs.length) : 0 ≤ l.logs.getD i 0 ∧ l.logs.getD i 0 ≤ 5 := h.2.2.2.1 i (by omega)
theorem LoopOk.out {l : Lp} (h : LoopOk l) (i : Nat) (hi : i < l.outs.length) : 0 ≤ l.outs.getD i 0 ∧ l.outs.getD i 0 < l.body.length := ⟨(h.2.2.2.2.1 i (by omega)).1, (h.2.2.2.2.1 i (by omega)).2.1⟩
theorem LoopOk.stm {l : Lp} (h : LoopOk l) (i : Nat) (hi : i < l.body.length) : StmtOk l.logs.length l.body.length i (l.body.getD i Stm.zero) := h.2.2.2.2.2 i (by omega)
theorem neB {a b : Int} : (a != b) = !tb (a = b) := by
  have : (!(a != b)) = tb (a = b) := tb_eq (by simp)
  rw [← this, Bool.not_not]
theorem outs_len {l : Lp} (h : LoopOk l) : l.outs.length ≤ 16 := by
  have h5 := h.2.2.2.2.1
  have key : ∀ i : Nat, i < l.outs.length → (i : Int) ≤ l.outs.getD i 0 := by
    intro i
    induction i with
    | zero => intro hi; exact (h5 0 (by omega)).1
    | succ i ih =>
      intro hi
      have h1 := ih (by omega)
      have h2 := (h5 (i + 1) (by omega)).2.2 i rfl
      omega
  rcases Nat.lt_or_ge 16 l.outs.length with hlt | hge
  · have h1 := key 16 hlt
    have h2 := (h5 16 (by omega)).2.1
    have := h.2.2.1
    omega
  · exact hge
theorem AL8 {n : Nat} (h : n ≤ 100000) : AL n 8 := ⟨by rw [maxLen_eq]; omega, by omega⟩
theorem AL24 {n : Nat} (h : n ≤ 100000) : AL n 24 := ⟨by rw [maxLen_eq]; omega, by omega⟩
end Go.Rd
end

section
namespace Go.Rd
set_option linter.unusedVariables false
end Go.Rd
end

section
namespace Go.Rd
set_option linter.unusedVariables false
noncomputable def roundelayref3_Numbers_L0 (a : List Int) (b : List Int) : Int → Option (Stp (Int) (Bool)) := fun i5_1 =>
 br (decide (i5_1 < (ln a))) (
 ck (IX i5_1 (ln a)) <|
 ck (IX i5_1 (ln b)) <|
 br ((ele a i5_1) != (ele b i5_1)) (
 some (.ret false)) (
 ck (IR (i5_1 + 1)) <|
 some (.next (i5_1 + 1)))) (
 some (.brk i5_1))
noncomputable def roundelayref3_Numbers_m (a : List Int) (b : List Int) : Option (Bool) :=
 br ((ln a) != (ln b)) (
 some false) (
 bd (lp (roundelayref3_Numbers_L0 a b) 0) fun o4 => o4.on (fun i5_1 =>
 some true) (fun r => some r))
end Go.Rd
end

section
namespace Go.Rd
set_option linter.unusedVariables false
noncomputable def roundelayref3_Words_L0 (a : List (List Int)) (b : List (List Int)) : Int → Option (Stp (Int) (Bool)) := fun i5_1 =>
 br (decide (i5_1 < (ln a))) (
 ck (IX i5_1 (ln a)) <|
 ck (IX i5_1 (ln b)) <|
 bd (roundelayref3_Numbers_m (ele a i5_1) (ele b i5_1)) fun x25 =>
 br (!x25) (
 some (.ret false)) (
 ck (IR (i5_1 + 1)) <|
 some (.next (i5_1 + 1)))) (
 some (.brk i5_1))
noncomputable def roundelayref3_Words_m (a : List (List Int)) (b : List (List Int)) : Option (Bool) :=
 br ((ln a) != (ln b)) (
 some false) (
 bd (lp (roundelayref3_Words_L0 a b) 0) fun o4 => o4.on (fun i5_1 =>
 some true) (fun r => some r))

noncomputable def roundelayref3_is_m (s : Sta) (all : List (List Int)) (r_ : Rf) (turn : Int) : Option (Int) :=
 ck (IR (turn - r_.bk)) <|
 br (decide ((turn - r_.bk) ≥ 0)) (
 ck (IX (turn - r_.bk) (ln all)) <|
 ck (IX r_.st (ln (ele all (turn - r_.bk)))) <|
 some (ele (ele all (turn - r_.bk)) r_.st)) (
 ck (IX r_.st (ln s.bef)) <|
 ck (IR (-(turn - r_.bk))) <|
 ck (IR ((-(turn - r_.bk)) - 1)) <|
 ck (IX ((-(turn - r_.bk)) - 1) (ln (ele s.bef r_.st))) <|
 some (ele (ele s.bef r_.st) ((-(turn - r_.bk)) - 1)))

noncomputable def roundelayref3_Copy_L0 (l : List (List Int)) : ((List (List Int)) × Int) → Option (Stp ((List (List Int)) × Int) (Empty)) := fun (v1_1, i4_1) =>
 br (decide (i4_1 < (ln l))) (
 ck (IX i4_1 (ln l)) <|
 ck (AL ([] ++ (ele l i4_1)).length 8) <|
 ck (AL (v1_1 ++ [([] ++ (ele l i4_1))]).length 24) <|
 ck (IR (i4_1 + 1)) <|
 some (.next ((v1_1 ++ [([] ++ (ele l i4_1))]), (i4_1 + 1)))) (
 some (.brk (v1_1, i4_1)))
noncomputable def roundelayref3_Copy_m (l : List (List Int)) : Option (List (List Int)) :=
 bd (lp (roundelayref3_Copy_L0 l) ([], 0)) fun o2 => o2.on (fun (v1_1, i4_1) =>
 some v1_1) (fun r => r.elim)

noncomputable def roundelayref3_Play_L2 (l : Lp) (s : Sta) (t9_3 : Int) : ((List (List Int)) × (List (List Int)) × Int) → Option (Stp ((List (List Int)) × (List (List Int)) × Int) (Empty)) := fun (v15_4, r8_4, k10_4) =>
 br (decide (k10_4 < (ln l.body))) (
 ck (IX k10_4 (ln l.body)) <|
 br ((ele l.body k10_4).op == 1) (
 ck (IX t9_3 (ln v15_4)) <|
 ck (IX k10_4 (ln (ele v15_4 t9_3))) <|
 ck (IR (k10_4 + 1)) <|
 some (.next ((updG v15_4 t9_3 k10_4 ((ele l.body k10_4).n)), r8_4, (k10_4 + 1)))) (
 br ((ele l.body k10_4).op == 2) (
 ck (IX t9_3 (ln v15_4)) <|
 ck (IX k10_4 (ln (ele v15_4 t9_3))) <|
 ck (IR (k10_4 + 1)) <|
 some (.next ((updG v15_4 t9_3 k10_4 t9_3), r8_4, (k10_4 + 1)))) (
 br ((ele l.body k10_4).op == 3) (
 ck (IX ((ele l.body k10_4).ar) (ln l.logs)) <|
 bd (roundelayref1_Index_m ((ele l.body k10_4).sp) ((ele l.body k10_4).pl) t9_3 (ele l.logs ((ele l.body k10_4).ar))) fun x86 =>
 ck (IX t9_3 (ln v15_4)) <|
 ck (IX ((ele l.body k10_4).ar) (ln r8_4)) <|
 ck (IX x86 (ln (ele r8_4 ((ele l.body k10_4).ar)))) <|
 ck (IX k10_4 (ln (ele v15_4 t9_3))) <|
 ck (IR (k10_4 + 1)) <|
 some (.next ((updG v15_4 t9_3 k10_4 (ele (ele r8_4 ((ele l.body k10_4).ar)) x86)), r8_4, (k10_4 + 1)))) (
 br ((ele l.body k10_4).op == 4) (
 ck (IX ((ele l.body k10_4).ar) (ln l.logs)) <|
 bd (roundelayref1_Index_m ((ele l.body k10_4).sp) ((ele l.body k10_4).pl) t9_3 (ele l.logs ((ele l.body k10_4).ar))) fun x116 =>
 bd (roundelayref3_is_m s v15_4 ((ele l.body k10_4).a) t9_3) fun x119 =>
 ck (IX ((ele l.body k10_4).ar) (ln r8_4)) <|
 ck (IX x116 (ln (ele r8_4 ((ele l.body k10_4).ar)))) <|
 ck (IX t9_3 (ln v15_4)) <|
 ck (IX k10_4 (ln (ele v15_4 t9_3))) <|
 ck (IR (k10_4 + 1)) <|
 some (.next ((updG v15_4 t9_3 k10_4 x119), (updG r8_4 ((ele l.body k10_4).ar) x116 x119), (k10_4 + 1)))) (
 bd (roundelayref3_is_m s v15_4 ((ele l.body k10_4).a) t9_3) fun x145 =>
 bd (roundelayref3_is_m s v15_4 ((ele l.body k10_4).b) t9_3) fun x148 =>
 ck (IX t9_3 (ln v15_4)) <|
 ck (IR ((ele l.body k10_4).op - 10)) <|
 bd (roundelayref1_Op_m ((ele l.body k10_4).op - 10) x145 x148) fun x157 =>
 ck (IX k10_4 (ln (ele v15_4 t9_3))) <|
 ck (IR (k10_4 + 1)) <|
 some (.next ((updG v15_4 t9_3 k10_4 x157), r8_4, (k10_4 + 1)))))))) (
 some (.brk (v15_4, r8_4, k10_4)))
noncomputable def roundelayref3_Play_L0 (l : Lp) (s : Sta) (turns : Int) : ((List (List Int)) × (List (List Int)) × Int) → Option (Stp ((List (List Int)) × (List (List Int)) × Int) (Empty)) := fun (v15_3, r8_3, t9_3) =>
 br (decide (t9_3 < turns)) (
 ck (0 ≤ (ln l.body)) <|
 ck (AL (ln l.body).toNat 8) <|
 ck (IX t9_3 (ln v15_3)) <|
 bd (lp (roundelayref3_Play_L2 l s t9_3) ((upd v15_3 t9_3 (List.replicate (ln l.body).toNat (0 : Int))), r8_3, 0)) fun o38 => o38.on (fun (v15_4, r8_4, k10_4) =>
 ck (IR (t9_3 + 1)) <|
 some (.next (v15_4, r8_4, (t9_3 + 1)))) (fun r => r.elim)) (
 some (.brk (v15_3, r8_3, t9_3)))
noncomputable def roundelayref3_Play_L5 (l : Lp) (s : Sta) (turns : Int) (v15_3 : List (List Int)) : ((List Int) × Int) → Option (Stp ((List Int) × Int) (Empty)) := fun (v24_4, i18_4) =>
 br (decide (i18_4 < (ln l.outs))) (
 ck (IX i18_4 (ln l.outs)) <|
 ck (IX (ele l.outs i18_4) (ln s.bef)) <|
 ck (IX 0 (ln (ele s.bef (ele l.outs i18_4)))) <|
 br (decide (turns > 0)) (
 ck (IR (turns - 1)) <|
 ck (IX (turns - 1) (ln v15_3)) <|
 ck (IX i18_4 (ln l.outs)) <|
 ck (IX (ele l.outs i18_4) (ln (ele v15_3 (turns - 1)))) <|
 ck (AL (v24_4 ++ [(ele (ele v15_3 (turns - 1)) (ele l.outs i18_4))]).length 8) <|
 ck (IR (i18_4 + 1)) <|
 some (.next ((v24_4 ++ [(ele (ele v15_3 (turns - 1)) (ele l.outs i18_4))]), (i18_4 + 1)))) (
 ck (AL (v24_4 ++ [(ele (ele s.bef (ele l.outs i18_4)) 0)]).length 8) <|
 ck (IR (i18_4 + 1)) <|
 some (.next ((v24_4 ++ [(ele (ele s.bef (ele l.outs i18_4)) 0)]), (i18_4 + 1))))) (
 some (.brk (v24_4, i18_4)))
noncomputable def roundelayref3_Play_m (l : Lp) (s : Sta) (turns : Int) : Option (Rst) :=
 bd (roundelayref3_Copy_m s.mem) fun x4 =>
 ck (0 ≤ turns) <|
 ck (AL turns.toNat 24) <|
 bd (lp (roundelayref3_Play_L0 l s turns) ((List.replicate turns.toNat ([] : List Int)), x4, 0)) fun o18 => o18.on (fun (v15_3, r8_3, t9_3) =>
 bd (lp (roundelayref3_Play_L5 l s turns v15_3) ([], 0)) fun o25 => o25.on (fun (v24_4, i18_4) =>
 some (Rst.mk v24_4 r8_3)) (fun r => r.elim)) (fun r => r.elim)
end Go.Rd
end

section
namespace Go.Rd
set_option linter.unusedVariables false
def FitsP (l : Lp) (s : Sta) : Prop := LoopOk l ∧ s.bef.length = l.body.length ∧ s.mem.length = l.logs.length ∧ (∀ i, i < s.bef.length → (s.bef.getD i []).length = 3) ∧ (∀ i, i < s.mem.length → ((s.mem.getD i []).length : Int) = 2 ^ (l.logs.getD i 0).toNat)
def refV (past : List (List Int)) (now : List Int) (x : Rf) : Int := if x.bk = 0 then ele now x.st else ele (ele past (x.bk - 1)) x.st
def stepV (logs : List Int) (past : List (List Int)) (t : Int) (p : List Int × List (List Int)) (s : Stm) : List Int × List (List Int) :=
  if s.op = 1 then (p.1 ++ [s.n], p.2)
  else if s.op = 2 then (p.1 ++ [t], p.2)
  else if s.op = 3 then (p.1 ++ [ele (ele p.2 s.ar) (idx s.sp s.pl t (ele logs s.ar))], p.2)
  else if s.op = 4 then (p.1 ++ [refV past p.1 s.a], updG p.2 s.ar (idx s.sp s.pl t (ele logs s.ar)) (refV past p.1 s.a))
  else (p.1 ++ [opV (s.op - 10) (refV past p.1 s.a) (refV past p.1 s.b)], p.2)
def turnV (l : Lp) (past mem : List (List Int)) (t : Int) : List Int × List (List Int) := l.body.foldl (stepV l.logs past t) ([], mem)
def colV (bef : List (List Int)) (j : Nat) : List Int := bef.map fun b => b.getD j 0
def runV (l : Lp) (s : Sta) : Nat → List (List Int) × List (List Int)
  | 0 => ([colV s.bef 0, colV s.bef 1, colV s.bef 2], s.mem)
  | t + 1 => ((turnV l (runV l s t).1 (runV l s t).2 t).1 :: (runV l s t).1, (turnV l (runV l s t).1 (runV l s t).2 t).2)
def outsV (l : Lp) (s : Sta) (t : Nat) : List Int := l.outs.map fun k => ele (ele (runV l s t).1 0) k

structure MemOk (l : Lp) (m : List (List Int)) : Prop where
  len : m.length = l.logs.length
  row : ∀ i : Nat, i < m.length → ((m.getD i []).length : Int) = 2 ^ (l.logs.getD i 0).toNat
  rng : ∀ r ∈ m, ∀ x ∈ r, InR x
structure RowOk (l : Lp) (r : List Int) : Prop where
  len : r.length = l.body.length
  rng : ∀ x ∈ r, InR x
theorem ele_rng {r : List Int} (h : ∀ x ∈ r, InR x) (i : Int) : InR (ele r i) := getD_all h (by unfold InR; decide) i.toNat
theorem eles_rng {m : List (List Int)} (h : ∀ r ∈ m, ∀ x ∈ r, InR x) (i j : Int) : InR (ele (ele m i) j) := ele_rng (getD_all (p := fun r : List Int => ∀ x ∈ r, InR x) h (fun x hx => by cases hx) i.toNat) j
theorem mem_upd {α : Type} {l : List α} {i : Int} {z x : α} (h : x ∈ upd l i z) : x ∈ l ∨ x = z := List.mem_or_eq_of_mem_set h
theorem ele_mem {m : List (List Int)} {i : Int} {x : Int} (h : x ∈ ele m i) : ∃ r ∈ m, x ∈ r := by
  unfold ele at h
  by_cases hi : i.toNat < m.length
  · rw [List.getD_eq_getElem?_getD, List.getElem?_eq_getElem hi] at h
    exact ⟨_, List.getElem_mem hi, h⟩
  · rw [List.getD_eq_getElem?_getD, List.getElem?_eq_none (by omega)] at h
    cases h
theorem MemOk.updG {l : Lp} {m : List (List Int)} (h : MemOk l m) (i j z : Int) (hz : InR z) : MemOk l (updG m i j z) := by
  refine ⟨by unfold Rd.updG; rw [upd_length]; exact h.len, fun k hk => ?_, fun r hr x hx => ?_⟩
  · unfold Rd.updG at hk ⊢
    rw [upd_length] at hk
    rw [getD_upd]
    split
    · rename_i hh
      rw [upd_length, ele_getD, hh.1]; exact h.row k hk
    · exact h.row k hk
  · unfold Rd.updG at hr
    rcases mem_upd hr with hr | rfl
    · exact h.rng r hr x hx
    · rcases mem_upd hx with hx | rfl
      · obtain ⟨r, hr, hx⟩ := ele_mem hx
        exact h.rng r hr x hx
      · exact hz
theorem refV_rng {past : List (List Int)} {now : List Int} (hp : ∀ r ∈ past, ∀ x ∈ r, InR x) (hn : ∀ x ∈ now, InR x) (x : Rf) : InR (refV past now x) := by
  unfold refV
  split
  · exact ele_rng hn _
  · exact eles_rng hp _ _
theorem opV_rng (op a b : Int) : InR (opV op a b) := opV_bd op a b
theorem snoc_rng {r : List Int} {v : Int} (h : ∀ x ∈ r, InR x) (hv : InR v) : ∀ x ∈ r ++ [v], InR x := fun x hx => by
  rcases List.mem_append.1 hx with h' | h'
  · exact h x h'
  · simp at h'; subst h'; exact hv
theorem stepV_ok {l : Lp} (hf : l.Fine) {past : List (List Int)} {t : Int} (ht : InR t) {p : List Int × List (List Int)} (hp : ∀ r ∈ past, ∀ x ∈ r, InR x) (h1 : ∀ x ∈ p.1, InR x) (h2 : MemOk l p.2) {s : Stm} (hs : s.InR) :
    (stepV l.logs past t p s).1.length = p.1.length + 1 ∧ (∀ x ∈ (stepV l.logs past t p s).1, InR x) ∧ MemOk l (stepV l.logs past t p s).2 := by
  unfold stepV
  split
  · exact ⟨by simp, snoc_rng h1 hs.2.2.2.2.2.2.2.2, h2⟩
  split
  · exact ⟨by simp, snoc_rng h1 ht, h2⟩
  split
  · exact ⟨by simp, snoc_rng h1 (eles_rng h2.rng _ _), h2⟩
  split
  · exact ⟨by simp, snoc_rng h1 (refV_rng hp h1 _), h2.updG _ _ _ (refV_rng hp h1 _)⟩
  · exact ⟨by simp, snoc_rng h1 (opV_rng _ _ _), h2⟩
def partV (l : Lp) (past mem : List (List Int)) (t : Int) (i : Nat) : List Int × List (List Int) := (l.body.take i).foldl (stepV l.logs past t) ([], mem)
theorem partV_next {l : Lp} {past mem : List (List Int)} {t : Int} {i : Nat} (h : i < l.body.length) : partV l past mem t (i + 1) = stepV l.logs past t (partV l past mem t i) (ele l.body i) := by
  unfold partV
  rw [take_next h, List.foldl_append]
  rfl
theorem partV_ok {l : Lp} (hf : l.Fine) {past mem : List (List Int)} {t : Int} (ht : InR t) (hp : ∀ r ∈ past, ∀ x ∈ r, InR x) (hm : MemOk l mem) : ∀ i, i ≤ l.body.length → (partV l past mem t i).1.length = i ∧ (∀ x ∈ (partV l past mem t i).1, InR x) ∧ MemOk l (partV l past mem t i).2
  | 0, _ => ⟨rfl, fun x hx => (by cases hx), hm⟩
  | i + 1, h => by
    obtain ⟨h1, h2, h3⟩ := partV_ok hf ht hp hm i (by omega)
    rw [partV_next (by omega)]
    have := stepV_ok hf ht hp h2 h3 (ele_all (p := Stm.InR) hf.rbody (i := i) (by omega))
    exact ⟨by rw [this.1, h1], this.2⟩
theorem turnV_part (l : Lp) (past mem : List (List Int)) (t : Int) : turnV l past mem t = partV l past mem t l.body.length := by unfold turnV partV; rw [List.take_length]

theorem idx_lt {step plus t log : Int} (h0 : 0 ≤ log) (h5 : log ≤ 5) : 0 ≤ idx step plus t log ∧ idx step plus t log < 2 ^ log.toNat := by
  have hp := two_pow_5 log.toNat (by omega)
  unfold idx
  split
  · exact ⟨Int.emod_nonneg _ (by omega), Int.emod_lt_of_pos _ (by omega)⟩
  · omega
theorem word_ix {l : Lp} (hl : LoopOk l) {m : List (List Int)} (hm : MemOk l m) {s : Stm} (hw : WordOk l.logs.length s) (t : Int) :
    IX s.ar (ln m) ∧ IX s.ar (ln l.logs) ∧ IX (idx s.sp s.pl t (ele l.logs s.ar)) (ln (ele m s.ar)) := by
  have hml := hm.len
  obtain ⟨w1, w2, _⟩ := hw
  have e : ((s.ar.toNat : Nat) : Int) = s.ar := by omega
  have hlg := hl.log s.ar.toNat (by omega)
  have hr := hm.row s.ar.toNat (by omega)
  have hi := idx_lt (step := s.sp) (plus := s.pl) (t := t) hlg.1 hlg.2
  refine ⟨⟨w1, by unfold ln; omega⟩, ⟨w1, by unfold ln; omega⟩, hi.1, ?_⟩
  have : ln (ele m s.ar) = 2 ^ (l.logs.getD s.ar.toNat 0).toNat := hr
  rw [this]
  exact hi.2
theorem rCopy_s {m : List (List Int)} (h1 : m.length ≤ 100) (h2 : ∀ r ∈ m, r.length ≤ 100000) : roundelayref3_Copy_m m = some m := by
  have e : lp (roundelayref3_Copy_L0 m) ([], 0) = some (.go ((List.range m.length).map (fun i : Nat => ele m (i : Int)), (m.length : Int))) := by
    refine lp_build (fun i hi => ?_) ?_
    · have hr := ele_all (p := fun r : List Int => r.length ≤ 100000) h2 hi
      unfold roundelayref3_Copy_L0
      simp only [List.nil_append]
      rw [br_T (by unfold ln; omega), ck_IX (by omega) (by unfold ln; omega), ck_yes (AL8 hr), ck_yes (AL24 (by simp; omega)), ck_IR (by omega) (by omega)]
    · unfold roundelayref3_Copy_L0
      exact br_F (by unfold ln; omega)
  unfold roundelayref3_Copy_m
  rw [e, bd_ret, Out.on_go, range_map]
structure StaOk (l : Lp) (s : Sta) : Prop where
  loop : LoopOk l
  len : s.bef.length = l.body.length
  bef : ∀ i : Nat, i < s.bef.length → (s.bef.getD i []).length = 3
  rbef : ∀ r ∈ s.bef, ∀ x ∈ r, InR x
  mem : MemOk l s.mem
theorem FitsP.ok {l : Lp} {s : Sta} (h : FitsP l s) (hb : RowsOk s.bef) (hm : RowsOk s.mem) : StaOk l s := ⟨h.1, h.2.1, h.2.2.2.1, hb.rng, ⟨h.2.2.1, h.2.2.2.2, hm.rng⟩⟩
theorem MemOk.small {l : Lp} (hl : LoopOk l) {m : List (List Int)} (h : MemOk l m) : m.length ≤ 100 ∧ ∀ r ∈ m, r.length ≤ 100000 := by
  have := h.len; have := hl.1
  refine ⟨by omega, fun r hr => ?_⟩
  obtain ⟨i, hi, rfl⟩ := List.getElem_of_mem hr
  have h1 := h.row i hi
  have h2 := hl.log i (by omega)
  have h3 := two_pow_5 (l.logs.getD i 0).toNat (by omega)
  rw [List.getD_eq_getElem?_getD, List.getElem?_eq_getElem hi] at h1
  simp only [Option.getD_some] at h1
  omega
theorem col_ok {l : Lp} {s : Sta} (h : StaOk l s) (j : Nat) : RowOk l (colV s.bef j) := by
  refine ⟨by unfold colV; rw [List.length_map, h.len], fun x hx => ?_⟩
  obtain ⟨r, hr, rfl⟩ := List.mem_map.1 hx
  exact getD_all (h.rbef r hr) (by unfold InR; decide) j
theorem run_ok {l : Lp} (hf : l.Fine) {s : Sta} (h : StaOk l s) : ∀ t : Nat, t ≤ 100000 → (∀ r ∈ (runV l s t).1, RowOk l r) ∧ MemOk l (runV l s t).2 ∧ (runV l s t).1.length = t + 3
  | 0, _ => ⟨fun r hr => by
      simp only [runV, List.mem_cons, List.not_mem_nil, or_false] at hr
      rcases hr with rfl | rfl | rfl <;> exact col_ok h _, h.mem, rfl⟩
  | t + 1, ht => by
    obtain ⟨h1, h2, h3⟩ := run_ok hf h t (by omega)
    have hp := partV_ok hf (t := (t : Int)) (by unfold InR; omega) (fun r hr => (h1 r hr).rng) h2 l.body.length (Nat.le_refl _)
    rw [← turnV_part] at hp
    refine ⟨fun r hr => ?_, hp.2.2, by simp [runV, h3]⟩
    rcases List.mem_cons.1 hr with rfl | hr
    · exact ⟨hp.1, hp.2.1⟩
    · exact h1 r hr
end Go.Rd
end

section
namespace Go.Rd
set_option linter.unusedVariables false
theorem set_fill {α : Type} (a : List α) (m : Nat) (z v : α) : (a ++ List.replicate (m + 1) z).set a.length v = (a ++ [v]) ++ List.replicate m z := by
  rw [List.set_append_right _ _ (Nat.le_refl _), Nat.sub_self, List.replicate_succ, List.set_cons_zero]
  simp
def rowV (l : Lp) (s : Sta) (t : Nat) : List Int := (turnV l (runV l s t).1 (runV l s t).2 t).1
theorem hist_at (l : Lp) (s : Sta) : ∀ (t j : Nat), j < t + 3 → (runV l s t).1.getD j [] = if j < t then rowV l s (t - 1 - j) else colV s.bef (j - t)
  | 0, 0, _ => rfl
  | 0, 1, _ => rfl
  | 0, 2, _ => rfl
  | 0, j + 3, h => by omega
  | t + 1, 0, _ => rfl
  | t + 1, j + 1, h => by
    have ih := hist_at l s t j (by omega)
    show (runV l s t).1.getD j [] = _
    rw [ih]
    by_cases hj : j < t
    · rw [if_pos hj, if_pos (by omega), show t + 1 - 1 - (j + 1) = t - 1 - j from by omega]
    · rw [if_neg hj, if_neg (by omega), show j + 1 - (t + 1) = j - t from by omega]
def allV (l : Lp) (s : Sta) (n t : Nat) : List (List Int) := (List.range n).map fun i => if i < t then rowV l s i else []
theorem allV_len (l : Lp) (s : Sta) (n t : Nat) : (allV l s n t).length = n := by simp [allV]
theorem allV_at (l : Lp) (s : Sta) {n t i : Nat} (h : i < n) : ele (allV l s n t) (i : Int) = if i < t then rowV l s i else [] := by
  rw [ele_nat, List.getD_eq_getElem?_getD, allV, List.getElem?_map, List.getElem?_range h]
  rfl
theorem allV_next (l : Lp) (s : Sta) {n t : Nat} (h : t < n) : upd (allV l s n t) t (rowV l s t) = allV l s n (t + 1) := by
  apply List.ext_getElem?
  intro i
  unfold upd allV
  rw [Int.toNat_natCast, List.getElem?_set, List.getElem?_map, List.getElem?_map, List.length_map, List.length_range]
  by_cases hi : t = i
  · subst hi
    simp [h]
  · rw [if_neg hi]
    by_cases hn : i < n
    · rw [List.getElem?_range hn]
      simp only [Option.map_some]
      by_cases h1 : i < t
      · rw [if_pos h1, if_pos (by omega)]
      · rw [if_neg h1, if_neg (by omega)]
    · rw [List.getElem?_eq_none (by simp; omega)]
      rfl
theorem col_at {s : Sta} {j i : Nat} (h : i < s.bef.length) : ele (colV s.bef j) (i : Int) = (ele s.bef (i : Int)).getD j 0 := by
  have e : ele s.bef (i : Int) = s.bef[i] := by rw [ele_nat, List.getD_eq_getElem?_getD, List.getElem?_eq_getElem h]; rfl
  rw [e, ele_nat, List.getD_eq_getElem?_getD, colV, List.getElem?_map, List.getElem?_eq_getElem h]
  rfl
theorem is_s {l : Lp} {s : Sta} (h : StaOk l s) (hf : l.Fine) {n t k : Nat} (hn : n ≤ 200) (ht : t < n) (hk : k ≤ l.body.length) {now z : List Int} (hnow : now.length = k) (hz : (now ++ z).length = l.body.length) {x : Rf} (hx : RefOk l.body.length k x) :
    roundelayref3_is_m s (upd (allV l s n t) t (now ++ z)) x t = some (refV (runV l s t).1 now x) := by
  obtain ⟨a1, a2, a3, a4, a5⟩ := hx
  have hrun := run_ok hf h t (by omega)
  have hst : ((x.st.toNat : Nat) : Int) = x.st := by omega
  have hlen : (upd (allV l s n t) t (now ++ z)).length = n := by rw [upd_length, allV_len]
  have hb16 := h.loop.2.2.1
  unfold roundelayref3_is_m refV
  rw [ck_IR (by omega) (by omega)]
  by_cases hb : x.bk = 0
  · have hs4 := a4 hb
    rw [br_T (by omega), ck_IX (by omega) (by unfold ln; omega), show (t : Int) - x.bk = t from by omega, ele_upd ⟨by omega, by unfold ln; rw [allV_len]; omega⟩, ck_IX a3 (by unfold ln; omega), if_pos hb]
    congr 1
    unfold ele
    rw [List.getD_eq_getElem?_getD, List.getElem?_append_left (by omega), ← List.getD_eq_getElem?_getD]
  · rw [if_neg hb]
    have hs5 := a5 hb
    have hh := hist_at l s t (x.bk - 1).toNat (by omega)
    have hele : ele (runV l s t).1 (x.bk - 1) = (runV l s t).1.getD (x.bk - 1).toNat [] := rfl
    by_cases hge : (t : Int) - x.bk ≥ 0
    · have hi : (((t : Int) - x.bk).toNat : Int) = (t : Int) - x.bk := by omega
      have hrow : (rowV l s ((t : Int) - x.bk).toNat).length = l.body.length := by
        have h1 := (run_ok hf h (((t : Int) - x.bk).toNat + 1) (by omega)).1 (rowV l s ((t : Int) - x.bk).toNat) (List.mem_cons_self ..)
        exact h1.len
      have he : ele (upd (allV l s n t) t (now ++ z)) ((t : Int) - x.bk) = rowV l s ((t : Int) - x.bk).toNat := by
        rw [ele_upd_ne (by omega), ← hi, allV_at l s (by omega), if_pos (by omega)]
        rfl
      rw [br_T hge, ck_IX (by omega) (by unfold ln; omega), he, ck_IX a3 (by unfold ln; omega), hele, hh, if_pos (by omega), show t - 1 - (x.bk - 1).toNat = ((t : Int) - x.bk).toNat from by omega]
    · have hbl := h.len
      have h3 := h.bef x.st.toNat (by omega)
      rw [show s.bef.getD x.st.toNat [] = ele s.bef (x.st.toNat : Int) from rfl, hst] at h3
      rw [br_F hge, ck_IX a3 (by unfold ln; omega), ck_IR (by omega) (by omega), ck_IR (by omega) (by omega), ck_IX (by omega) (by unfold ln; omega), hele, hh, if_neg (by omega)]
      congr 1
      rw [← hst, col_at (by omega)]
      unfold ele
      congr 1
      omega
theorem play_step {l : Lp} {s : Sta} (h : StaOk l s) (hf : l.Fine) {n t : Nat} (hn : n ≤ 200) (ht : t < n) (k : Nat) (hk : k < l.body.length) :
    roundelayref3_Play_L2 l s t (upd (allV l s n t) t ((partV l (runV l s t).1 (runV l s t).2 t k).1 ++ List.replicate (l.body.length - k) 0), (partV l (runV l s t).1 (runV l s t).2 t k).2, k) =
      some (.next (upd (allV l s n t) t ((partV l (runV l s t).1 (runV l s t).2 t (k + 1)).1 ++ List.replicate (l.body.length - (k + 1)) 0), (partV l (runV l s t).1 (runV l s t).2 t (k + 1)).2, ((k + 1 : Nat) : Int))) := by
  obtain ⟨r1, r2, r3⟩ := run_ok hf h t (by omega)
  obtain ⟨p1, p2, p3⟩ := partV_ok hf (t := (t : Int)) (by unfold InR; omega) (fun r hr => (r1 r hr).rng) r2 k (by omega)
  rw [partV_next hk]
  generalize hP : partV l (runV l s t).1 (runV l s t).2 t k = p at p1 p2 p3
  have hn16 := h.loop.2.2.1
  have hso := h.loop.stm k hk
  rw [show l.body.getD k Stm.zero = ele l.body (k : Int) from rfl] at hso
  generalize hs : ele l.body (k : Int) = st at hso
  obtain ⟨q1, q2, q3⟩ := hso
  have hfl : (p.1 ++ List.replicate (l.body.length - k) (0 : Int)).length = l.body.length := by rw [List.length_append, List.length_replicate, p1]; omega
  generalize hA : upd (allV l s n t) (t : Int) (p.1 ++ List.replicate (l.body.length - k) 0) = A
  have hAl : A.length = n := by rw [← hA, upd_length, allV_len]
  have hAt : ele A (t : Int) = p.1 ++ List.replicate (l.body.length - k) 0 := by rw [← hA]; exact ele_upd ⟨by omega, by unfold ln; rw [allV_len]; omega⟩
  have hix : IX (k : Int) (ln l.body) := ⟨by omega, by unfold ln; omega⟩
  have hit : IX (t : Int) (ln A) := ⟨by omega, by unfold ln; omega⟩
  have hik : IX (k : Int) (ln (ele A (t : Int))) := ⟨by omega, by rw [hAt]; unfold ln; omega⟩
  have hput : ∀ v : Int, updG A t k v = upd (allV l s n t) t ((p.1 ++ [v]) ++ List.replicate (l.body.length - (k + 1)) 0) := fun v => by
    unfold updG
    rw [hAt, ← hA, upd_upd]
    congr 1
    unfold upd
    rw [Int.toNat_natCast, show l.body.length - k = (l.body.length - (k + 1)) + 1 from by omega, ← p1]
    exact set_fill _ _ _ _
  have ra : (st.op = 4 ∨ st.op > 10) → roundelayref3_is_m s A st.a t = some (refV (runV l s t).1 p.1 st.a) := fun hh => by rw [← hA]; exact is_s h hf hn ht (by omega) p1 hfl (q1 hh)
  have rb : st.op > 10 → roundelayref3_is_m s A st.b t = some (refV (runV l s t).1 p.1 st.b) := fun hh => by rw [← hA]; exact is_s h hf hn ht (by omega) p1 hfl (q2 hh)
  have hra : ∀ x : Rf, InR (refV (runV l s t).1 p.1 x) := fun x => refV_rng (fun r hr => (r1 r hr).rng) p2 x
  have hsc : ((k + 1 : Nat) : Int) = (k : Int) + 1 := rfl
  unfold roundelayref3_Play_L2 stepV
  simp only
  rw [br_T (by unfold ln; omega), ck_yes hix, hs, hsc]
  by_cases o1 : st.op = 1
  · rw [show (st.op == 1) = true from by simpa using o1, br_true, ck_yes hit, ck_yes hik, ck_IR (by omega) (by omega), if_pos o1, hput]
  rw [show (st.op == 1) = false from by simpa using o1, br_false, if_neg o1]
  by_cases o2 : st.op = 2
  · rw [show (st.op == 2) = true from by simpa using o2, br_true, ck_yes hit, ck_yes hik, ck_IR (by omega) (by omega), if_pos o2, hput]
  rw [show (st.op == 2) = false from by simpa using o2, br_false, if_neg o2]
  by_cases o3 : st.op = 3
  · have hw : WordOk l.logs.length st := by rcases q3 with h | h | h | h | h <;> first | exact h.2.2.1 | omega
    obtain ⟨w1, w2, w3⟩ := word_ix h.loop p3 hw t
    rw [show (st.op == 3) = true from by simpa using o3, br_true, ck_yes w2, ref_Index_s, bd_ret, ck_yes hit, ck_yes w1, ck_yes w3, ck_yes hik, ck_IR (by omega) (by omega), if_pos o3, hput]
  rw [show (st.op == 3) = false from by simpa using o3, br_false, if_neg o3]
  by_cases o4 : st.op = 4
  · have hw : WordOk l.logs.length st := by rcases q3 with h | h | h | h | h <;> first | exact h.2.2.1 | omega
    obtain ⟨w1, w2, w3⟩ := word_ix h.loop p3 hw t
    rw [show (st.op == 4) = true from by simpa using o4, br_true, ck_yes w2, ref_Index_s, bd_ret, ra (.inl o4), bd_ret, ck_yes w1, ck_yes w3, ck_yes hit, ck_yes hik, ck_IR (by omega) (by omega), if_pos o4, hput]
  have h10 : 11 ≤ st.op ∧ st.op ≤ 18 := by omega
  rw [show (st.op == 4) = false from by simpa using o4, br_false, if_neg o4, ra (.inr (by omega)), bd_ret, rb (by omega), bd_ret, ck_yes hit, ck_IR (by omega) (by omega), ref_Op_s _ _ _ (hra _) (hra _), bd_ret, ck_yes hik, ck_IR (by omega) (by omega), hput]
theorem play_turn {l : Lp} {s : Sta} (h : StaOk l s) (hf : l.Fine) {n t : Nat} (hn : n ≤ 200) (ht : t < n) : ∀ (m k : Nat), k + m = l.body.length →
    lp (roundelayref3_Play_L2 l s t) (upd (allV l s n t) t ((partV l (runV l s t).1 (runV l s t).2 t k).1 ++ List.replicate (l.body.length - k) 0), (partV l (runV l s t).1 (runV l s t).2 t k).2, (k : Int)) =
      some (.go (allV l s n (t + 1), (runV l s (t + 1)).2, (l.body.length : Int)))
  | 0, k, hk => by
    have : k = l.body.length := by omega
    subst this
    rw [← turnV_part, Nat.sub_self, List.replicate_zero, List.append_nil, show (turnV l (runV l s t).1 (runV l s t).2 t).1 = rowV l s t from rfl, allV_next l s ht]
    refine lp_brk ?_
    unfold roundelayref3_Play_L2
    exact br_F (by unfold ln; omega)
  | m + 1, k, hk => lp_step (play_step h hf hn ht k (by omega)) (play_turn h hf hn ht m (k + 1) (by omega))
theorem play_loop {l : Lp} {s : Sta} (h : StaOk l s) (hf : l.Fine) {n : Nat} (hn : n ≤ 200) : ∀ (m t : Nat), t + m = n → lp (roundelayref3_Play_L0 l s n) (allV l s n t, (runV l s t).2, (t : Int)) = some (.go (allV l s n n, (runV l s n).2, (n : Int)))
  | 0, t, ht => by
    have : t = n := by omega
    subst this
    refine lp_brk ?_
    unfold roundelayref3_Play_L0
    exact br_F (by omega)
  | m + 1, t, ht => by
    refine lp_step ?_ (play_loop h hf hn m (t + 1) (by omega))
    have hn16 := h.loop.2.2.1
    have hp := play_turn h hf hn (t := t) (by omega) l.body.length 0 (by omega)
    rw [show partV l (runV l s t).1 (runV l s t).2 t 0 = ([], (runV l s t).2) from rfl, List.nil_append, Nat.sub_zero] at hp
    unfold roundelayref3_Play_L0
    simp only
    rw [br_T (by omega), ck_yes (ln_nonneg _), ck_yes (AL8 (by unfold ln; omega)), ck_IX (by omega) (by unfold ln; rw [allV_len]; omega), show (ln l.body).toNat = l.body.length from by unfold ln; omega]
    rw [show ((0 : Nat) : Int) = 0 from rfl] at hp
    rw [hp, bd_ret, Out.on_go]
    simp only
    rw [ck_IR (by omega) (by omega)]
    rfl
theorem Play_s {l : Lp} {s : Sta} (hf : l.Fine) (h : StaOk l s) (n : Nat) (hn : n ≤ 200) : roundelayref3_Play_m l s n = some ⟨outsV l s n, (runV l s n).2⟩ := by
  have hsm := h.mem.small h.loop
  have hn16 := h.loop.2.2.1
  have h16 := outs_len h.loop
  have hbl := h.len
  have e1 := play_loop h hf hn n 0 (by omega)
  rw [show (runV l s 0).2 = s.mem from rfl, show ((0 : Nat) : Int) = 0 from rfl, show allV l s n 0 = List.replicate (n : Int).toNat [] from by
    rw [Int.toNat_natCast]; unfold allV; simp only [Nat.not_lt_zero, if_false]; rw [List.map_const', List.length_range]] at e1
  have e2 : lp (roundelayref3_Play_L5 l s n (allV l s n n)) ([], 0) = some (.go (outsV l s n, (l.outs.length : Int))) := by
    have e := lp_build (f := roundelayref3_Play_L5 l s n (allV l s n n)) (n := l.outs.length) (h := fun i : Nat => ele (ele (runV l s n).1 0) (ele l.outs (i : Int))) (fun i hi => ?_) ?_
    · rw [range_map' l.outs (fun k => ele (ele (runV l s n).1 0) k)] at e
      exact e
    · have ho := h.loop.out i hi
      rw [show l.outs.getD i 0 = ele l.outs (i : Int) from rfl] at ho
      have hk : (((ele l.outs (i : Int)).toNat : Nat) : Int) = ele l.outs (i : Int) := by omega
      have h3 := h.bef (ele l.outs (i : Int)).toNat (by omega)
      rw [show s.bef.getD (ele l.outs (i : Int)).toNat [] = ele s.bef ((ele l.outs (i : Int)).toNat : Int) from rfl, hk] at h3
      have hix : IX (i : Int) (ln l.outs) := ⟨by omega, by unfold ln; omega⟩
      have hh := hist_at l s n 0 (by omega)
      unfold roundelayref3_Play_L5
      simp only
      rw [br_T (by unfold ln; omega), ck_yes hix, ck_IX ho.1 (by unfold ln; omega), ck_IX (by omega) (by unfold ln; omega)]
      by_cases hp : 0 < n
      · have hrow : (rowV l s (n - 1)).length = l.body.length := by
          have h1 := (run_ok hf h (n - 1 + 1) (by omega)).1 (rowV l s (n - 1)) (List.mem_cons_self ..)
          exact h1.len
        have hat : ele (allV l s n n) ((n : Int) - 1) = rowV l s (n - 1) := by
          rw [show (n : Int) - 1 = ((n - 1 : Nat) : Int) from by omega, allV_at l s (by omega), if_pos (by omega)]
        rw [if_pos hp] at hh
        have hh' : ele (runV l s n).1 0 = rowV l s (n - 1) := hh
        rw [br_T (by omega), ck_IR (by omega) (by omega), ck_IX (by omega) (by unfold ln; rw [allV_len]; omega), ck_yes hix, hat, ck_IX ho.1 (by unfold ln; rw [hrow]; exact ho.2), hh', ck_yes (AL8 (by simp; omega)), ck_IR (by omega) (by omega)]
      · have : n = 0 := by omega
        subst this
        rw [br_F (by omega), ck_yes (AL8 (by simp; omega)), ck_IR (by omega) (by omega)]
        have hc : ele (ele (runV l s 0).1 0) (ele l.outs (i : Int)) = ele (ele s.bef (ele l.outs (i : Int))) 0 := by
          show ele (colV s.bef 0) (ele l.outs (i : Int)) = _
          rw [← hk, col_at (by omega)]
          rfl
        rw [hc]
    · unfold roundelayref3_Play_L5
      exact br_F (by unfold ln; omega)
  unfold roundelayref3_Play_m
  rw [rCopy_s hsm.1 hsm.2, bd_ret, ck_yes (by omega), ck_yes (AL24 (by omega)), e1, bd_ret, Out.on_go]
  simp only
  rw [e2, bd_ret, Out.on_go]
end Go.Rd
end

section
namespace Go.Rd
set_option linter.unusedVariables false
noncomputable def cmp_isNaN_int__m (x : Int) : Option (Bool) :=
 some (x != x)

noncomputable def cmp_Compare_int__m (x : Int) (y : Int) : Option (Int) :=
 bd (cmp_isNaN_int__m x) fun x1 =>
 bd (cmp_isNaN_int__m y) fun x4 =>
 br x1 (
 br x4 (
 some 0) (
 some (-1))) (
 br x4 (
 some 1) (
 br (decide (x < y)) (
 some (-1)) (
 br (decide (x > y)) (
 some 1) (
 some 0))))

noncomputable def cmp_Or_int__L0 (vals : List Int) : Int → Option (Stp (Int) (Int)) := fun x8_1 =>
 br (decide (x8_1 < (ln vals))) (
 ck (IX x8_1 (ln vals)) <|
 br ((ele vals x8_1) != 0) (
 some (.ret (ele vals x8_1))) (
 ck (IR (x8_1 + 1)) <|
 some (.next (x8_1 + 1)))) (
 some (.brk x8_1))
noncomputable def cmp_Or_int__m (vals : List Int) : Option (Int) :=
 bd (lp (cmp_Or_int__L0 vals) 0) fun o1 => o1.on (fun x8_1 =>
 some 0) (fun r => some r)

noncomputable def dep_order_m (a : Edg) (b : Edg) : Option (Int) :=
 bd (cmp_Compare_int__m a.fr b.fr) fun x3 =>
 bd (cmp_Compare_int__m a.to b.to) fun x6 =>
 bd (cmp_Compare_int__m a.bk b.bk) fun x9 =>
 bd (cmp_Compare_int__m a.wt b.wt) fun x12 =>
 bd (cmp_Or_int__m [x3, x6, x9, x12]) fun x16 =>
 some x16
end Go.Rd
end

section
namespace Go.Rd
set_option linter.unusedVariables false
noncomputable def slices_Compact___api_Edge_api_Edge__L2 (ows0_3 : List Edg) (k3_3 : Int) : ((List Edg) × Int × Int) → Option (Stp ((List Edg) × Int × Int) (Empty)) := fun (ows0_4, k3_4, k25_4) =>
 ck (SX k3_3 (ln ows0_3) (ln ows0_4)) <|
 br (decide (k25_4 < (ln (sub ows0_4 k3_3 (ln ows0_3))))) (
 ck (IX k25_4 (ln (sub ows0_4 k3_3 (ln ows0_3)))) <|
 ck (IR (k25_4 - 1)) <|
 ck (IX (k25_4 - 1) (ln (sub ows0_4 k3_3 (ln ows0_3)))) <|
 br (!([(ele (sub ows0_4 k3_3 (ln ows0_3)) k25_4).fr, (ele (sub ows0_4 k3_3 (ln ows0_3)) k25_4).to, (ele (sub ows0_4 k3_3 (ln ows0_3)) k25_4).bk, (ele (sub ows0_4 k3_3 (ln ows0_3)) k25_4).wt] == [(ele (sub ows0_4 k3_3 (ln ows0_3)) (k25_4 - 1)).fr, (ele (sub ows0_4 k3_3 (ln ows0_3)) (k25_4 - 1)).to, (ele (sub ows0_4 k3_3 (ln ows0_3)) (k25_4 - 1)).bk, (ele (sub ows0_4 k3_3 (ln ows0_3)) (k25_4 - 1)).wt])) (
 ck (IX k25_4 (ln (sub ows0_4 k3_3 (ln ows0_3)))) <|
 ck (IX k3_4 (ln ows0_4)) <|
 ck (IR (k3_4 + 1)) <|
 ck (IR (k25_4 + 1)) <|
 some (.next ((upd ows0_4 k3_4 (ele (sub ows0_4 k3_3 (ln ows0_3)) k25_4)), (k3_4 + 1), (k25_4 + 1)))) (
 ck (IR (k25_4 + 1)) <|
 some (.next (ows0_4, k3_4, (k25_4 + 1))))) (
 some (.brk (ows0_4, k3_4, k25_4)))
noncomputable def slices_Compact___api_Edge_api_Edge__L0  : ((List Edg) × Int) → Option (Stp ((List Edg) × Int) (List Edg)) := fun (ows0_3, k3_3) =>
 br (decide (k3_3 < (ln ows0_3))) (
 ck (IX k3_3 (ln ows0_3)) <|
 ck (IR (k3_3 - 1)) <|
 ck (IX (k3_3 - 1) (ln ows0_3)) <|
 br ([(ele ows0_3 k3_3).fr, (ele ows0_3 k3_3).to, (ele ows0_3 k3_3).bk, (ele ows0_3 k3_3).wt] == [(ele ows0_3 (k3_3 - 1)).fr, (ele ows0_3 (k3_3 - 1)).to, (ele ows0_3 (k3_3 - 1)).bk, (ele ows0_3 (k3_3 - 1)).wt]) (
 ck (SX k3_3 (ln ows0_3) (ln ows0_3)) <|
 bd (lp (slices_Compact___api_Edge_api_Edge__L2 ows0_3 k3_3) (ows0_3, k3_3, 1)) fun o26 => o26.on (fun (ows0_4, k3_4, k25_4) =>
 ck (SX k3_4 (ln ows0_4) (ln ows0_4)) <|
 ck (SX 0 k3_4 (ln (clr ows0_4 k3_4 (Edg.mk 0 0 0 0)))) <|
 some (.ret (sub (clr ows0_4 k3_4 (Edg.mk 0 0 0 0)) 0 k3_4))) (fun r => r.elim)) (
 ck (IR (k3_3 + 1)) <|
 some (.next (ows0_3, (k3_3 + 1))))) (
 some (.brk (ows0_3, k3_3)))
noncomputable def slices_Compact___api_Edge_api_Edge__m (s : List Edg) : Option (List Edg) :=
 br (decide ((ln s) < 2)) (
 some s) (
 bd (lp (slices_Compact___api_Edge_api_Edge__L0) (s, 1)) fun o5 => o5.on (fun (ows0_3, k3_3) =>
 some ows0_3) (fun r => some r))
end Go.Rd
end

section
namespace Go.Rd
set_option linter.unusedVariables false
noncomputable def dep_meet_L0 (a : Stm) (b : Stm) (back : Int) (size : Int) : Int → Option (Stp (Int) (Bool)) := fun x11_1 =>
 br (decide (x11_1 < size)) (
 ck (IR (a.sp * x11_1)) <|
 ck (IR ((a.sp * x11_1) + a.pl)) <|
 ck (IR (x11_1 + back)) <|
 ck (IR (b.sp * (x11_1 + back))) <|
 ck (IR (((a.sp * x11_1) + a.pl) - (b.sp * (x11_1 + back)))) <|
 ck (IR ((((a.sp * x11_1) + a.pl) - (b.sp * (x11_1 + back))) - b.pl)) <|
 ck (IR (size - 1)) <|
 br ((bitAnd ((((a.sp * x11_1) + a.pl) - (b.sp * (x11_1 + back))) - b.pl) (size - 1)) == 0) (
 some (.ret true)) (
 ck (IR (x11_1 + 1)) <|
 some (.next (x11_1 + 1)))) (
 some (.brk x11_1))
noncomputable def dep_meet_m (a : Stm) (b : Stm) (back : Int) (size : Int) : Option (Bool) :=
 bd (lp (dep_meet_L0 a b back size) 0) fun o3 => o3.on (fun x11_1 =>
 some false) (fun r => some r)

noncomputable def dep_words_m (s : Stm) : Option (Bool) :=
 some ((s.op == 3) || (s.op == 4))

noncomputable def dep_memory_L0 (l : Lp) (from_ : Int) (to : Int) (wait11_2 : Int) : Int → Option (Stp (Int) (Edg × Bool)) := fun back13_3 =>
 br (decide (back13_3 ≤ (shlD 1 (ele l.logs ((ele l.body from_).ar))))) (
 bd (dep_meet_m (ele l.body from_) (ele l.body to) back13_3 (shlD 1 (ele l.logs ((ele l.body from_).ar)))) fun x41 =>
 br x41 (
 some (.ret ((Edg.mk from_ to back13_3 wait11_2), true))) (
 ck (IR (back13_3 + 1)) <|
 some (.next (back13_3 + 1)))) (
 some (.brk back13_3))
noncomputable def dep_memory_m (l : Lp) (from_ : Int) (to : Int) : Option (Edg × Bool) :=
 ck (IX from_ (ln l.body)) <|
 ck (IX to (ln l.body)) <|
 bd (dep_words_m (ele l.body from_)) fun x13 =>
 bdG (!(!x13)) (dep_words_m (ele l.body to)) fun x16 =>
 br ((((!x13) || (!x16)) || ((ele l.body from_).ar != (ele l.body to).ar)) || (((ele l.body from_).op == 3) && ((ele l.body to).op == 3))) (
 some ((Edg.mk 0 0 0 0), false)) (
 bd (show Option (Out (Int) (Empty)) from br (decide (from_ ≥ to)) (
 some (.go 1)) (
 some (.go 0))) fun o22 => o22.on (fun least10_1 =>
 bd (show Option (Out (Int) (Empty)) from br ((ele l.body from_).op == 4) (
 some (.go 1)) (
 some (.go 0))) fun o25 => o25.on (fun wait11_2 =>
 ck (IX ((ele l.body from_).ar) (ln l.logs)) <|
 ck (0 ≤ (ele l.logs ((ele l.body from_).ar))) <|
 bd (lp (dep_memory_L0 l from_ to wait11_2) least10_1) fun o34 => o34.on (fun back13_3 =>
 some ((Edg.mk 0 0 0 0), false)) (fun r => some r)) (fun r => r.elim)) (fun r => r.elim))

noncomputable def dep_Edges_L2 (l : Lp) (t : Tgt) (x25_7 : Int) (x25 : List Rf) : ((List Edg) × Int) → Option (Stp ((List Edg) × Int) (Empty)) := fun (v12_8, x33_8) =>
 br (decide (x33_8 < (ln x25))) (
 ck (IX x33_8 (ln x25)) <|
 ck (IX ((ele x25 x33_8).st) (ln l.body)) <|
 bd (target_Wait_m t ((ele l.body ((ele x25 x33_8).st)).op)) fun x45 =>
 ck (AL (v12_8 ++ [(Edg.mk ((ele x25 x33_8).st) x25_7 ((ele x25 x33_8).bk) x45)]).length 32) <|
 ck (IR (x33_8 + 1)) <|
 some (.next ((v12_8 ++ [(Edg.mk ((ele x25 x33_8).st) x25_7 ((ele x25 x33_8).bk) x45)]), (x33_8 + 1)))) (
 some (.brk (v12_8, x33_8)))
noncomputable def dep_Edges_L4 (l : Lp) (x25_7 : Int) : ((List Edg) × Int) → Option (Stp ((List Edg) × Int) (Empty)) := fun (v12_9, x59_9) =>
 br (decide (x59_9 < (ln l.body))) (
 bd (dep_memory_m l x59_9 x25_7) fun x41 =>
 br x41.2 (
 ck (AL (v12_9 ++ [x41.1]).length 32) <|
 ck (IR (x59_9 + 1)) <|
 some (.next ((v12_9 ++ [x41.1]), (x59_9 + 1)))) (
 ck (IR (x59_9 + 1)) <|
 some (.next (v12_9, (x59_9 + 1))))) (
 some (.brk (v12_9, x59_9)))
noncomputable def dep_Edges_L0 (l : Lp) (t : Tgt) : ((List Edg) × Int) → Option (Stp ((List Edg) × Int) (Empty)) := fun (v12_7, x25_7) =>
 br (decide (x25_7 < (ln l.body))) (
 ck (IX x25_7 (ln l.body)) <|
 bd (loop_Uses_m (ele l.body x25_7)) fun x25 =>
 bd (lp (dep_Edges_L2 l t x25_7 x25) (v12_7, 0)) fun o29 => o29.on (fun (v12_8, x33_8) =>
 bd (lp (dep_Edges_L4 l x25_7) (v12_8, 0)) fun o34 => o34.on (fun (v12_9, x59_9) =>
 ck (IR (x25_7 + 1)) <|
 some (.next (v12_9, (x25_7 + 1)))) (fun r => r.elim)) (fun r => r.elim)) (
 some (.brk (v12_7, x25_7)))
noncomputable def dep_Edges_m (l : Lp) (t : Tgt) : Option (List Edg × Int) :=
 bd (loop_May_m l) fun x3 =>
 bdG (!(!x3)) (target_May_m t) fun x6 =>
 br ((!x3) || (!x6)) (
 some ([], 2)) (
 bd (lp (dep_Edges_L0 l t) ([], 0)) fun o13 => o13.on (fun (v12_7, x25_7) =>
 bd (SortFunc_m v12_7) fun x18 =>
 bd (slices_Compact___api_Edge_api_Edge__m x18) fun x22 =>
 some (x22, 0)) (fun r => r.elim))
end Go.Rd
end

section
namespace Go.Rd
set_option linter.unusedVariables false
noncomputable def roundelayref6_Meets_L0 (a : Stm) (b : Stm) (back : Int) (size : Int) : Int → Option (Stp (Int) (Bool)) := fun turn9_1 =>
 br (decide (turn9_1 < size)) (
 ck (IR (a.sp * turn9_1)) <|
 ck (IR ((a.sp * turn9_1) + a.pl)) <|
 bd (roundelayref1_Rest_m ((a.sp * turn9_1) + a.pl) size) fun x14 =>
 ck (IR (turn9_1 + back)) <|
 ck (IR (b.sp * (turn9_1 + back))) <|
 ck (IR ((b.sp * (turn9_1 + back)) + b.pl)) <|
 bd (roundelayref1_Rest_m ((b.sp * (turn9_1 + back)) + b.pl) size) fun x23 =>
 br (x14 == x23) (
 some (.ret true)) (
 ck (IR (turn9_1 + 1)) <|
 some (.next (turn9_1 + 1)))) (
 some (.brk turn9_1))
noncomputable def roundelayref6_Meets_m (a : Stm) (b : Stm) (back : Int) (size : Int) : Option (Bool) :=
 bd (lp (roundelayref6_Meets_L0 a b back size) 0) fun o3 => o3.on (fun turn9_1 =>
 some false) (fun r => some r)

noncomputable def roundelayref6_Memory_m (a : Stm) (b : Stm) : Option (Bool) :=
 some (((((a.op == 3) || (a.op == 4)) && ((b.op == 3) || (b.op == 4))) && (a.ar == b.ar)) && ((a.op == 4) || (b.op == 4)))

noncomputable def roundelayref6_is_L0 (l : Lp) (t : Tgt) (e_ : Edg) (x8 : List Rf) : Int → Option (Stp (Int) (Bool)) := fun i8_1 =>
 br (decide (i8_1 < (ln x8))) (
 ck (IX i8_1 (ln x8)) <|
 ck (((ele x8 i8_1).st == e_.fr) = true → IX i8_1 (ln x8)) <|
 ck ((((ele x8 i8_1).st == e_.fr) && ((ele x8 i8_1).bk == e_.bk)) = true → IX e_.fr (ln l.body)) <|
 bdG (((ele x8 i8_1).st == e_.fr) && ((ele x8 i8_1).bk == e_.bk)) (roundelayref4_Wait_m t ((ele l.body e_.fr).op)) fun x31 =>
 br ((((ele x8 i8_1).st == e_.fr) && ((ele x8 i8_1).bk == e_.bk)) && (e_.wt == x31)) (
 some (.ret true)) (
 ck (IR (i8_1 + 1)) <|
 some (.next (i8_1 + 1)))) (
 some (.brk i8_1))
noncomputable def roundelayref6_is_L2 (l : Lp) (e_ : Edg) (x40 : Int) : Int → Option (Stp (Int) (Bool)) := fun back14_4 =>
 br (decide (back14_4 < e_.bk)) (
 bd (roundelayref6_Meets_m (ele l.body e_.fr) (ele l.body e_.to) back14_4 x40) fun x59 =>
 br x59 (
 some (.ret false)) (
 ck (IR (back14_4 + 1)) <|
 some (.next (back14_4 + 1)))) (
 some (.brk back14_4))
noncomputable def roundelayref6_is_m (l : Lp) (t : Tgt) (e_ : Edg) : Option (Bool) :=
 ck (IX e_.to (ln l.body)) <|
 bd (roundelayref2_Uses_m (ele l.body e_.to)) fun x8 =>
 bd (lp (roundelayref6_is_L0 l t e_ x8) 0) fun o12 => o12.on (fun i8_1 =>
 ck (IX e_.fr (ln l.body)) <|
 ck (IX e_.to (ln l.body)) <|
 bd (show Option (Out (Int) (Empty)) from br ((ele l.body e_.fr).op == 4) (
 some (.go 1)) (
 some (.go 0))) fun o27 => o27.on (fun wait11_2 =>
 bd (roundelayref6_Memory_m (ele l.body e_.fr) (ele l.body e_.to)) fun x30 =>
 br ((!x30) || (e_.wt != wait11_2)) (
 some false) (
 ck (IX ((ele l.body e_.fr).ar) (ln l.logs)) <|
 bd (roundelayref1_Size_m (ele l.logs ((ele l.body e_.fr).ar))) fun x40 =>
 bd (show Option (Out (Int) (Empty)) from br (decide (e_.fr ≥ e_.to)) (
 some (.go 1)) (
 some (.go 0))) fun o43 => o43.on (fun least13_3 =>
 bdG (!((decide (e_.bk < least13_3)) || (decide (e_.bk > x40)))) (roundelayref6_Meets_m (ele l.body e_.fr) (ele l.body e_.to) e_.bk x40) fun x46 =>
 br (((decide (e_.bk < least13_3)) || (decide (e_.bk > x40))) || (!x46)) (
 some false) (
 bd (lp (roundelayref6_is_L2 l e_ x40) least13_3) fun o52 => o52.on (fun back14_4 =>
 some true) (fun r => some r))) (fun r => r.elim))) (fun r => r.elim)) (fun r => some r)

noncomputable def roundelayref6_Edges_L6 (l : Lp) (t : Tgt) (from6_45 : Int) (to7_54 : Int) (back8_57 : Int) : ((List Edg) × Int) → Option (Stp ((List Edg) × Int) (Empty)) := fun (v3_58, wait9_58) =>
 br (decide (wait9_58 ≤ 6)) (
 bd (roundelayref6_is_m l t (Edg.mk from6_45 to7_54 back8_57 wait9_58)) fun x33 =>
 br x33 (
 ck (AL (v3_58 ++ [(Edg.mk from6_45 to7_54 back8_57 wait9_58)]).length 32) <|
 ck (IR (wait9_58 + 1)) <|
 some (.next ((v3_58 ++ [(Edg.mk from6_45 to7_54 back8_57 wait9_58)]), (wait9_58 + 1)))) (
 ck (IR (wait9_58 + 1)) <|
 some (.next (v3_58, (wait9_58 + 1))))) (
 some (.brk (v3_58, wait9_58)))
noncomputable def roundelayref6_Edges_L4 (l : Lp) (t : Tgt) (from6_45 : Int) (to7_54 : Int) : ((List Edg) × Int) → Option (Stp ((List Edg) × Int) (Empty)) := fun (v3_57, back8_57) =>
 br (decide (back8_57 ≤ 32)) (
 bd (lp (roundelayref6_Edges_L6 l t from6_45 to7_54 back8_57) (v3_57, 0)) fun o25 => o25.on (fun (v3_58, wait9_58) =>
 ck (IR (back8_57 + 1)) <|
 some (.next (v3_58, (back8_57 + 1)))) (fun r => r.elim)) (
 some (.brk (v3_57, back8_57)))
noncomputable def roundelayref6_Edges_L2 (l : Lp) (t : Tgt) (from6_45 : Int) : ((List Edg) × Int) → Option (Stp ((List Edg) × Int) (Empty)) := fun (v3_54, to7_54) =>
 br (decide (to7_54 < (ln l.body))) (
 bd (lp (roundelayref6_Edges_L4 l t from6_45 to7_54) (v3_54, 0)) fun o18 => o18.on (fun (v3_57, back8_57) =>
 ck (IR (to7_54 + 1)) <|
 some (.next (v3_57, (to7_54 + 1)))) (fun r => r.elim)) (
 some (.brk (v3_54, to7_54)))
noncomputable def roundelayref6_Edges_L0 (l : Lp) (t : Tgt) : ((List Edg) × Int) → Option (Stp ((List Edg) × Int) (Empty)) := fun (v3_45, from6_45) =>
 br (decide (from6_45 < (ln l.body))) (
 bd (lp (roundelayref6_Edges_L2 l t from6_45) (v3_45, 0)) fun o11 => o11.on (fun (v3_54, to7_54) =>
 ck (IR (from6_45 + 1)) <|
 some (.next (v3_54, (from6_45 + 1)))) (fun r => r.elim)) (
 some (.brk (v3_45, from6_45)))
noncomputable def roundelayref6_Edges_m (l : Lp) (t : Tgt) : Option (List Edg) :=
 bd (lp (roundelayref6_Edges_L0 l t) ([], 0)) fun o4 => o4.on (fun (v3_45, from6_45) =>
 some v3_45) (fun r => r.elim)

noncomputable def roundelayref6_May_m (l : Lp) (t : Tgt) : Option (Bool) :=
 bd (roundelayref2_May_m l) fun x3 =>
 bdG (x3) (roundelayref4_May_m t) fun x6 =>
 some (x3 && x6)
end Go.Rd
end

section
namespace Go.Rd
set_option linter.unusedVariables false
def MeetP (a b : Stm) (back size : Int) : Prop := ∃ i : Nat, (i : Int) < size ∧ (a.sp * i + a.pl) % size = (b.sp * (i + back) + b.pl) % size
def NearS (a : Stm) : Prop := -64 ≤ a.sp ∧ a.sp ≤ 64 ∧ -64 ≤ a.pl ∧ a.pl ≤ 64
theorem pow2 {k : Nat} (h : k ≤ 5) : (1 : Int) ≤ 2 ^ k ∧ (2 : Int) ^ k ≤ 32 ∧ ((2 ^ k : Nat) : Int) = 2 ^ k := ⟨(two_pow_5 k h).1, (two_pow_5 k h).2, by simp⟩
theorem bitAnd_mask {x : Int} {k : Nat} (h : k ≤ 5) : bitAnd x (2 ^ k - 1) = x % 2 ^ k := by
  have hp := pow2 h
  unfold bitAnd
  rw [and_mask _ _ h, wrap_i64]
  · have := Int.emod_nonneg x (show (2 : Int) ^ k ≠ 0 from by omega); omega
  · have := Int.emod_lt_of_pos x (show (0 : Int) < 2 ^ k from by omega); omega
theorem meet_s {a b : Stm} (ha : NearS a) (hb : NearS b) {back : Int} (h0 : 0 ≤ back) (h1 : back ≤ 32) {k : Nat} (hk : k ≤ 5) : dep_meet_m a b back (2 ^ k) = some (tb (MeetP a b back (2 ^ k))) := by
  obtain ⟨p1, p2, p3⟩ := pow2 hk
  unfold dep_meet_m
  have step : ∀ i : Nat, 0 ≤ i → i < 2 ^ k → (¬ ((a.sp * i + a.pl) % 2 ^ k = (b.sp * (i + back) + b.pl) % 2 ^ k) → dep_meet_L0 a b back (2 ^ k) i = some (.next ((i : Int) + 1))) ∧ (¬ ¬ ((a.sp * i + a.pl) % 2 ^ k = (b.sp * (i + back) + b.pl) % 2 ^ k) → dep_meet_L0 a b back (2 ^ k) i = some (.ret true)) := fun i _ hi => by
    have hi' : (i : Int) < 2 ^ k := by omega
    have m1 := mul_le ha.1 ha.2.1 (show (0 : Int) ≤ i from by omega) (show (i : Int) ≤ 64 from by omega)
    have m2 := mul_le hb.1 hb.2.1 (show (0 : Int) ≤ i + back from by omega) (show (i : Int) + back ≤ 64 from by omega)
    obtain ⟨_, _, a3, a4⟩ := ha
    obtain ⟨_, _, b3, b4⟩ := hb
    have hiff : ((a.sp * i + a.pl) % 2 ^ k = (b.sp * (i + back) + b.pl) % 2 ^ k) ↔ (a.sp * i + a.pl - b.sp * (i + back) - b.pl) % 2 ^ k = 0 := by
      rw [Int.emod_eq_emod_iff_emod_sub_eq_zero, Int.sub_sub]
    have e : dep_meet_L0 a b back (2 ^ k) i = br ((a.sp * i + a.pl - b.sp * (i + back) - b.pl) % 2 ^ k == 0) (some (.ret true)) (some (.next ((i : Int) + 1))) := by
      unfold dep_meet_L0
      rw [br_T hi', ck_IR (by omega) (by omega), ck_IR (by omega) (by omega), ck_IR (by omega) (by omega), ck_IR (by omega) (by omega), ck_IR (by omega) (by omega), ck_IR (by omega) (by omega), ck_IR (by omega) (by omega), bitAnd_mask hk, ck_IR (by omega) (by omega)]
    rw [e, hiff]
    exact ⟨fun h => by rw [show ((a.sp * i + a.pl - b.sp * (i + back) - b.pl) % 2 ^ k == 0) = false from by simpa using h]; rfl, fun h => by rw [show ((a.sp * i + a.pl - b.sp * (i + back) - b.pl) % 2 ^ k == 0) = true from by simpa using h]; rfl⟩
  rcases lp_scan (f := dep_meet_L0 a b back (2 ^ k)) (n := 2 ^ k) (fun _ => true) (2 ^ k) 0 (by omega) step (by unfold dep_meet_L0; rw [p3]; exact br_F (by omega)) with ⟨h, e⟩ | ⟨i, _, h2, h3, _, e⟩
  · rw [show (((0 : Nat)) : Int) = 0 from rfl] at e
    rw [e, bd_ret, Out.on_go, tb_f]
    rintro ⟨i, hi, he⟩
    exact h i (by omega) (by omega) he
  · rw [show (((0 : Nat)) : Int) = 0 from rfl] at e
    rw [e, bd_ret, Out.on_ret, tb_t ⟨i, by omega, Classical.not_not.1 h3⟩]
theorem rmeet_s {a b : Stm} (ha : NearS a) (hb : NearS b) {back : Int} (h0 : 0 ≤ back) (h1 : back ≤ 32) {k : Nat} (hk : k ≤ 5) : roundelayref6_Meets_m a b back (2 ^ k) = some (tb (MeetP a b back (2 ^ k))) := by
  obtain ⟨p1, p2, p3⟩ := pow2 hk
  unfold roundelayref6_Meets_m
  have step : ∀ i : Nat, 0 ≤ i → i < 2 ^ k → (¬ ((a.sp * i + a.pl) % 2 ^ k = (b.sp * (i + back) + b.pl) % 2 ^ k) → roundelayref6_Meets_L0 a b back (2 ^ k) i = some (.next ((i : Int) + 1))) ∧ (¬ ¬ ((a.sp * i + a.pl) % 2 ^ k = (b.sp * (i + back) + b.pl) % 2 ^ k) → roundelayref6_Meets_L0 a b back (2 ^ k) i = some (.ret true)) := fun i _ hi => by
    have hi' : (i : Int) < 2 ^ k := by omega
    have m1 := mul_le ha.1 ha.2.1 (show (0 : Int) ≤ i from by omega) (show (i : Int) ≤ 64 from by omega)
    have m2 := mul_le hb.1 hb.2.1 (show (0 : Int) ≤ i + back from by omega) (show (i : Int) + back ≤ 64 from by omega)
    obtain ⟨_, _, a3, a4⟩ := ha
    obtain ⟨_, _, b3, b4⟩ := hb
    have e : roundelayref6_Meets_L0 a b back (2 ^ k) i = br ((a.sp * i + a.pl) % 2 ^ k == (b.sp * (i + back) + b.pl) % 2 ^ k) (some (.ret true)) (some (.next ((i : Int) + 1))) := by
      unfold roundelayref6_Meets_L0
      rw [br_T hi', ck_IR (by omega) (by omega), ck_IR (by omega) (by omega), Rest_s _ _ (by omega) (by omega), bd_ret, ck_IR (by omega) (by omega), ck_IR (by omega) (by omega), ck_IR (by omega) (by omega), Rest_s _ _ (by omega) (by omega), bd_ret, ck_IR (by omega) (by omega)]
    rw [e]
    exact ⟨fun h => by rw [beq_eq_false_iff_ne.2 h]; rfl, fun h => by rw [beq_iff_eq.2 (Classical.not_not.1 h)]; rfl⟩
  rcases lp_scan (f := roundelayref6_Meets_L0 a b back (2 ^ k)) (n := 2 ^ k) (fun _ => true) (2 ^ k) 0 (by omega) step (by unfold roundelayref6_Meets_L0; rw [p3]; exact br_F (by omega)) with ⟨h, e⟩ | ⟨i, _, h2, h3, _, e⟩
  · rw [show (((0 : Nat)) : Int) = 0 from rfl] at e
    rw [e, bd_ret, Out.on_go, tb_f]
    rintro ⟨i, hi, he⟩
    exact h i (by omega) (by omega) he
  · rw [show (((0 : Nat)) : Int) = 0 from rfl] at e
    rw [e, bd_ret, Out.on_ret, tb_t ⟨i, by omega, Classical.not_not.1 h3⟩]
def wordS (s : Stm) : Prop := s.op = 3 ∨ s.op = 4
def leastV (fr to : Int) : Int := if fr ≥ to then 1 else 0
def sizeV (l : Lp) (a : Stm) : Int := 2 ^ (ele l.logs a.ar).toNat
def memC (l : Lp) (fr to : Int) : Prop := wordS (ele l.body fr) ∧ wordS (ele l.body to) ∧ (ele l.body fr).ar = (ele l.body to).ar ∧ ((ele l.body fr).op = 4 ∨ (ele l.body to).op = 4)
structure MemE (l : Lp) (f u : Int) (e : Edg) : Prop where
  c : memC l f u
  fr : e.fr = f
  to : e.to = u
  wt : e.wt = if (ele l.body f).op = 4 then 1 else 0
  lo : leastV f u ≤ e.bk
  hi : e.bk ≤ sizeV l (ele l.body f)
  meet : MeetP (ele l.body f) (ele l.body u) e.bk (sizeV l (ele l.body f))
  first : ∀ k : Int, leastV f u ≤ k → k < e.bk → ¬ MeetP (ele l.body f) (ele l.body u) k (sizeV l (ele l.body f))
theorem MemE.one {l : Lp} {fr to : Int} {e e' : Edg} (h : MemE l fr to e) (h' : MemE l fr to e') : e = e' := by
  have hb : e.bk = e'.bk := by
    rcases Int.lt_trichotomy e.bk e'.bk with hh | hh | hh
    · exact absurd h.meet (h'.first _ h.lo hh)
    · exact hh
    · exact absurd h'.meet (h.first _ h'.lo hh)
  have h1 := h.fr.trans h'.fr.symm
  have h2 := h.to.trans h'.to.symm
  have h3 := h.wt.trans h'.wt.symm
  cases e; cases e'
  simp only [Edg.mk.injEq]
  exact ⟨h1, h2, hb, h3⟩
theorem word_near {l : Lp} (hl : LoopOk l) {i : Nat} (hi : i < l.body.length) (h : wordS (ele l.body (i : Int))) : NearS (ele l.body (i : Int)) ∧ IX (ele l.body (i : Int)).ar (ln l.logs) ∧ 0 ≤ ele l.logs (ele l.body (i : Int)).ar ∧ ele l.logs (ele l.body (i : Int)).ar ≤ 5 := by
  obtain ⟨_, _, q3⟩ := hl.stm i hi
  rw [show l.body.getD i Stm.zero = ele l.body (i : Int) from rfl] at q3
  generalize ele l.body (i : Int) = s at q3 h
  have hw : WordOk l.logs.length s := by
    unfold wordS at h
    rcases q3 with h' | h' | h' | h' | h' <;> first | exact h'.2.2.1 | omega
  obtain ⟨w1, w2, w3⟩ := hw
  have hlg := hl.log s.ar.toNat (by omega)
  exact ⟨w3, ⟨w1, by unfold ln; omega⟩, hlg⟩
theorem leastV_bd (fr to : Int) : 0 ≤ leastV fr to ∧ leastV fr to ≤ 1 := by unfold leastV; split <;> omega
theorem boolC {l : Lp} {fr to : Int} : ((((!((ele l.body fr).op == 3 || (ele l.body fr).op == 4)) || (!(if ((ele l.body fr).op == 3 || (ele l.body fr).op == 4) = true then ((ele l.body to).op == 3 || (ele l.body to).op == 4) else false))) || ((ele l.body fr).ar != (ele l.body to).ar)) || (((ele l.body fr).op == 3) && ((ele l.body to).op == 3))) = !tb (memC l fr to) := by
  unfold memC
  generalize ele l.body fr = a
  generalize ele l.body to = b
  have : (!((((!(a.op == 3 || a.op == 4)) || (!(if (a.op == 3 || a.op == 4) = true then (b.op == 3 || b.op == 4) else false))) || (a.ar != b.ar)) || ((a.op == 3) && (b.op == 3)))) = tb (wordS a ∧ wordS b ∧ a.ar = b.ar ∧ (a.op = 4 ∨ b.op = 4)) := by
    refine tb_eq ?_
    unfold wordS
    by_cases h1 : a.op = 3 <;> by_cases h2 : a.op = 4 <;> by_cases h3 : b.op = 3 <;> by_cases h4 : b.op = 4 <;> by_cases h5 : a.ar = b.ar <;> simp_all
  rw [← this, Bool.not_not]
theorem memory_s {l : Lp} (hl : LoopOk l) {fr to : Nat} (h1 : fr < l.body.length) (h2 : to < l.body.length) : ∃ r, dep_memory_m l fr to = some r ∧ ((r.2 = true ∧ MemE l fr to r.1) ∨ (r.2 = false ∧ ∀ e, ¬ MemE l fr to e)) := by
  unfold dep_memory_m dep_words_m
  rw [ck_IX (by omega) (by unfold ln; omega), ck_IX (by omega) (by unfold ln; omega), bd_ret]
  simp only [bdG_some', Bool.not_not]
  rw [boolC]
  by_cases hc : memC l fr to
  · rw [tb_t hc, Bool.not_true, br_false, br_go, bd_ret, Out.on_go, br_go, bd_ret, Out.on_go]
    obtain ⟨n1, x1, g1, g2⟩ := word_near hl h1 hc.1
    obtain ⟨n2, _, _, _⟩ := word_near hl h2 hc.2.1
    have hk : (ele l.logs (ele l.body (fr : Int)).ar).toNat ≤ 5 := by omega
    obtain ⟨p1, p2, p3⟩ := pow2 hk
    have hsz : shlD 1 (ele l.logs (ele l.body (fr : Int)).ar) = sizeV l (ele l.body (fr : Int)) := shl_one _ g1 g2
    have hS : sizeV l (ele l.body (fr : Int)) = 2 ^ (ele l.logs (ele l.body (fr : Int)).ar).toNat := rfl
    rw [ck_yes x1, ck_yes g1]
    have hle : (if decide ((fr : Int) ≥ to) = true then (1 : Int) else 0) = leastV fr to := by unfold leastV; simp
    have hwt : (if ((ele l.body (fr : Int)).op == 4) = true then (1 : Int) else 0) = if (ele l.body (fr : Int)).op = 4 then 1 else 0 := by simp
    rw [hle, hwt]
    have hlb := leastV_bd fr to
    generalize hW : (if (ele l.body (fr : Int)).op = 4 then (1 : Int) else 0) = W
    have hm : ∀ k : Int, 0 ≤ k → k ≤ 32 → dep_meet_m (ele l.body (fr : Int)) (ele l.body (to : Int)) k (sizeV l (ele l.body (fr : Int))) = some (tb (MeetP (ele l.body (fr : Int)) (ele l.body (to : Int)) k (sizeV l (ele l.body (fr : Int))))) := fun k a b => meet_s n1 n2 a b hk
    generalize hSS : sizeV l (ele l.body (fr : Int)) = Sz at hm hS hsz
    have hn : ((Sz.toNat : Nat) : Int) = Sz := by omega
    have step : ∀ i : Nat, (leastV fr to).toNat ≤ i → i < Sz.toNat + 1 → (¬ MeetP (ele l.body (fr : Int)) (ele l.body (to : Int)) i Sz → dep_memory_L0 l fr to W i = some (.next ((i : Int) + 1))) ∧ (¬ ¬ MeetP (ele l.body (fr : Int)) (ele l.body (to : Int)) i Sz → dep_memory_L0 l fr to W i = some (.ret (Edg.mk fr to i W, true))) := fun i _ hi => by
      have e : dep_memory_L0 l fr to W i = br (tb (MeetP (ele l.body (fr : Int)) (ele l.body (to : Int)) i Sz)) (some (.ret (Edg.mk fr to i W, true))) (some (.next ((i : Int) + 1))) := by
        unfold dep_memory_L0
        rw [hsz, br_T (by omega), hm i (by omega) (by omega), bd_ret, ck_IR (by omega) (by omega)]
      rw [e]
      exact ⟨fun h => by rw [tb_f h]; rfl, fun h => by rw [tb_t (Classical.not_not.1 h)]; rfl⟩
    rcases lp_scan (f := dep_memory_L0 l fr to W) (n := Sz.toNat + 1) (fun i => (Edg.mk fr to i W, true)) (Sz.toNat + 1 - (leastV fr to).toNat) (leastV fr to).toNat (by omega) step (by unfold dep_memory_L0; rw [hsz]; exact br_F (by omega)) with ⟨h, e⟩ | ⟨i, h3, h4, h5, h6, e⟩
    · rw [show (((leastV fr to).toNat : Nat) : Int) = leastV fr to from by omega] at e
      rw [e, bd_ret, Out.on_go]
      refine ⟨_, rfl, .inr ⟨rfl, fun e he => ?_⟩⟩
      have hlo := he.lo; have hhi := he.hi; have hme := he.meet
      rw [hSS] at hhi hme
      have hek : ((e.bk.toNat : Nat) : Int) = e.bk := by omega
      refine h e.bk.toNat (by omega) (by omega) ?_
      rw [hek]; exact hme
    · rw [show (((leastV fr to).toNat : Nat) : Int) = leastV fr to from by omega] at e
      rw [e, bd_ret, Out.on_ret]
      refine ⟨_, rfl, .inl ⟨rfl, ⟨hc, rfl, rfl, hW.symm, by show leastV fr to ≤ (i : Int); omega, by rw [hSS]; show (i : Int) ≤ Sz; omega, by rw [hSS]; exact Classical.not_not.1 h5, fun k hk1 hk2 => ?_⟩⟩⟩
      rw [hSS]
      have hk2' : k < (i : Int) := hk2
      have hkk : ((k.toNat : Nat) : Int) = k := by omega
      have := h6 k.toNat (by omega) (by omega)
      rwa [hkk] at this
  · rw [tb_f hc, Bool.not_false, br_true]
    exact ⟨_, rfl, .inr ⟨rfl, fun e he => hc he.c⟩⟩
def UseE (l : Lp) (t : Tgt) (to : Int) (e : Edg) : Prop := ∃ r ∈ usesL (ele l.body to), e = ⟨r.st, to, r.bk, waitV t (ele l.body r.st).op⟩
theorem uses_ok {l : Lp} (hl : LoopOk l) {i : Nat} (hi : i < l.body.length) {r : Rf} (hr : r ∈ usesL (ele l.body (i : Int))) : RefOk l.body.length i r := by
  obtain ⟨q1, q2, q3⟩ := hl.stm i hi
  rw [show l.body.getD i Stm.zero = ele l.body (i : Int) from rfl] at q1 q2 q3
  generalize ele l.body (i : Int) = s at q1 q2 q3 hr
  unfold usesL at hr
  split at hr
  · simp only [List.mem_singleton] at hr; subst hr; exact q1 (.inl ‹_›)
  · split at hr
    · simp only [List.mem_cons, List.not_mem_nil, or_false] at hr
      rcases hr with rfl | rfl
      · exact q1 (.inr ‹_›)
      · exact q2 ‹_›
    · cases hr
theorem RefOk.st {n k : Int} {r : Rf} (h : RefOk n k r) (hk : k ≤ n) : 0 ≤ r.st ∧ r.st < n := by
  obtain ⟨a1, a2, a3, a4, a5⟩ := h
  refine ⟨a3, ?_⟩
  by_cases hb : r.bk = 0
  · have := a4 hb; omega
  · exact a5 hb
def EdgeP (l : Lp) (t : Tgt) (e : Edg) : Prop := ∃ to : Nat, to < l.body.length ∧ (UseE l t to e ∨ ∃ fr : Nat, fr < l.body.length ∧ MemE l fr to e)
structure EdgeIn (n : Int) (e : Edg) : Prop where
  fr : 0 ≤ e.fr ∧ e.fr < n
  to : 0 ≤ e.to ∧ e.to < n
  bk : 0 ≤ e.bk ∧ e.bk ≤ 32
  wt : 0 ≤ e.wt ∧ e.wt ≤ 6
  ahead : e.bk = 0 → e.fr < e.to
theorem MemE.in {l : Lp} (hl : LoopOk l) {fr to : Nat} (h1 : fr < l.body.length) (h2 : to < l.body.length) {e : Edg} (h : MemE l fr to e) : EdgeIn l.body.length e := by
  obtain ⟨n1, x1, g1, g2⟩ := word_near hl h1 h.c.1
  obtain ⟨p1, p2, p3⟩ := pow2 (show (ele l.logs (ele l.body (fr : Int)).ar).toNat ≤ 5 from by omega)
  have hlo := h.lo; have hhi := h.hi
  have hlb := leastV_bd fr to
  have hS : sizeV l (ele l.body (fr : Int)) = 2 ^ (ele l.logs (ele l.body (fr : Int)).ar).toNat := rfl
  have hwt := h.wt
  refine ⟨by rw [h.fr]; omega, by rw [h.to]; omega, by omega, by split at hwt <;> omega, fun h0 => ?_⟩
  rw [h.fr, h.to]
  unfold leastV at hlo
  split at hlo <;> omega
theorem UseE.in {l : Lp} (hl : LoopOk l) {t : Tgt} {to : Nat} (h2 : to < l.body.length) {e : Edg} (h : UseE l t to e) : EdgeIn l.body.length e := by
  obtain ⟨r, hr, rfl⟩ := h
  have hk := uses_ok hl h2 hr
  have hst := hk.st (by omega)
  obtain ⟨a1, a2, a3, a4, a5⟩ := hk
  have hw := waitV_bd t (ele l.body r.st).op
  exact ⟨hst, ⟨by show (0 : Int) ≤ to; omega, by show (to : Int) < _; omega⟩, ⟨a1, by show r.bk ≤ 32; omega⟩, hw, fun h0 => a4 h0⟩
theorem EdgeP.in {l : Lp} (hl : LoopOk l) {t : Tgt} {e : Edg} (h : EdgeP l t e) : EdgeIn l.body.length e := by
  obtain ⟨to, h1, h2 | ⟨fr, h2, h3⟩⟩ := h
  · exact h2.in hl h1
  · exact h3.in hl h2 h1
end Go.Rd
end

section
namespace Go.Rd
set_option linter.unusedVariables false
def cmpV (x y : Int) : Int := if x < y then -1 else if y < x then 1 else 0
theorem cmp_s (x y : Int) : cmp_Compare_int__m x y = some (cmpV x y) := by
  unfold cmp_Compare_int__m cmp_isNaN_int__m cmpV
  simp only [bd_ret, bne_self_eq_false, br_false, br_eq, decide_eq_true_eq]
  by_cases h : x < y
  · simp [h]
  · by_cases h2 : y < x
    · simp [h, h2]
    · simp [h, h2]
theorem or_s (a b c d : Int) : cmp_Or_int__m [a, b, c, d] = some (if a ≠ 0 then a else if b ≠ 0 then b else if c ≠ 0 then c else d) := by
  unfold cmp_Or_int__m
  have st : ∀ (i : Nat) (v : Int), i < 4 → ele [a, b, c, d] (i : Int) = v → cmp_Or_int__L0 [a, b, c, d] i = br (v != 0) (some (.ret v)) (some (.next ((i + 1 : Nat) : Int))) := fun i v hi hv => by
    unfold cmp_Or_int__L0
    rw [br_T (by show (i : Int) < 4; omega), ck_IX (by omega) (by show (i : Int) < 4; omega), hv, ck_IR (by omega) (by omega)]
    rfl
  have s0 := st 0 a (by omega) rfl
  have s1 := st 1 b (by omega) rfl
  have s2 := st 2 c (by omega) rfl
  have s3 := st 3 d (by omega) rfl
  have s4 : cmp_Or_int__L0 [a, b, c, d] 4 = some (.brk 4) := by unfold cmp_Or_int__L0; exact br_F (by show ¬ ((4 : Int) < 4); omega)
  have key : ∀ (i : Nat) (v : Int) (r : Option (Out Int Int)), cmp_Or_int__L0 [a, b, c, d] i = br (v != 0) (some (.ret v)) (some (.next ((i + 1 : Nat) : Int))) → lp (cmp_Or_int__L0 [a, b, c, d]) ((i + 1 : Nat) : Int) = r → lp (cmp_Or_int__L0 [a, b, c, d]) i = if v ≠ 0 then some (.ret v) else r := fun i v r h1 h2 => by
    by_cases hv : v = 0
    · subst hv
      simp only [bne_self_eq_false, br_false] at h1
      rw [lp_next h1, h2]; rfl
    · rw [show (v != 0) = true from by simpa using hv, br_true] at h1
      rw [lp_ret h1, if_pos hv]
  have h4 : lp (cmp_Or_int__L0 [a, b, c, d]) ((3 + 1 : Nat) : Int) = some (.go 4) := lp_brk s4
  have h0 := key 0 a _ s0 (key 1 b _ s1 (key 2 c _ s2 (key 3 d _ s3 h4)))
  rw [show ((0 : Nat) : Int) = 0 from rfl] at h0
  rw [h0]
  by_cases ha : a = 0
  · by_cases hb : b = 0
    · by_cases hc : c = 0
      · by_cases hd : d = 0
        · simp [ha, hb, hc, hd]
        · simp [ha, hb, hc, hd]
      · simp [ha, hb, hc]
    · simp [ha, hb]
  · simp [ha]
theorem order_s (a b : Edg) : dep_order_m a b = some (ordV a b) := by
  unfold dep_order_m
  simp only [cmp_s, bd_ret, or_s]
  congr 1
  unfold cmpV ordV
  by_cases h1 : a.fr < b.fr
  · simp [h1]
  by_cases h2 : b.fr < a.fr
  · simp [h1, h2]
  by_cases h3 : a.to < b.to
  · simp [h1, h2, h3]
  by_cases h4 : b.to < a.to
  · simp [h1, h2, h3, h4]
  by_cases h5 : a.bk < b.bk
  · simp [h1, h2, h3, h4, h5]
  by_cases h6 : b.bk < a.bk
  · simp [h1, h2, h3, h4, h5, h6]
  simp [h1, h2, h3, h4, h5, h6]
theorem ordV_neg {a b : Edg} : ordV a b < 0 ↔ a.fr < b.fr ∨ (a.fr = b.fr ∧ (a.to < b.to ∨ (a.to = b.to ∧ (a.bk < b.bk ∨ (a.bk = b.bk ∧ a.wt < b.wt))))) := by
  unfold ordV
  repeat' split
  all_goals omega
end Go.Rd
end
