/- Texts for the law, 2. -/
import Derived.Test.YtaimbkndebaaiacZLbuildRuns1
import Derived.Laws.OwnMore
import Derived.MapKept
import Derived.ChangeMaps5
set_option linter.unusedVariables false
set_option linter.unusedSimpArgs false
set_option maxRecDepth 8000
section
namespace Go.Rd
open Go.RowKit
theorem Vk {α:Type}{c:α→Value}{enc:α→List Value} (he:∀ u,enc u=[c u]):∀ xs:List α,(xs.map enc).flatten=xs.map c
 | []=>rfl
 | x::xs=>by simp[he,Vk he xs]
theorem Amm {α β:Type}{f:α→β}{xs:List α}{i:Int}{z:α}:(upd xs i z).map f=(xs.map f).set i.toNat (f z):=by unfold upd;rw[List.map_set]
theorem Ck {α:Type}{xs:List α}{i:Int}{z:α}:(upd xs i z).length=xs.length:=by simp[upd]
theorem Ahu {b n c:Nat}{i:Int}{p:Addr} (h:H1 (.slice (some ⟨b,0,none⟩) n c) i 1 p):p=⟨b,i.toNat,none⟩:=by
 obtain⟨a,n',c',he,h0,h1,rfl⟩:=h
 simp only[Value.slice.injEq,Option.some.injEq] at he
 obtain⟨rfl,_,_⟩:=he
 rw[Addr.add_lit];simp
theorem Yh {P:Program}{w:World}{p:Addr}{v u:Value} (h:w.cell? p=some v) (hf:w.frozen? p=false) (h1:u.oneCell'=true):(store p u).run P w=.ok () (w.setCell p u):=by
 cases u <;> simp_all [store,Sem.run,Value.oneCell']
theorem Ws {P:Program}{α:Type}{c:α→Value}{enc:α→List Value} (he:∀ u,enc u=[c u]) {w:World}{v:Value}{E:TypeId}{xs:List α}{i:Int}{p:Addr}{z:α} (h:(vec v E 1 (xs.map enc)).holds w) (hp:H1 v i 1 p) (h1:(c z).oneCell'=true) :
  ∃ b,(∃ n k,v=.slice (some ⟨b,0,none⟩) n k)∧p=⟨b,i.toNat,none⟩∧(store p (c z)).run P w=.ok () (w.setCell p (c z))∧(vec v E 1 ((upd xs i z).map enc)).holds (w.setCell p (c z)) ∧
   (∀ j,j≠b→(w.setCell p (c z)).heap[j]?=w.heap[j]?):=by
 obtain⟨ho,hl⟩:=h
 rcases ho.2 with ⟨rfl,_⟩ | ⟨b,cap,cur,rfl,hb,hh,hnc,hcm,hcs,ht⟩
 ·obtain⟨a,n,c',he',_⟩:=hp;simp at he'
 ·have hpe:=Ahu hp
  subst hpe
  obtain⟨a,n',c',he',h0,hi,_⟩:=hp
  simp only[Value.slice.injEq,Option.some.injEq] at he'
  obtain⟨_,rfl,rfl⟩:=he'
  have hsz:i.toNat<cur.size:=by rw[hcs];omega
  have Mo:w.cell? ⟨b,i.toNat,none⟩=some cur[i.toNat]:=by simp[World.cell?,hh,hsz]
  have hfr:w.frozen? ⟨b,i.toNat,none⟩=false:=by simp[World.frozen?,hh]
  obtain⟨hst,hg⟩:=World.ownsRow.stored ho i.toNat (c z)
  refine⟨b,⟨_,_,rfl⟩,rfl,Yh Mo hfr h1,⟨?_,?_⟩,fun j hj=>Below.heap_setCell _ _ _ _ hj⟩
  ·rw[Vk he] at hst ⊢
   rw[Amm (f:=c)]
   simpa [Ck] using hst
  ·intro r hr
   obtain⟨u,_,rfl⟩:=List.mem_map.1 hr
   simp[he]
section
variable {P : Program} {n : Nat} {σ : Env} {M : Nat → Prop} {w0 : World} {H : List Res} {d : Option Tmp} {T U E E2 S T2 : TypeId} {pos : String} {after : Array Edge} {gd : Option (Nat × Bool)} {x y : Operand} {g g' : Bool} {v : Value}
 {K:Act→World→Prop}{Q:Exit→Act→World→Prop}
theorem Ot {α:Type}{c:α→Value}{enc:α→List Value} (k:Nat) (z:α) {xs:List α}{i:Int}{p:Addr} (he:∀ u,enc u=[c u]) (hx:σ.ev x=some (g,.pointer (some p))) (hg:g=true) (hy:σ.ev y=some (g',c z)) (hg':g'=true)
  (hk:H[k]?=some (vec v E 1 (xs.map enc))) (hp:H1 v i 1 p) (h1:(c z).oneCell'=true) (hv:(c z).cells=[c z].toArray) (hs:C8 P T 1)
  (kk:WK n K σ (Own M w0 (H.set k (vec v E 1 ((upd xs i z).map enc))))):EV P n ⟨none,.store T x y,U,pos,after,gd⟩ σ (Own M w0 H) K Q:=fun a w ha hw=>by
 refine .inl ?_
 obtain⟨b,⟨n1,k1,rfl⟩,rfl,h3,h4,h5⟩:=Ws (P:=P) he (z:=z) (hw.at k hk) hp h1
 obtain⟨inf,hi,hsz⟩:=Option.map_eq_some_iff.1 hs
 have hrun:(execOp a.eval ⟨none,.store T x y,U,pos,after,gd⟩).run P w=.ok .skip (w.setCell ⟨b,i.toNat,none⟩ (c z)):=by
  simp[execOp,ha.ev hx hg,ha.ev hy hg',Instr.storeAt,Instr.sureAddr,storeVar,hv,sizeOf,typeInfo,hi,hsz,storeCells,h3,Addr.add]
 unfold Oper.wp
 rw[hrun]
 show K (a.put none undef) _
 have hlt:b<w.heap.size:=Df (hw.at k hk) b ⟨_,_,rfl⟩
 refine kk a _ ha (hw.upd k hk rfl rfl ⟨rfl,Nat.le_refl _⟩ (by simp[World.setCell]) (fun c hc hne=>h5 c fun e=>hne (by subst e;exact⟨_,_,rfl⟩)) h4 fun c hc=>?_)
 obtain⟨n2,k2,he2⟩:=hc
 simp only[Value.slice.injEq,Option.some.injEq,Addr.mk.injEq] at he2
 obtain⟨⟨rfl,_⟩,_⟩:=he2
 exact⟨.inl ⟨_,_,rfl⟩,by simpa [World.setCell] using hlt⟩
theorem EV.makeSlice {α:Type}{enc:α→List Value} (z:α) {dd sz bytes:Nat}{m:Int} (hn:dd<n) (hV:Rl P T E sz bytes) (hz:ZeroT P E (enc z)) (hx:σ.ev x=some (g,.int .i64 m)) (hg:g=true) (h0:0≤m) (hl:(enc z).length=sz) (hA:AL m.toNat bytes)
  (kk:∀ u,SliceLen u (List.replicate m.toNat z).length→WK n K ((dd,(true,u))::σ) (Own M w0 (vec u E sz ((List.replicate m.toNat z).map enc)::H))):EV P n ⟨some dd,.makeSlice T x x,U,pos,after,gd⟩ σ (Own M w0 H) K Q:=fun a w ha hw=>by
 refine .inl ?_
 obtain⟨hU,hi,hsz⟩:=hV
 obtain⟨i,hi,hq⟩:=Option.map_eq_some_iff.1 hi
 simp only[Prod.mk.injEq] at hq
 obtain⟨hzq,his,hib⟩:=hq
 obtain⟨i',zv,h1,h2,h3⟩:=hz.out
 have:i'=i:=by rw[hi] at h1;cases h1;rfl
 subst this
 have hm:(m.toNat:Int)=m:=Int.toNat_of_nonneg h0
 obtain⟨w',hr,ho,hgr⟩:=run_make_full (P:=P) w w.heap.size T E i' zv sz hU hi h2 his .i64 .i64 m.toNat (by rw[hib];have:=hA.2;rw[Nat.mul_comm];omega) hA.1 (Nat.le_refl _)
 rw[hm] at hr
 have hrun:(execOp a.eval ⟨some dd,.makeSlice T x x,U,pos,after,gd⟩).run P w=.ok (.value (.slice (some ⟨w.heap.size,0,none⟩) m.toNat m.toNat)) w':=by
  simp[execOp,ha.ev hx hg,hr,Result.andThen]
 unfold Oper.wp
 rw[hrun]
 show K (a.put (some dd) _) _
 have hrep:(madeCells zv.cells (m.toNat * sz)).toList=((List.replicate m.toNat z).map enc).flatten:=by
  rw[h3]
  apply List.ext_getElem?
  intro j
  have hfl:((List.replicate m.toNat z).map enc).flatten.length=m.toNat * sz:=by
   rw[Cd (sz:=sz) (by intro r hr;obtain⟨u,hu,rfl⟩:=List.mem_map.1 hr;rw[List.mem_replicate] at hu;rw[hu.2,hl])];simp
  by_cases hj:j<m.toNat * sz
  ·have hq:j / sz<m.toNat:=Nat.div_lt_of_lt_mul (by rwa [Nat.mul_comm] at hj)
   have hd:=Gg (sz:=sz) (rows:=(List.replicate m.toNat z).map enc) (i:=j / sz) (r:=enc z) (by intro r hr;obtain⟨u,hu,rfl⟩:=List.mem_map.1 hr;rw[List.mem_replicate] at hu;rw[hu.2,hl]) (by simp[hq])
   have hmod:j % sz<sz:=Nat.mod_lt _ hsz
   have e1:((List.replicate m.toNat z).map enc).flatten[j]?=(enc z)[j % sz]?:=by
    have:(enc z)[j % sz]?=((((List.replicate m.toNat z).map enc).flatten.drop (j / sz * sz)).take (enc z).length)[j % sz]?:=by rw[hd]
    rw[this,List.getElem?_take,hl,if_pos hmod,List.getElem?_drop,Nat.mul_comm,Nat.div_add_mod]
   rw[e1]
   have hlt:j % sz<(enc z).length:=by rw[hl];exact hmod
   simp[madeCells,hj,hl,List.getElem?_eq_getElem hlt]
  ·have hj':=Nat.le_of_not_lt hj
   rw[List.getElem?_eq_none (by rw[Array.length_toList,size_madeCells];exact hj'),List.getElem?_eq_none (by rw[hfl];exact hj')]
 have hholds:(vec (.slice (some ⟨w.heap.size,0,none⟩) m.toNat m.toNat) E sz ((List.replicate m.toNat z).map enc)).holds w':=by
  refine⟨?_,fun r hr=>?_⟩
  ·rw[←hrep]
   have:((List.replicate m.toNat z).map enc).length=m.toNat:=by simp
   rw[this]
   refine⟨ho.1,?_⟩
   rcases ho.2 with h | ⟨g2,c2,cur,q1,q2,q3⟩
   ·exact .inl h
   ·exact .inr ⟨g2,c2,cur,q1,Nat.zero_le _,q3⟩
  ·obtain⟨u,hu,rfl⟩:=List.mem_map.1 hr
   rw[List.mem_replicate] at hu;rw[hu.2,hl]
 have hgrow:Grow w w':=⟨hgr.os,hgr.tape,⟨hgr.output,Oh _ _ hr⟩,hgr.size,fun b hb=>hgr.block b hb (by simp)⟩
 refine kk _ ?_ _ _ (ha.put hn true _) (hw.push hgrow _ hholds fun b hb=>?_)
 ·exact⟨some ⟨w.heap.size,0,none⟩,m.toNat,by simp,fun _=>rfl,by simp⟩
 ·have hlt:=Df hholds b hb
  obtain⟨n2,k2,he2⟩:=hb
  simp only[Value.slice.injEq,Option.some.injEq,Addr.mk.injEq] at he2
  obtain⟨⟨rfl,_⟩,_⟩:=he2
  exact⟨Nat.le_refl _,hlt⟩
end
theorem Ob:∀ u:Int,Af u=[Cg u]:=fun _=>rfl
end Go.Rd
end
section
namespace Go.Rd
open Go.RowKit
def Mo (h:Value):List Value:=[h]
theorem Ak4:∀ u:Value,Mo u=[id u]:=fun _=>rfl
def H4:Value:=.slice none 0 0
def hat (hs:List Value) (i:Int):Value:=hs.getD i.toNat H4
def L8 (h:Value) (b:Nat):Prop:=∃ n c,h=.slice (some ⟨b,0,none⟩) n c
def updG (xss:List (List Int)) (i j:Int) (z:Int):List (List Int):=upd xss i (upd (ele xss i) j z)
def GL (hs:List Value) (xss:List (List Int)):Prop:=hs.length=xss.length∧∀ i:Nat,SliceLen (hs.getD i H4) (xss.getD i []).length
def Bv (v:Value) (hs:List Value) (E1 E2:TypeId) (xss:List (List Int)):Res where
 foot:=fun b=>L8 v b∨∃ i:Nat,i<hs.length∧L8 (hs.getD i H4) b
 holds:=fun w=>(vec v E1 1 (hs.map Mo)).holds w∧hs.length=xss.length∧(∀ i:Nat,i<hs.length→(vec (hs.getD i H4) E2 1 ((xss.getD i []).map Af)).holds w) ∧
  (∀ i j:Nat,i<hs.length→j<hs.length→i≠j→∀ b,L8 (hs.getD i H4) b→¬L8 (hs.getD j H4) b)∧∀ i:Nat,i<hs.length→∀ b,L8 (hs.getD i H4) b→¬L8 v b
 stable:=fun w w' ⟨h1,h2,h3,h4,h5⟩ hk=>⟨(vec v E1 1 (hs.map Mo)).stable w w' h1 fun b hb=>hk b (.inl hb),h2,fun i hi=>(vec _ E2 1 _).stable w w' (h3 i hi) fun b hb=>hk b (.inr ⟨i,hi,hb⟩),h4,h5⟩
section
variable {w : World} {v : Value} {hs : List Value} {E1 E2 : TypeId} {xss : List (List Int)} {i j : Int} {p : Addr}
theorem getD_some {α:Type}{l:List α}{d:α}{i:Nat} (h:i<l.length):l[i]?=some (l.getD i d):=by
 rw[List.getD_eq_getElem?_getD,List.getElem?_eq_getElem h];rfl
theorem Alb (xss:List (List Int)) (i:Int):ele xss i=xss.getD i.toNat []:=rfl
theorem Ajy {v:Value}{E sz:Nat}{rows:List (List Value)} (h:(vec v E sz rows).holds w):SliceLen v rows.length:=(Cf h).len
theorem GL.ix (h:GL hs xss) (i:Int):SliceLen (hat hs i) (ele xss i).length:=h.2 i.toNat
theorem Fm {α:Type}{v:Value}{xs:List α}{i:Int}{z:α} (h:SliceLen v xs.length):SliceLen v (upd xs i z).length:=by rw[Ck];exact h
theorem Og {v:Value}{xss:List (List Int)}{i j z:Int} (h:SliceLen v xss.length):SliceLen v (Rd.updG xss i j z).length:=by unfold Rd.updG;rw[Ck];exact h
theorem Acp {v:Value}{B:List (Value×List Int)}{xss:List (List Int)} (h:B.map (·.2)=xss) (hs:SliceLen v B.length):SliceLen v xss.length:=by subst h;rwa [List.length_map]
theorem GL.nil:GL [] []:=⟨rfl,fun _=>SliceLen.nil⟩
theorem GL.snoc {u:Value}{xs:List Int} (h:GL hs xss) (hu:SliceLen u xs.length):GL (hs++[u]) (xss++[xs]):=by
 refine⟨by simp[h.1],fun i=>?_⟩
 rcases Nat.lt_trichotomy i hs.length with hi | hi | hi
 ·have h1:(hs++[u]).getD i H4=hs.getD i H4:=by simp[List.getD_eq_getElem?_getD,List.getElem?_append_left hi]
  have h2:(xss++[xs]).getD i []=xss.getD i []:=by simp[List.getD_eq_getElem?_getD,List.getElem?_append_left (h.1▸hi)]
  rw[h1,h2];exact h.2 i
 ·subst hi
  have h1:(hs++[u]).getD hs.length H4=u:=by simp[List.getD_eq_getElem?_getD]
  have h2:(xss++[xs]).getD hs.length []=xs:=by rw[h.1];simp[List.getD_eq_getElem?_getD]
  rw[h1,h2];exact hu
 ·have h1:(hs++[u]).getD i H4=H4:=by rw[List.getD_eq_getElem?_getD,List.getElem?_eq_none (by simp;omega)];rfl
  have h2:(xss++[xs]).getD i []=[]:=by rw[List.getD_eq_getElem?_getD,List.getElem?_eq_none (by simp;have:=h.1;omega)];rfl
  rw[h1,h2];exact SliceLen.nil
theorem Jq {α:Type}{l:List α}{d z:α}{k:Nat}{i:Int}:(upd l i z).getD k d=if i.toNat=k∧k<l.length then z else l.getD k d:=by
 unfold upd
 rw[List.getD_eq_getElem?_getD,List.getElem?_set,List.getD_eq_getElem?_getD]
 by_cases h:i.toNat=k
 ·subst h
  by_cases hl:i.toNat<l.length
  ·simp[hl]
  ·simp[hl,List.getElem?_eq_none (Nat.le_of_not_lt hl)]
 ·simp[h]
theorem GL.upd {u:Value}{xs:List Int} (h:GL hs xss) (hu:SliceLen u xs.length) (i:Int):GL (upd hs i u) (upd xss i xs):=by
 refine⟨by simp[Ck,h.1],fun k=>?_⟩
 rw[Jq,Jq,h.1]
 split
 ·exact hu
 ·exact h.2 k
theorem GL.updG (h:GL hs xss) (i j z:Int):GL hs (updG xss i j z):=by
 refine⟨by simp[Rd.updG,Ck,h.1],fun k=>?_⟩
 unfold Rd.updG
 rw[Jq]
 split
 ·rename_i hk
  obtain⟨rfl,_⟩:=hk
  rw[Ck];exact h.2 i.toNat
 ·exact h.2 k
theorem Ap0 (n:Nat):GL (List.replicate n H4) (List.replicate n []):=by
 refine⟨by simp,fun i=>?_⟩
 have h1:(List.replicate n H4).getD i H4=H4:=by simp only[List.getD_eq_getElem?_getD,List.getElem?_replicate];split <;> rfl
 have h2:(List.replicate n ([]:List Int)).getD i []=[]:=by simp only[List.getD_eq_getElem?_getD,List.getElem?_replicate];split <;> rfl
 rw[h1,h2];exact SliceLen.nil
theorem Uu (h:(Bv v hs E1 E2 xss).holds w):RowsA w v xss:=by
 obtain⟨h1,h2,h3,h4,h5⟩:=h
 refine⟨hs.zip xss,by rw[List.map_snd_zip (by omega)],?_,fun q hq=>?_⟩
 ·have:=Cf h1
  have e:(hs.zip xss).map Jo=hs.map Mo:=by
   have:(hs.zip xss).map Jo=((hs.zip xss).map (·.1)).map Mo:=by rw[List.map_map];rfl
   rw[this,List.map_fst_zip (by omega)]
  rw[e];exact this
 ·obtain⟨k,hk,rfl⟩:=List.mem_iff_getElem.1 hq
  have hk1:k<hs.length:=by simp at hk;omega
  have hk2:k<xss.length:=by simp at hk;omega
  have:=Cf (h3 k hk1)
  rw[List.getD_eq_getElem?_getD,List.getElem?_eq_getElem hk1,List.getD_eq_getElem?_getD,List.getElem?_eq_getElem hk2] at this
  simpa using this
theorem Ak8 (h:(Bv v hs E1 E2 xss).holds w) (hp:H1 v i 1 p) (hi:IX i (ln xss)):w.cell? p=some (hat hs i):=by
 obtain⟨h1,h2,_⟩:=h
 have hlt:i.toNat<hs.length:=by have:=hi.1;have:=hi.2;unfold ln at this;omega
 have:=(Cf h1).row i.toNat [hs.getD i.toNat H4] p (by rw[List.getElem?_map,getD_some hlt];rfl) (by rwa [Int.toNat_of_nonneg hi.1])
 have h:=this.1
 simpa [Addr.add,hat,List.getD_eq_getElem?_getD] using h
theorem Ak9 (h:(Bv v hs E1 E2 xss).holds w) (hi:IX i (ln xss)):Arr w (hat hs i) 1 ((ele xss i).map Af):=by
 obtain⟨h1,h2,h3,_⟩:=h
 have hlt:i.toNat<hs.length:=by have:=hi.1;have:=hi.2;unfold ln at this;omega
 exact Cf (h3 i.toNat hlt)
theorem N7 {w w':World}{h:Value}{E sz:Nat}{rows:List (List Value)} (hv:(vec h E sz rows).holds w) (hk:∀ b,L8 h b→w'.heap[b]?=w.heap[b]?):(vec h E sz rows).holds w':=(vec h E sz rows).stable w w' hv hk
theorem Amz (h:(Bv v hs E1 E2 xss).holds w):∀ b,(Bv v hs E1 E2 xss).foot b→b<w.heap.size:=fun b hb=>by
 rcases hb with hb | ⟨i,hi,hb⟩
 ·exact Df h.1 b hb
 ·exact Df (h.2.2.1 i hi) b hb
end
section
variable {M : Nat → Prop} {w0 : World} {H : List Res} {v : Value} {hs : List Value} {E1 E2 : TypeId} {xss : List (List Int)} {i j : Int} {p : Addr}
theorem Di (k:Nat) (hk:H[k]?=some (Bv v hs E1 E2 xss)) (hp:H1 v i 1 p) (hi:IX i (ln xss)):∀ w,Own M w0 H w→w.cell? p=some (hat hs i):=fun w hw=>Ak8 (hw.at k hk) hp hi
theorem Gb (k:Nat) (hk:H[k]?=some (Bv v hs E1 E2 xss)) (hi:IX i (ln xss)):∀ w,Own M w0 H w→Arr w (hat hs i) 1 ((ele xss i).map Af):=fun w hw=>Ak9 (hw.at k hk) hi
theorem Own.gridNil {w:World} (h:Own M w0 H w) {E1 E2:TypeId}:Own M w0 (Bv H4 [] E1 E2 []::H) w:=by
 refine⟨h.1,⟨⟨Vz (α:=Value) (enc:=Mo),rfl,fun i hi=>absurd hi (Nat.not_lt_zero _),fun i j hi=>absurd hi (Nat.not_lt_zero _),fun i hi=>absurd hi (Nat.not_lt_zero _)⟩,fun b hb=>?_,fun s _ b hb=>?_⟩,h.2⟩
 ·rcases hb with ⟨_,_,hb⟩ | ⟨i,hi,_⟩
  ·simp[H4] at hb
  ·exact absurd hi (Nat.not_lt_zero _)
 ·rcases hb with ⟨_,_,hb⟩ | ⟨i,hi,_⟩
  ·simp[H4] at hb
  ·exact absurd hi (Nat.not_lt_zero _)
theorem Own.gridRep {w:World}{n:Nat} (h:Own M w0 (vec v E1 1 ((List.replicate n H4).map Mo)::H) w) (E2:TypeId):Own M w0 (Bv v (List.replicate n H4) E1 E2 (List.replicate n [])::H) w:=by
 obtain⟨h0,⟨h1,h2,h3⟩,h4⟩:=h
 have hn:∀ i:Nat,(List.replicate n H4).getD i H4=H4:=fun i=>by simp only[List.getD_eq_getElem?_getD,List.getElem?_replicate];split <;> rfl
 have hr:∀ i:Nat,(List.replicate n ([]:List Int)).getD i []=[]:=fun i=>by simp only[List.getD_eq_getElem?_getD,List.getElem?_replicate];split <;> rfl
 have hf:∀ i b,¬L8 ((List.replicate n H4).getD i H4) b:=fun i b ⟨_,_,hb⟩=>by rw[hn] at hb;simp[H4] at hb
 refine⟨h0,⟨⟨h1,by simp,fun i hi=>?_,fun i j _ _ _ b hb=>absurd hb (hf i b),fun i _ b hb=>absurd hb (hf i b)⟩,fun b hb=>?_,fun s hs b hb=>?_⟩,h4⟩
 ·rw[hn,hr];exact Vz (α:=Int) (enc:=Af)
 ·rcases hb with hb | ⟨i,_,hb⟩
  ·exact h2 b hb
  ·exact absurd hb (hf i b)
 ·rcases hb with hb | ⟨i,_,hb⟩
  ·exact h3 s hs b hb
  ·exact absurd hb (hf i b)
end
section
variable {P : Program} {n : Nat} {σ : Env} {M : Nat → Prop} {w0 : World} {H : List Res} {d : Option Tmp} {T U E E1 E2 : TypeId} {pos : String} {after : Array Edge} {gd : Option (Nat × Bool)} {x y : Operand} {g g' : Bool} {v u yv : Value} {hs : List Value} {xss : List (List Int)} {xs : List Int}
 {K:Act→World→Prop}{Q:Exit→Act→World→Prop}{i j:Int}{p:Addr}{w:World}
theorem Ak7 (h:(Bv v hs E1 E2 xss).holds w) (hi:IX i (ln xss)) (hp:H1 (hat hs i) j 1 p) (z:Int) :
  ∃ b,(Bv v hs E1 E2 xss).foot b∧(store p (Cg z)).run P w=.ok () (w.setCell p (Cg z))∧(Bv v hs E1 E2 (updG xss i j z)).holds (w.setCell p (Cg z))∧(∀ k,k≠b→(w.setCell p (Cg z)).heap[k]?=w.heap[k]?):=by
 obtain⟨h1,h2,h3,h4,h5⟩:=h
 have hlt:i.toNat<hs.length:=by have:=hi.1;have:=hi.2;unfold ln at this;omega
 obtain⟨b,⟨n1,k1,hb⟩,rfl,hst,hv,hsame⟩:=Ws (P:=P) (c:=Cg) Ob (z:=z) (h3 i.toNat hlt) hp rfl
 have hbf:L8 (hs.getD i.toNat H4) b:=⟨n1,k1,hb⟩
 refine⟨b,.inr ⟨_,hlt,hbf⟩,hst,⟨N7 h1 fun c hc=>hsame c fun e=>h5 _ hlt b hbf (e▸hc),by simp[updG,Ck,h2],fun k hk=>?_,h4,h5⟩,hsame⟩
 unfold updG
 rw[Jq]
 split
 ·rename_i e
  obtain⟨rfl,_⟩:=e
  exact hv
 ·rename_i e
  have hne:¬i.toNat=k:=fun e'=>e ⟨e',by omega⟩
  exact N7 (h3 k hk) fun c hc=>hsame c fun e'=>h4 i.toNat k hlt hk hne b hbf (e'▸hc)
theorem Ou (k:Nat) (z:Int) (hx:σ.ev x=some (g,.pointer (some p))) (hg:g=true) (hy:σ.ev y=some (g',.int .i64 z)) (hg':g'=true) (hk:H[k]?=some (Bv v hs E1 E2 xss)) (hi:IX i (ln xss)) (hp:H1 (hat hs i) j 1 p) (hs':C8 P T 1)
  (kk:WK n K σ (Own M w0 (H.set k (Bv v hs E1 E2 (updG xss i j z))))):EV P n ⟨none,.store T x y,U,pos,after,gd⟩ σ (Own M w0 H) K Q:=fun a w ha hw=>by
 refine .inl ?_
 obtain⟨b,hbf,h3,h4,h5⟩:=Ak7 (P:=P) (hw.at k hk) hi hp z
 obtain⟨inf,hin,hsz⟩:=Option.map_eq_some_iff.1 hs'
 have hrun:(execOp a.eval ⟨none,.store T x y,U,pos,after,gd⟩).run P w=.ok .skip (w.setCell p (Cg z)):=by
  have h3':(Go.store (p.add 0) (.int .i64 z)).run P w=.ok () (w.setCell p (Cg z)):=by simpa [Addr.add,Cg] using h3
  simp[execOp,ha.ev hx hg,ha.ev hy hg',Instr.storeAt,Instr.sureAddr,storeVar,Value.cells,sizeOf,typeInfo,hin,hsz,storeCells,h3']
 unfold Oper.wp
 rw[hrun]
 show K (a.put none undef) _
 have hlt:=Amz (hw.at k hk)
 exact kk a _ ha (hw.upd k hk rfl rfl ⟨rfl,Nat.le_refl _⟩ (by simp[World.setCell]) (fun c hc hne=>h5 c fun e=>hne (e▸hbf)) h4 fun c hc=>⟨.inl hc,by simpa [World.setCell] using hlt c hc⟩)
theorem Own.two {r s:Res}{w:World} (h:Own M w0 (r::s::H) w):r.holds w∧s.holds w∧(∀ b,r.foot b→¬s.foot b):=⟨h.2.1.1,h.2.2.1.1,fun b hb=>h.2.1.2.2 s (by simp) b hb⟩
theorem Own.merge {r s t:Res}{w w':World} (h:Own M w0 (r::s::H) w) (hos:w'.os=w.os) (htape:w'.tape=w.tape) (hout:w'.output=w.output∧w.drawn≤w'.drawn) (hsz:w.heap.size≤w'.heap.size)
  (hch:∀ b,b<w.heap.size→¬r.foot b→¬s.foot b→w'.heap[b]?=w.heap[b]?) (ht:t.holds w') (hf:∀ b,t.foot b→(r.foot b∨s.foot b∨w.heap.size≤b)∧b<w'.heap.size):Own M w0 (t::H) w':=by
 obtain⟨h0,⟨r1,r2,r3⟩,⟨s1,s2,s3⟩,h4⟩:=h
 refine⟨h0.trans ⟨hos,htape,hout,hsz,fun b hb hM=>hch b hb (fun hr=>hM (r2 b hr).1) fun hs=>hM (s2 b hs).1⟩,⟨ht,fun b hb=>⟨?_,(hf b hb).2⟩,fun q hq b hb hqb=>?_⟩,?_⟩
 ·rcases (hf b hb).1 with h | h | h
  ·exact(r2 b h).1
  ·exact(s2 b h).1
  ·exact .inr (Nat.le_trans h0.size h)
 ·rcases (hf b hb).1 with h | h | h
  ·exact r3 q (List.mem_cons_of_mem _ hq) b h hqb
  ·exact s3 q hq b h hqb
  ·have:=(h4.lt q hq b hqb).2;omega
 ·exact h4.change hsz fun q hq b hqb=>hch b (h4.lt q hq b hqb).2 (fun hr=>r3 q (List.mem_cons_of_mem _ hq) b hr hqb) fun hs=>s3 q hq b hs hqb
theorem Ad1 (hx:σ.ev x=some (g,.pointer (some p))) (hg:g=true) (hy:σ.ev y=some (g',u)) (hg':g'=true) (hp:H1 v i 1 p) (hi:IX i (ln xss)) (hu:SliceLen u xs.length) (hs':C8 P T 1)
  (kk:WK n K σ (Own M w0 (Bv v (upd hs i u) E1 E2 (upd xss i xs)::H))):EV P n ⟨none,.store T x y,U,pos,after,gd⟩ σ (Own M w0 (Bv v hs E1 E2 xss::vec u E2 1 (xs.map Af)::H)) K Q:=fun a w ha hw=>by
 refine .inl ?_
 obtain⟨⟨h1,h2,h3,h4,h5⟩,hv,hdis⟩:=hw.two
 have hlt:i.toNat<hs.length:=by have:=hi.1;have:=hi.2;unfold ln at this;omega
 have hone:(id u).oneCell'=true:=hu.one
 obtain⟨b,⟨n1,k1,rfl⟩,rfl,hst,hset,hsame⟩:=Ws (P:=P) (c:=id) Ak4 (z:=u) h1 hp hone
 obtain⟨inf,hin,hsz⟩:=Option.map_eq_some_iff.1 hs'
 have hrun:(execOp a.eval ⟨none,.store T x y,U,pos,after,gd⟩).run P w=.ok .skip (w.setCell ⟨b,i.toNat,none⟩ (id u)):=by
  have h3':(Go.store ((⟨b,i.toNat,none⟩:Addr).add 0) u).run P w=.ok () (w.setCell ⟨b,i.toNat,none⟩ (id u)):=by simpa [Addr.add] using hst
  simp[execOp,ha.ev hx hg,ha.ev hy hg',Instr.storeAt,Instr.sureAddr,storeVar,hu.cells,sizeOf,typeInfo,hin,hsz,storeCells,h3']
 unfold Oper.wp
 rw[hrun]
 show K (a.put none undef) _
 have hvb:L8 (.slice (some ⟨b,0,none⟩) n1 k1) b:=⟨_,_,rfl⟩
 have hnb:∀ c,L8 (.slice (some ⟨b,0,none⟩) n1 k1) c→c=b:=fun c ⟨_,_,he⟩=>by simp at he;exact he.1.symm
 have hub:∀ c,L8 u c→c≠b:=fun c hc e=>hdis b (.inl hvb) (e▸hc)
 refine kk a _ ha (hw.merge rfl rfl ⟨rfl,Nat.le_refl _⟩ (by simp[World.setCell]) (fun c hc hr hs=>hsame c fun e=>hr (by subst e;exact .inl hvb)) ⟨hset,by simp[Ck,h2],fun k hk=>?_,fun k l hk hl hne c hc hc'=>?_,fun k hk c hc hc'=>?_⟩ fun c hc=>?_)
 ·rw[Ck] at hk
  rw[Jq,Jq,←h2]
  split
  ·exact N7 hv fun c hc=>hsame c (hub c hc)
  ·exact N7 (h3 k hk) fun c hc=>hsame c fun e=>h5 k hk c hc (e▸hvb)
 ·rw[Ck] at hk hl
  rw[Jq] at hc hc'
  split at hc <;> split at hc'
  ·rename_i e1 e2;exact hne (e1.1.symm.trans e2.1)
  ·exact hdis c (.inr ⟨l,hl,hc'⟩) hc
  ·exact hdis c (.inr ⟨k,hk,hc⟩) hc'
  ·exact h4 k l hk hl hne c hc hc'
 ·rw[Ck] at hk
  rw[Jq] at hc
  split at hc
  ·exact hub c hc (hnb c hc')
  ·exact h5 k hk c hc hc'
 ·have hsize:(w.setCell ⟨b,i.toNat,none⟩ (id u)).heap.size=w.heap.size:=by simp[World.setCell]
  rw[hsize]
  rcases hc with hc | ⟨k,hk,hc⟩
  ·exact⟨.inl (.inl hc),Df h1 c hc⟩
  ·rw[Ck] at hk
   rw[Jq] at hc
   split at hc
   ·exact⟨.inr (.inl hc),Df hv c hc⟩
   ·exact⟨.inl (.inr ⟨k,hk,hc⟩),Df (h3 k hk) c hc⟩
theorem Afg {dd bytes:Nat} (hn:dd<n) (hV:Rl P U E1 1 bytes) (hx:σ.ev x=some (g,v)) (hg:g=true) (hy:σ.ev y=some (g',yv)) (hg':g'=true) (hu:SliceLen u xs.length)
  (hnew:∀ w,Own M w0 (Bv v hs E1 E2 xss::vec u E2 1 (xs.map Af)::H) w→Arr w yv 1 [[u]]) (hA:AL (xss++[xs]).length bytes) (hGL:GL hs xss)
  (kk:∀ v',SliceLen v' (xss++[xs]).length→WK n K ((dd,(true,v'))::σ) (Own M w0 (Bv v' (hs++[u]) E1 E2 (xss++[xs])::H))) :
  EV P n ⟨some dd,.call ⟨.builtin .append,#[x,y],#[U,U]⟩,T,pos,after,gd⟩ σ (Own M w0 (Bv v hs E1 E2 xss::vec u E2 1 (xs.map Af)::H)) K Q:=fun a w ha hw=>by
 refine .inl ?_
 obtain⟨⟨h1,h2,h3,h4,h5⟩,hv,hdis⟩:=hw.two
 have hlen:(hs.map Mo).length=xss.length:=by simp[h2]
 have hA1:=hA.1;have hA2:=hA.2
 simp only[List.length_append,List.length_singleton] at hA1 hA2
 obtain⟨v',w',hr,g1,g2,g3,g4,g5,g6,g7⟩:=Nb (T:=T) hV h1 (hnew w hw) (fun r hr=>by simp at hr;subst hr;rfl) (fun r hr c hc=>by simp at hr;subst hr;simp at hc;subst hc;exact hu.one) (by rw[hlen];simpa using hA1) (by rw[hlen];simpa using hA2)
 have hrun:(execOp a.eval ⟨some dd,.call ⟨.builtin .append,#[x,y],#[U,U]⟩,T,pos,after,gd⟩).run P w=.ok (.value v') w':=by
  simp[execOp,resolve,invoke,builtin,ha.ev hx hg,ha.ev hy hg',hr,Result.andThen]
 unfold Oper.wp
 rw[hrun]
 show K (a.put (some dd) _) _
 have hmap:hs.map Mo++[[u]]=(hs++[u]).map Mo:=by simp[Mo]
 rw[hmap] at g1 g7
 have hrows:∀ k,k<hs.length→∀ b,L8 (hs.getD k H4) b→w'.heap[b]?=w.heap[b]?:=fun k hk b hb=>g6 b (Df (h3 k hk) b hb) (h5 k hk b hb)
 have hub:∀ b,L8 u b→w'.heap[b]?=w.heap[b]?:=fun b hb=>g6 b (Df hv b hb) fun hvb=>hdis b (.inl hvb) hb
 have hget:∀ k,k<(hs++[u]).length→(k<hs.length∧(hs++[u]).getD k H4=hs.getD k H4∧(xss++[xs]).getD k []=xss.getD k [])∨(k=hs.length∧(hs++[u]).getD k H4=u∧(xss++[xs]).getD k []=xs):=fun k hk=>by
  rcases Nat.lt_or_ge k hs.length with h | h
  ·exact .inl ⟨h,by simp[List.getD_eq_getElem?_getD,List.getElem?_append_left h],by simp[List.getD_eq_getElem?_getD,List.getElem?_append_left (h2▸h)]⟩
  ·have e:k=hs.length:=by simp at hk;omega
   subst e
   exact .inr ⟨rfl,by simp[List.getD_eq_getElem?_getD],by rw[h2];simp[List.getD_eq_getElem?_getD]⟩
 have hvnew:∀ b,L8 v' b→L8 v b∨w.heap.size≤b:=fun b hb=>(g7 b hb).1
 have hsl:SliceLen v' (xss++[xs]).length:=by
  have:=Ajy g1
  rw[List.length_map] at this
  rwa [show (xss++[xs]).length=(hs++[u]).length from by simp[h2]]
 refine kk v' hsl _ _ (ha.put hn true _) (hw.merge g2 g3 g4 g5 (fun b hb hr hs'=>g6 b hb fun hvb=>hr (.inl hvb)) ⟨g1,by simp[h2],fun k hk=>?_,fun k l hk hl hne b hb hb'=>?_,fun k hk b hb hb'=>?_⟩ fun b hb=>?_)
 ·rcases hget k hk with ⟨q1,q2,q3⟩ | ⟨q1,q2,q3⟩
  ·rw[q2,q3];exact N7 (h3 k q1) (hrows k q1)
  ·rw[q2,q3];exact N7 hv hub
 ·rcases hget k hk with ⟨q1,q2,_⟩ | ⟨q1,q2,_⟩ <;> rcases hget l hl with ⟨r1,r2,_⟩ | ⟨r1,r2,_⟩ <;> rw[q2] at hb <;> rw[r2] at hb'
  ·exact h4 k l q1 r1 hne b hb hb'
  ·exact hdis b (.inr ⟨k,q1,hb⟩) hb'
  ·exact hdis b (.inr ⟨l,r1,hb'⟩) hb
  ·omega
 ·rcases hget k hk with ⟨q1,q2,_⟩ | ⟨q1,q2,_⟩ <;> rw[q2] at hb
  ·rcases hvnew b hb' with h | h
   ·exact h5 k q1 b hb h
   ·have:=Df (h3 k q1) b hb;omega
  ·rcases hvnew b hb' with h | h
   ·exact hdis b (.inl h) hb
   ·have:=Df hv b hb;omega
 ·rcases hb with hb | ⟨k,hk,hb⟩
  ·rcases g7 b hb with ⟨h | h,h'⟩
   ·exact⟨.inl (.inl h),h'⟩
   ·exact⟨.inr (.inr h),h'⟩
  ·rcases hget k hk with ⟨q1,q2,_⟩ | ⟨q1,q2,_⟩ <;> rw[q2] at hb
   ·exact⟨.inl (.inr ⟨k,q1,hb⟩),Nat.lt_of_lt_of_le (Df (h3 k q1) b hb) g5⟩
   ·exact⟨.inr (.inl hb),Nat.lt_of_lt_of_le (Df hv b hb) g5⟩
end
end Go.Rd
end
section
namespace Go.Rd
open Go.RowKit
theorem Xa {b off:Nat}{i:Int} (h:0≤i):(((⟨b,0,none⟩:Addr).add off).add (i.toNat * 1))=⟨b,((off:Int)+i).toNat,none⟩:=by
 rw[E8];congr 1;omega
theorem Uz {b:Nat}{i:Int}:((⟨b,0,none⟩:Addr).add (i.toNat * 1))=⟨b,i.toNat,none⟩:=Ani b i.toNat
theorem Tr {b:Nat} (j:Nat):((⟨b,0,none⟩:Addr).add j)=⟨b,(j:Int).toNat,none⟩:=by
 rw[Addr.add_lit];simp
section
variable {P : Program} {n : Nat} {σ : Env} {C : World → Prop} {M : Nat → Prop} {w0 : World} {H : List Res} {d : Option Tmp} {T U E D : TypeId} {pos : String} {after : Array Edge} {gd : Option (Nat × Bool)} {x y : Operand} {g g' : Bool} {v : Value}
 {K:Act→World→Prop}{Q:Exit→Act→World→Prop}{α:Type}{c:α→Value}{xs:List α}{b:Nat}{i:Int}{q:Addr}
theorem U5 [Inhabited α] (k:Nat) (hk:H[k]?=some (blk b (xs.map c) T)) (hi:IX i (ln xs)) (hq:q=⟨b,i.toNat,none⟩):∀ w,Own M w0 H w→w.cell? q=some (c (ele xs i)):=fun w hw=>by
 subst hq
 have hlt:i.toNat<xs.length:=by have:=hi.1;have:=hi.2;unfold ln at this;omega
 refine Own.cell k hk ?_ w hw
 rw[List.getElem?_map,List.getElem?_eq_getElem hlt]
 simp[ele,List.getD_eq_getElem?_getD,List.getElem?_eq_getElem hlt]
theorem Xu {cs:List Value} (k:Nat) (hk:H[k]?=some (blk b (xs.map c) T)) (he:xs.map c=cs):∀ w,Own M w0 H w→CellsAt w ⟨b,0,none⟩ cs 0:=he▸Ab k hk
theorem Z2 (k:Nat) (i:Int) (z:α) (hx:σ.ev x=some (g,.pointer (some q))) (hg:g=true) (hy:σ.ev y=some (g',c z)) (hg':g'=true) (hk:H[k]?=some (blk b (xs.map c) E)) (hq:q=⟨b,i.toNat,none⟩) (hi:IX i (ln xs))
  (hv:(c z).cells=[c z].toArray) (ho:(c z).oneCell'=true) (hs:C8 P T 1) (kk:WK n K σ (Own M w0 (H.set k (blk b ((upd xs i z).map c) E)))):EV P n ⟨none,.store T x y,U,pos,after,gd⟩ σ (Own M w0 H) K Q:=by
 have hlt:i.toNat<xs.length:=by have:=hi.1;have:=hi.2;unfold ln at this;omega
 refine EV.store k (vs:=[c z]) hx hg hy hg' hk hq hv hs (by simp;omega) (fun u hu=>by simp at hu;subst hu;exact ho) ?_
 rw[show Ky (xs.map c) i.toNat [c z]=(upd xs i z).map c from by simp[Ky,upd,List.map_set]]
 exact kk
theorem Apq {α:Type} [Inhabited α] {l:List α}{i:Int} (h:IX i (ln l)):l[i.toNat]?=some (ele l i):=by
 have hlt:i.toNat<l.length:=by have:=h.1;have:=h.2;unfold ln at this;omega
 simp[ele,List.getD_eq_getElem?_getD,List.getElem?_eq_getElem hlt]
theorem Vq {k:IntKind}{s:List UInt8} (hU:P.underlying U=some .string) (hx:σ.ev x=some (g,strV s)) (hg:g=true) (hy:σ.ev y=some (g',.int k i)) (hg':g'=true) (hi:IX i (ln s)) :
  QV P ⟨d,.index U x y,T,pos,after,gd⟩ σ C (.int .u8 ((ele s i).toNat:Int)):=.of_run fun n a ha w hw=>by
 have h0:=hi.1
 have hget:(ByteArray.mk s.toArray)[i.toNat]?=some (ele s i):=by
  have hlt:i.toNat<s.length:=by have:=hi.2;unfold ln at this;omega
  have h1:i.toNat<(ByteArray.mk s.toArray).size:=by simpa [ByteArray.size] using hlt
  have:=Apq hi
  rw[List.getElem?_eq_getElem hlt] at this
  rw[getElem?_pos (ByteArray.mk s.toArray) i.toNat h1]
  have e:(ByteArray.mk s.toArray)[i.toNat]=s[i.toNat]:=by
   show (s.toArray)[i.toNat]'_=_
   simp
  rw[e,this]
 simp[execOp,ha.ev hx hg,ha.ev hy hg',Instr.index,asIntOf,run_underlying hU,h0,strV,hget]
end
theorem Akd {u:Value}:∀ r∈[[u]],r.length=1:=fun r hr=>by simp at hr;subst hr;rfl
def Te (xs:List Int):Option (List Int):=ck (AL xs.length 8) (some xs)
def Ro (ns:List Int):Opr:=⟨ns.getD 0 0,ns.getD 1 0,ns.getD 2 0,ns.getD 3 0,ns.getD 4 0,ns.getD 5 0,ns.getD 6 0,ns.getD 7 0,ns.getD 8 0,ns.getD 9 0⟩
theorem Adr {ns:List Int} (h:ns.length=10):ns.map Cg=(Ro ns).cells:=by
 match ns,h with
 | [_,_,_,_,_,_,_,_,_,_],_=>rfl
end Go.Rd
end
section
namespace Go.Rd
theorem Bu {α:Type}{p:Prop} [Decidable p] {a b:α} (h:p):br (decide p) a b=a:=by rw[decide_eq_true h];rfl
theorem Bt {α:Type}{p:Prop} [Decidable p] {a b:α} (h:¬p):br (decide p) a b=b:=by rw[decide_eq_false h];rfl
theorem Px {α:Type}{c:Bool}{a b:α}:br c a b=if c=true then a else b:=by cases c <;> rfl
theorem Aj {α:Type}{n:Int}{x:Option α} (h1:-9223372036854775808≤n) (h2:n≤9223372036854775807):ck (IR n) x=x:=Ao ⟨h1,h2⟩
theorem Av {α:Type}{i n:Int}{x:Option α} (h1:0≤i) (h2:i<n):ck (IX i n) x=x:=Ao ⟨h1,h2⟩
theorem Wg {α:Type}{i j n:Int}{x:Option α} (h1:0≤i) (h2:i≤j) (h3:j≤n):ck (SX i j n) x=x:=Ao ⟨h1,h2,h3⟩
theorem Fb {α:Type}{c:Bool}{p:Prop} [Decidable p] {x:Option α} (h:c=true→p):ck (c=true→p) x=x:=Ao h
@[simp] theorem bd_some' {α β:Type}{x:α}{k:α→Option β}:bd (some x) k=k x:=rfl
@[simp] theorem bdG_t {α β:Type} [Inhabited α] {m:Option α}{k:α→Option β}:bdG true m k=bd m k:=rfl
@[simp] theorem bdG_f {α β:Type} [Inhabited α] {m:Option α}{k:α→Option β}:bdG false m k=k default:=rfl
theorem Cs {α:Type} [Inhabited α] (xs:List α) (i:Nat):ele xs (i:Int)=xs.getD i default:=rfl
theorem Ahm {α:Type} (xs:List α):0≤ln xs:=by unfold ln;omega
theorem Cr {γ ρ:Type}{f:γ→Option (Stp γ ρ)}{g g':γ}{o:Out γ ρ} (h:f g=some (.next g')) (k:lp f g'=some o):lp f g=some o:=(J0 h).trans k
theorem O5 {α:Type} [Inhabited α] {p:α→Prop}{l:List α} (h:∀ x∈l,p x) {i:Nat} (hi:i<l.length):p (ele l i):=by
 have:ele l i=l[i]:=by simp[Rd.ele,List.getD_eq_getElem?_getD,List.getElem?_eq_getElem hi]
 rw[this];exact h _ (List.getElem_mem hi)
theorem Ka {α:Type} (c b:Bool) (k:Bool→Option α):bdG c (some b) k=k (if c=true then b else false):=by cases c <;> rfl
theorem Mt {f:Int→Option (Stp Int Bool)}{n:Nat}{p:Nat→Prop} (step:∀ i:Nat,i<n→(∀ j,j<i→p j)→(p i→f i=some (.next ((i:Int)+1)))∧(¬p i→f i=some (.ret false))) (hend:f n=some (.brk n)) :
  ((∀ i,i<n→p i)∧lp f 0=some (.go (n:Int)))∨(¬(∀ i,i<n→p i)∧lp f 0=some (.ret false)):=by
 have key:∀ (m i:Nat),i+m=n→(∀ j,j<i→p j)→((∀ i,i<n→p i)∧lp f i=some (.go (n:Int)))∨(¬(∀ i,i<n→p i)∧lp f i=some (.ret false)):=by
  intro m
  induction m with
  | zero =>
   intro i h hp
   have hi:i=n:=by omega
   subst hi
   exact .inl ⟨hp,C0 hend⟩
  | succ m ih =>
   intro i h hp
   obtain⟨h1,h2⟩:=step i (by omega) hp
   by_cases hpi:p i
   ·have hs:∀ j,j<i+1→p j:=fun j hj=>by
     rcases Nat.lt_or_ge j i with h | h
     ·exact hp j h
     ·have:j=i:=by omega
      subst this;exact hpi
    rcases ih (i+1) (by omega) hs with ⟨a,b⟩ | ⟨a,b⟩
    ·exact .inl ⟨a,(J0 (h1 hpi)).trans b⟩
    ·exact .inr ⟨a,(J0 (h1 hpi)).trans b⟩
   ·exact .inr ⟨fun h=>hpi (h i (by omega)),K8 (h2 hpi)⟩
 exact key n 0 (by omega) (fun j hj=>absurd hj (Nat.not_lt_zero _))
theorem Eu {α:Type} [Inhabited α] {xs:List α}{i:Nat} (h:i<xs.length):xs.take (i+1)=xs.take i++[ele xs i]:=by
 rw[List.take_add_one,List.getElem?_eq_getElem h,Option.toList_some]
 simp[ele,List.getD_eq_getElem?_getD,List.getElem?_eq_getElem h]
theorem Qe {α ρ:Type}{f:List α×Int→Option (Stp (List α×Int) ρ)}{n:Nat}{h:Nat→α} (step:∀ i:Nat,i<n→f ((List.range i).map h,(i:Int))=some (.next ((List.range i).map h++[h i],(i:Int)+1)))
  (hend:f ((List.range n).map h,(n:Int))=some (.brk ((List.range n).map h,(n:Int)))):lp f ([],0)=some (.go ((List.range n).map h,(n:Int))):=by
 have key:∀ m i:Nat,i+m=n→lp f ((List.range i).map h,(i:Int))=some (.go ((List.range n).map h,(n:Int))):=by
  intro m
  induction m with
  | zero =>
   intro i hi
   have:i=n:=by omega
   subst this
   exact C0 hend
  | succ m ih =>
   intro i hi
   refine Cr (step i (by omega)) ?_
   have:=ih (i+1) (by omega)
   rw[List.range_succ,List.map_append] at this
   exact this
 exact key n 0 (by omega)
theorem Oi {α:Type} [Inhabited α] (l:List α):(List.range l.length).map (fun i:Nat=>ele l (i:Int))=l:=by
 apply List.ext_getElem?
 intro i
 by_cases h:i<l.length
 ·simp[h,Cs,List.getD_eq_getElem?_getD]
 ·simp[List.getElem?_eq_none (Nat.le_of_not_lt h),h]
theorem Sj {α β:Type} [Inhabited α] (l:List α) (g:α→β):(List.range l.length).map (fun i:Nat=>g (ele l (i:Int)))=l.map g:=by
 conv=>rhs;rw[←Oi l]
 rw[List.map_map]
 rfl
theorem O4 {ρ:Type}{f:Int→Option (Stp Int ρ)}{n:Nat}{p:Nat→Prop} (q:Nat→ρ):∀ (m s:Nat),s+m=n→(step:∀ i:Nat,s≤i→i<n→(p i→f i=some (.next ((i:Int)+1)))∧(¬p i→f i=some (.ret (q i))))→(hend:f n=some (.brk n)) →
  ((∀ i,s≤i→i<n→p i)∧lp f s=some (.go (n:Int)))∨(∃ i,s≤i∧i<n∧¬p i∧(∀ j,s≤j→j<i→p j)∧lp f s=some (.ret (q i)))
 | 0,s,h,step,hend=>by
  have:s=n:=by omega
  subst this
  exact .inl ⟨fun i h1 h2=>by omega,C0 hend⟩
 | m+1,s,h,step,hend=>by
  obtain⟨h1,h2⟩:=step s (Nat.le_refl _) (by omega)
  by_cases hp:p s
  ·rcases O4 q m (s+1) (by omega) (fun i a b=>step i (by omega) b) hend with ⟨a,b⟩ | ⟨i,a,b,c,d,e⟩
   ·refine .inl ⟨fun i h3 h4=>?_,(J0 (h1 hp)).trans b⟩
    by_cases e:i=s
    ·subst e;exact hp
    ·exact a i (by omega) h4
   ·refine .inr ⟨i,by omega,b,c,fun j h3 h4=>?_,(J0 (h1 hp)).trans e⟩
    by_cases e:j=s
    ·subst e;exact hp
    ·exact d j (by omega) h4
  ·exact .inr ⟨s,Nat.le_refl _,by omega,hp,fun j h3 h4=>by omega,K8 (h2 hp)⟩
theorem Kl {α ρ:Type}{f:α×Int→Option (Stp (α×Int) ρ)}{n:Nat} (Inv:Nat→α→Prop) (step:∀ (i:Nat) g,i<n→Inv i g→∃ g',f (g,(i:Int))=some (.next (g',(i:Int)+1))∧Inv (i+1) g') (hend:∀ g,f (g,(n:Int))=some (.brk (g,(n:Int)))) (g0:α) (h0:Inv 0 g0) :
  ∃ g,lp f (g0,0)=some (.go (g,(n:Int)))∧Inv n g:=by
 have key:∀ m i:Nat,i+m=n→∀ g,Inv i g→∃ g',lp f (g,(i:Int))=some (.go (g',(n:Int)))∧Inv n g':=by
  intro m
  induction m with
  | zero =>
   intro i hi g hg
   have:i=n:=by omega
   subst this
   exact⟨g,C0 (hend g),hg⟩
  | succ m ih =>
   intro i hi g hg
   obtain⟨g',h1,h2⟩:=step i g (by omega) hg
   obtain⟨g2,h3,h4⟩:=ih (i+1) (by omega) g' h2
   exact⟨g2,Cr h1 h3,h4⟩
 exact key n 0 (by omega) g0 h0
theorem Afm {α ρ:Type}{c:Bool}{a b:α}:br c (some (Out.go a:Out α ρ)) (some (Out.go b))=some (.go (if c=true then a else b)):=by cases c <;> rfl
theorem Cv {α:Type} [Inhabited α] {l:List α}{i:Nat} (h:i<l.length):ele l (i:Int)∈l:=by
 rw[Cs,List.getD_eq_getElem?_getD,List.getElem?_eq_getElem h];exact List.getElem_mem h
theorem Ni {α:Type} [Inhabited α] {l:List α}{x:α} (h:x∈l):∃ i:Nat,i<l.length∧ele l (i:Int)=x:=by
 obtain⟨i,hi,rfl⟩:=List.getElem_of_mem h
 exact⟨i,hi,by rw[Cs,List.getD_eq_getElem?_getD,List.getElem?_eq_getElem hi];rfl⟩
theorem Al4 {α:Type} (l:List α) (i:Int) (a b:α):upd (upd l i a) i b=upd l i b:=by unfold upd;rw[List.set_set]
theorem Lq {α:Type} [Inhabited α] {l:List α}{i:Int}{a:α} (h:IX i (ln l)):ele (upd l i a) i=a:=by
 have:i.toNat<l.length:=by have:=h.1;have:=h.2;unfold ln at this;omega
 unfold ele upd
 rw[List.getD_eq_getElem?_getD,List.getElem?_set]
 simp[this]
theorem Hc {α:Type} [Inhabited α] {l:List α}{i j:Int}{a:α} (h:i.toNat≠j.toNat):ele (upd l i a) j=ele l j:=by
 unfold ele upd
 rw[List.getD_eq_getElem?_getD,List.getElem?_set,if_neg h,←List.getD_eq_getElem?_getD]
theorem Aae {α ρ:Type}{f:α×Int→Option (Stp (α×Int) ρ)}{n:Nat}{r0:ρ} (p:Nat→Prop) (Inv:Nat→α→Prop) (step:∀ (i:Nat) g,i<n→Inv i g→(p i∧∃ g',f (g,(i:Int))=some (.next (g',(i:Int)+1))∧Inv (i+1) g')∨(¬p i∧f (g,(i:Int))=some (.ret r0)))
  (hend:∀ g,f (g,(n:Int))=some (.brk (g,(n:Int)))) (g0:α) (h0:Inv 0 g0):((∀ i,i<n→p i)∧∃ g,lp f (g0,0)=some (.go (g,(n:Int)))∧Inv n g)∨(¬(∀ i,i<n→p i)∧lp f (g0,0)=some (.ret r0)):=by
 have key:∀ m i:Nat,i+m=n→(∀ j,j<i→p j)→∀ g,Inv i g→((∀ i,i<n→p i)∧∃ g',lp f (g,(i:Int))=some (.go (g',(n:Int)))∧Inv n g')∨(¬(∀ i,i<n→p i)∧lp f (g,(i:Int))=some (.ret r0)):=by
  intro m
  induction m with
  | zero =>
   intro i hi hp g hg
   have:i=n:=by omega
   subst this
   exact .inl ⟨hp,g,C0 (hend g),hg⟩
  | succ m ih =>
   intro i hi hp g hg
   rcases step i g (by omega) hg with ⟨h1,g',h2,h3⟩ | ⟨h1,h2⟩
   ·have hp':∀ j,j<i+1→p j:=fun j hj=>by
     by_cases e:j=i
     ·subst e;exact h1
     ·exact hp j (by omega)
    rcases ih (i+1) (by omega) hp' g' h3 with ⟨a,g2,b,c⟩ | ⟨a,b⟩
    ·exact .inl ⟨a,g2,(J0 h2).trans b,c⟩
    ·exact .inr ⟨a,(J0 h2).trans b⟩
   ·exact .inr ⟨fun h=>h1 (h i (by omega)),K8 h2⟩
 exact key n 0 (by omega) (fun j hj=>absurd hj (Nat.not_lt_zero _)) g0 h0
end Go.Rd
end
section
namespace Go.Rd
open Go.RowKit
section
variable {P : Program} {n : Nat} {ops : Array Oper} {σ : Env} {C S : World → Prop}
def U9 (R:Act→World→Prop) (Q:Exit→Act→World→Prop):Exit→Act→World→Prop
 | .normal=>R
 | e=>Q e
variable {Q : Exit → Act → World → Prop} {R : Act → World → Prop}
theorem Rx (h:LetsOut (U9 R Q)):LetsOut Q:=let ⟨a,w,x⟩:=h;⟨a,w,x⟩
theorem Ajx {o:Oper}{a:Act}{w:World}{K K':Act→World→Prop} (h:∀ a w,K a w→K' a w) (hh:o.wp P a w K (U9 R Q)):o.wp P a w K' Q:=by
 unfold Oper.wp at *
 generalize (execOp a.eval o).run P w=r at *
 cases r with
 | ok n w' =>
  cases n <;> simp only[Oper.upon] at hh ⊢ <;>
   first
    | exact h _ _ hh
    | exact Calls.mono hh (fun e w'' he=>by cases e <;> first | exact h _ _ he | exact he | exact Rx he)
    | exact Rows.mono hh (fun _ _ he=>h _ _ he)
 | halt x w'=>cases x <;> simp only[Oper.upon] at hh ⊢ <;> exact hh
theorem Xd {i:Nat}{a:Act}{w:World}{K K':Act→World→Prop} (h:∀ a w,K a w→K' a w) (hh:wpOp P ops (U9 R Q) i K a w):wpOp P ops Q i K' a w:=by
 unfold Go.wpOp at *
 split
 ·exact h _ _ (by simpa [*] using hh)
 ·rename_i o ho
  simp only[ho] at hh
  split
  ·rename_i hw
   simp only[hw,if_true] at hh
   exact hh.imp (Ajx h) fun ⟨x,y⟩=>⟨x,Rx y⟩
  ·rename_i hw;simp only[hw] at hh;exact h _ _ hh
theorem Ve {md:Region.Mode} (hR:∀ a w,R a w→Q .normal a w):∀ (fuel:Nat) (listed:Array Bool) (a:Act) (w:World),wpAny P md ops (U9 R Q) fuel listed a w→wpAny P md ops Q fuel listed a w
 | 0,listed,a,w,h=>⟨h.1,hR a w h.2⟩
 | fuel+1,listed,a,w,h=>⟨fun h0=>hR a w (h.1 h0),fun i hi=>Xd (fun a w=>Ve hR fuel _ a w) (h.2 i hi)⟩
theorem Tv {md:Region.Mode} (hR:∀ a w,R a w→Q .normal a w):∀ (fuel:Nat) (S:World→Prop) (listed:Array Bool) (C:World→Prop) (a:Act),J2 P md ops (U9 R Q) S fuel listed C a→J2 P md ops Q S fuel listed C a
 | 0,S,listed,C,a,h=>⟨h.1,fun w hw=>hR a w (h.2 w hw)⟩
 | fuel+1,S,listed,C,a,h=>by
  intro hD
  rcases h hD with ⟨h0,h1⟩ | ⟨h0,h1⟩
  ·refine .inl ⟨fun hr w hw=>hR a w (h0 hr w hw),fun i hi w hw=>Xd (fun a w hh=>?_) (h1 i hi w hw)⟩
   obtain⟨C',S',x1,x2,x3,x4,x5⟩:=hh
   exact⟨C',S',x1,x2,x3,x4,Tv hR fuel S' _ C' a x5⟩
  ·exact .inr ⟨h0,fun w hw=>Ve hR _ _ a w (h1 w hw)⟩
theorem Agi (env:Nat→Nat→Env) (cls:Nat→Nat→World→Prop) {fuel:Nat}{listed:Array Bool} (hafter:∀ g0 g1,WK n (Q .normal) (env g0 g1) (cls g0 g1))
  (h:WD P n ops (U9 (fun a w=>∃ g0 g1,Has n a (env g0 g1)∧cls g0 g1 w) Q) S fuel listed σ C):WD P n ops Q S fuel listed σ C:=fun hCS a ha =>
 Tv (fun a w ⟨g0,g1,h1,h2⟩=>hafter g0 g1 a w h1 h2) _ _ _ _ _ (h hCS a ha)
theorem Pb {env:Nat→Nat→Env}{cls:Nat→Nat→World→Prop} (g0 g1:Nat) (hs:Sub σ (env g0 g1)) (hd:∀ w,C w→cls g0 g1 w):WK n (U9 (fun a w=>∃ g0 g1,Has n a (env g0 g1)∧cls g0 g1 w) Q .normal) σ C:=fun a w ha hw=>⟨g0,g1,ha.sub hs,hd w hw⟩
instance {R:Act→World→Prop}{Q:Exit→Act→World→Prop} [h:POk Q]:POk (U9 R Q):=⟨h.ok⟩
variable {M : Nat → Prop} {w0 : World} {H : List Res}
def Abc (ops:Array Oper) (is:List Nat) (m k:Nat):Bool:=Region.ready .any ops (lst m k)==is&&!is.isEmpty
theorem WD.each (is:List Nat) (k:Nat) {m fuel:Nat} (hr:Abc ops is m k=true)
  (h:∀ i∈is,∃ oi k',ops[i]?=some oi∧oi.guard=none∧(lst m k).setIfInBounds i true=lst m k' ∧
   EV P n oi σ (Own M w0 H) (fun a' w'=>∃ C' S':World→Prop,F3 C'∧(∀ x,C' x→S' x)∧(∀ x,S' x→S x)∧C' w'∧J2 P .any ops Q S' fuel (lst m k') C' a') Q):WD P n ops Q S (fuel+1) (lst m k) σ (Own M w0 H):=fun hCS a ha=>by
 unfold Abc at hr
 simp only[Bool.and_eq_true,beq_iff_eq,Bool.not_eq_true',List.isEmpty_eq_false_iff] at hr
 intro _
 refine .inl ⟨fun h0=>absurd (hr.1.symm.trans h0) hr.2,fun j hj w hw=>?_⟩
 rw[hr.1] at hj
 obtain⟨oi,k',h1,h2,h3,h4⟩:=h j hj
 rw[h3]
 unfold Go.wpOp
 simp only[h1]
 rw[if_pos (by simp[Region.wanted,h2])]
 exact h4 a w ha hw
def Aax (ops:Array Oper) (i m k k':Nat):Bool:=(lst m k).setIfInBounds i true==lst m k'
theorem WD.two {o1 o2:Oper} (i1 i2 k k1 k2:Nat) {m fuel:Nat} (hr:Abc ops [i1,i2] m k=true) (h1:ops[i1]?=some o1) (h2:ops[i2]?=some o2) (g1:o1.guard=none) (g2:o2.guard=none) (s1:Aax ops i1 m k k1=true) (s2:Aax ops i2 m k k2=true)
  (e1:EV P n o1 σ (Own M w0 H) (fun a' w'=>∃ C' S':World→Prop,F3 C'∧(∀ x,C' x→S' x)∧(∀ x,S' x→S x)∧C' w'∧J2 P .any ops Q S' fuel (lst m k1) C' a') Q)
  (e2:EV P n o2 σ (Own M w0 H) (fun a' w'=>∃ C' S':World→Prop,F3 C'∧(∀ x,C' x→S' x)∧(∀ x,S' x→S x)∧C' w'∧J2 P .any ops Q S' fuel (lst m k2) C' a') Q):WD P n ops Q S (fuel+1) (lst m k) σ (Own M w0 H) :=
 WD.each [i1,i2] k hr fun i hi=>by
  simp only[List.mem_cons,List.not_mem_nil,or_false] at hi
  unfold Aax at s1 s2
  rcases hi with rfl | rfl
  ·exact⟨o1,k1,h1,g1,beq_iff_eq.1 s1,e1⟩
  ·exact⟨o2,k2,h2,g2,beq_iff_eq.1 s2,e2⟩
end
end Go.Rd
end
section
namespace Go.Rd
open Go.RowKit Go.MapKept
section
variable {κ β : Type} [DecidableEq κ]
def Aik (m:List (κ×β)) (k:κ):Bool:=m.any fun p=>decide (p.1=k)
def Dm (m:List (κ×β)) (k:κ) (d:β):β:=match m.find? (fun p=>decide (p.1=k)) with
 | some p=>p.2
 | none=>d
def Es (m:List (κ×β)) (k:κ) (v:β):List (κ×β):=match m with
 | []=>[(k,v)]
 | p::r=>if p.1=k then (k,v)::r else p::Es r k v
theorem Akp {k:κ}{d:β}:Dm ([]:List (κ×β)) k d=d:=rfl
theorem J9 {p:κ×β}{m:List (κ×β)}{k:κ}{d:β}:Dm (p::m) k d=if p.1=k then p.2 else Dm m k d:=by
 unfold Dm
 rw[List.find?_cons]
 by_cases h:p.1=k <;> simp[h]
theorem J8 {m:List (κ×β)}{k k':κ}{v d:β}:Dm (Es m k v) k' d=if k=k' then v else Dm m k' d:=by
 induction m with
 | nil=>unfold Es;rw[J9]
 | cons p m ih =>
  unfold Es
  by_cases h:p.1=k
  ·rw[if_pos h,J9,J9]
   subst h
   by_cases h2:p.1=k' <;> simp[h2]
  ·rw[if_neg h,J9,J9,ih]
   by_cases h2:p.1=k'
   ·have:¬k=k':=fun e=>h (h2.trans e.symm)
    simp[h2,this]
   ·simp[h2]
end
def kI (n:Int):Value:=.int .i64 n
def kP (p:Int×Int):Value:=.agg #[.int .i64 p.1,.int .i64 p.2]
def bv (b:Bool):Value:=.bool b
structure KeyT (P:Program) {κ:Type} [DecidableEq κ] (K:TypeId) (ke:κ→Value):Prop where
 check:∀ k w b,(Instr.checkKey b 10000 K (ke k)).run P w=.ok () w
 find:∀ (k:κ) w (es:List MapEntry) (ks:List κ),es.map (·.key)=ks.map ke→∃ r,(Instr.findKey K (ke k) es).run P w=.ok r w ∧
  ((r=none∧∀ j∈ks,j≠k)∨(∃ i e,r=some (i,e.val)∧es[i]?=some e∧ks[i]?=some k∧∀ j<i,ks[j]?≠some k))
 same:∀ k,Instr.sameBits 10000 (ke k) (ke k)=true
theorem Vl {P:Program}{κ:Type} [DecidableEq κ] {K:TypeId}{ke:κ→Value} (heq:∀ a b w,(Op.equal K (ke a) (ke b)).run P w=.ok (decide (b=a)) w) (k:κ) (w:World):∀ (es:List MapEntry) (ks:List κ) (n:Nat),es.map (·.key)=ks.map ke →
  ∃ r,(Instr.findAsking K (ke k) es n).run P w=.ok r w∧((r=none∧∀ j∈ks,j≠k)∨(∃ i e,r=some (n+i,e.val)∧es[i]?=some e∧ks[i]?=some k∧∀ j<i,ks[j]?≠some k))
 | [],[],n,_=>⟨none,by simp[Instr.findAsking],.inl ⟨rfl,fun j hj=>by cases hj⟩⟩
 | [],_::_,n,h=>by simp at h
 | _::_,[],n,h=>by simp at h
 | e::es,k'::ks,n,h=>by
  simp only[List.map_cons,List.cons.injEq] at h
  have hq:=heq k k' w
  by_cases hk:k'=k
  ·subst hk
   refine⟨some (n,e.val),?_,.inr ⟨0,e,rfl,rfl,rfl,fun j hj=>by omega⟩⟩
   simp[Instr.findAsking,h.1,hq]
  ·obtain⟨r,hr,hh⟩:=Vl heq k w es ks (n+1) h.2
   refine⟨r,?_,?_⟩
   ·simp[Instr.findAsking,h.1,hq,hk,hr]
   ·rcases hh with ⟨a,b⟩ | ⟨i,e',a,b,c,d⟩
    ·exact .inl ⟨a,fun j hj=>by rcases List.mem_cons.1 hj with rfl | hj;exact hk;exact b j hj⟩
    ·refine .inr ⟨i+1,e',by rw[a];congr 2;omega,by simpa using b,by simpa using c,fun j hj=>?_⟩
     cases j with
     | zero=>simpa using hk
     | succ j=>simpa using d j (by omega)
theorem Ac9 {P:Program}{K:TypeId}{t:IntKind} (k:Int):∀ (es:List MapEntry) (ks:List Int) (n:Nat),es.map (·.key)=ks.map kI →
  ∃ r,Instr.findNow (.int t) (kI k) es n=some r∧((r=none∧∀ j∈ks,j≠k)∨(∃ i e,r=some (n+i,e.val)∧es[i]?=some e∧ks[i]?=some k∧∀ j<i,ks[j]?≠some k))
 | [],[],n,_=>⟨none,by simp[Instr.findNow],.inl ⟨rfl,fun j hj=>by cases hj⟩⟩
 | [],_::_,n,h=>by simp at h
 | _::_,[],n,h=>by simp at h
 | e::es,k'::ks,n,h=>by
  simp only[List.map_cons,List.cons.injEq] at h
  by_cases hk:k'=k
  ·subst hk
   exact⟨some (n,e.val),by simp[Instr.findNow,h.1,kI,Instr.sameNow],.inr ⟨0,e,rfl,rfl,rfl,fun j hj=>by omega⟩⟩
  ·obtain⟨r,hr,hh⟩:=Ac9 (P:=P) (K:=K) (t:=t) k es ks (n+1) h.2
   refine⟨r,?_,?_⟩
   ·have hk2:(k==k')=false:=by simp;exact fun e=>hk e.symm
    unfold kI at hr
    simp[Instr.findNow,h.1,kI,Instr.sameNow,hk2,hr]
   ·rcases hh with ⟨a,b⟩ | ⟨i,e',a,b,c,d⟩
    ·exact .inl ⟨a,fun j hj=>by rcases List.mem_cons.1 hj with rfl | hj;exact hk;exact b j hj⟩
    ·refine .inr ⟨i+1,e',by rw[a];congr 2;omega,by simpa using b,by simpa using c,fun j hj=>?_⟩
     cases j with
     | zero=>simpa using hk
     | succ j=>simpa using d j (by omega)
theorem KeyT.int {P:Program}{K:TypeId} (h:P.underlying K=some (.int .i64)):KeyT P K kI where
 check:=fun k w b=>by rw[show (10000:Nat)=9999+1 from rfl,Instr.checkKey];simp[run_underlying h,kI]
 find:=fun k w es ks he=>by
  obtain⟨r,h1,h2⟩:=Ac9 (P:=P) (K:=K) (t:=.i64) k es ks 0 he
  refine⟨r,by rw[run_findKey h h1],?_⟩
  simpa using h2
 same:=fun k=>by simp[kI,Instr.sameBits]
theorem Aia {P:Program}{K I:TypeId} (h:P.underlying K=some (.array 2 I)) (hI:P.underlying I=some (.int .i64)) (hs:(P.info? I).map (·.size)=some 1):KeyT P K kP where
 check:=fun k w b=>by
  have hag:(isAgg I).run P w=.ok false w:=by simp[isAgg,run_underlying hI]
  have hz:=O9 (w:=w) hs
  have hc:∀ n:Int,(Instr.checkKey b 9999 I (.int .i64 n)).run P w=.ok () w:=fun n=>by rw[show (9999:Nat)=9998+1 from rfl,Instr.checkKey];simp[run_underlying hI]
  rw[show (10000:Nat)=9999+1 from rfl,Instr.checkKey]
  simp only[Sem.run_bind,run_underlying h,Result.andThen_ok,kP,Std.Legacy.Range.forIn_eq_forIn_range',Std.Legacy.Range.size,Nat.sub_zero,Nat.add_one_sub_one,Nat.div_one]
  simp[List.range',hz,part,hag,hc]
 find:=fun k w es ks he=>by
  have heq:∀ a b w,(Op.equal K (kP a) (kP b)).run P w=.ok (decide (b=a)) w:=fun a b w=>by
   have hag:(isAgg I).run P w=.ok false w:=by simp[isAgg,run_underlying hI]
   have hz:=O9 (w:=w) hs
   have e1:∀ x y:Int,(Op.equalIn 9999 I (.int .i64 x) (.int .i64 y)).run P w=.ok (x==y) w:=fun x y=>run_equalIn_int (P:=P) (w:=w) 9998 I .i64 .i64 x y hI
   obtain⟨a1,a2⟩:=a
   obtain⟨b1,b2⟩:=b
   simp only[Op.equal,Op.maxDepth,kP]
   rw[Op.equalIn]
   simp only[Sem.run_bind,run_underlying h,Result.andThen_ok,Std.Legacy.Range.forIn_eq_forIn_range',Std.Legacy.Range.size,Nat.sub_zero,Nat.add_one_sub_one,Nat.div_one]
   simp[List.range',hz,part,hag,e1]
   by_cases h1:a1=b1
   ·subst h1
    by_cases h2:a2=b2
    ·subst h2;simp
    ·have:¬b2=a2:=fun e=>h2 e.symm
     simp[h2,this]
   ·have:¬b1=a1:=fun e=>h1 e.symm
    simp[h1,this]
  obtain⟨r,h1,h2⟩:=Vl heq k w es ks 0 he
  have hn:∀ es:List MapEntry,es≠[]→Instr.findNow (.array 2 I) (kP k) es 0=none:=fun es hes=>by
   cases es with
   | nil=>exact absurd rfl hes
   | cons e es=>simp[Instr.findNow,Instr.sameNow]
  refine⟨r,?_,by simpa using h2⟩
  cases es with
  | nil =>
   have:r=none:=by simpa [Instr.findAsking] using h1.symm
   subst this
   simp[Instr.findKey,run_underlying h,Instr.findNow]
  | cons e es=>simp[Instr.findKey,run_underlying h,hn (e::es) (by simp),h1]
 same:=fun k=>by simp[kP,Instr.sameBits]
end Go.Rd
namespace Go.Rd
open Go.RowKit Go.MapKept
section
variable {κ β : Type} {ke : κ → Value} {ve : β → Value}
structure MapOk (ke:κ→Value) (ve:β→Value) (es:Array MapEntry) (c:Nat) (L:List (κ×β)):Prop where
 size:es.size=L.length
 ent:∀ (i:Nat) (p:κ×β),L[i]?=some p→∃ n,es[i]?=some (MapEntry.mk (ke p.1) (ve p.2) n)∧n<c
 born:∀ (i j:Nat) (e e':MapEntry),es[i]?=some e→es[j]?=some e'→e.born=e'.born→i=j
theorem MapOk.nil:MapOk ke ve #[] 0 ([]:List (κ×β)):=⟨rfl,fun i p h=>by simp at h,fun i j e e' h=>by simp at h⟩
theorem MapOk.keys {es:Array MapEntry}{c:Nat}{L:List (κ×β)} (h:MapOk ke ve es c L):es.toList.map (·.key)=(L.map (·.1)).map ke:=by
 apply List.ext_getElem?
 intro i
 simp only[List.getElem?_map,Array.getElem?_toList]
 cases hL:L[i]? with
 | none =>
  have:es[i]?=none:=by
   rw[Array.getElem?_eq_none_iff,h.size]
   exact List.getElem?_eq_none_iff.1 hL
  simp[this]
 | some p =>
  obtain⟨n,h1,_⟩:=h.ent i p hL
  simp[h1]
theorem MapOk.setVal {es:Array MapEntry}{c:Nat}{L:List (κ×β)} (h:MapOk ke ve es c L) {i:Nat}{k:κ}{v:β} (hk:∃ p:κ×β,L[i]?=some p∧p.1=k):MapOk ke ve (es.modify i fun e=>{ e with val:=ve v }) c (L.set i (k,v)):=by
 obtain⟨p,hp,rfl⟩:=hk
 refine⟨by simp[h.size],fun j q hq=>?_,fun a b e e' h1 h2 h3=>?_⟩
 ·rw[List.getElem?_set] at hq
  rw[Array.getElem?_modify]
  by_cases hj:i=j
  ·subst hj
   obtain⟨n,hn,hc⟩:=h.ent i p hp
   split at hq
   ·split at hq
    ·cases hq;exact⟨n,by simp[hn],hc⟩
    ·cases hq
   ·contradiction
  ·rw[if_neg hj] at hq ⊢
   exact h.ent j q hq
 ·rw[Array.getElem?_modify] at h1 h2
  have key:∀ a e,(if i=a then Option.map (fun e:MapEntry=>{ e with val:=ve v }) es[a]? else es[a]?)=some e→∃ e0,es[a]?=some e0∧e0.born=e.born:=fun a e h=>by
   split at h
   ·cases hq:es[a]? with
    | none=>simp[hq] at h
    | some e0=>simp[hq] at h;exact⟨e0,rfl,by rw[←h]⟩
   ·exact⟨e,h,rfl⟩
  obtain⟨e0,q1,q2⟩:=key a e h1
  obtain⟨e1,q3,q4⟩:=key b e' h2
  exact h.born a b e0 e1 q1 q3 (by rw[q2,q4,h3])
theorem MapOk.push {es:Array MapEntry}{c:Nat}{L:List (κ×β)} (h:MapOk ke ve es c L) (k:κ) (v:β):MapOk ke ve (es.push { key:=ke k,val:=ve v,born:=c }) (c+1) (L++[(k,v)]):=by
 have old:∀ (i:Nat) (e:MapEntry),es[i]?=some e→e.born<c:=fun i e he=>by
  have hlt:i<L.length:=by rw[←h.size];exact(Array.getElem?_eq_some_iff.1 he).1
  obtain⟨n,h1,h2⟩:=h.ent i L[i] (List.getElem?_eq_getElem hlt)
  rw[he] at h1;cases h1;exact h2
 refine⟨by simp[h.size],fun j q hq=>?_,fun a b e e' h1 h2 h3=>?_⟩
 ·rw[Array.getElem?_push]
  by_cases hj:j=es.size
  ·rw[if_pos hj]
   have:q=(k,v):=by
    rw[hj,h.size] at hq;simpa using hq.symm
   subst this
   exact⟨c,rfl,by omega⟩
  ·rw[if_neg hj]
   have hlt:j<L.length:=by
    have:=(List.getElem?_eq_some_iff.1 hq).1
    simp at this
    rw[h.size] at hj;omega
   rw[List.getElem?_append_left hlt] at hq
   obtain⟨n,q1,q2⟩:=h.ent j q hq
   exact⟨n,q1,by omega⟩
 ·rw[Array.getElem?_push] at h1 h2
  split at h1 <;> split at h2
  ·omega
  ·cases h1;have:=old b e' h2;simp only at h3;omega
  ·cases h2;have:=old a e h1;simp only at h3;omega
  ·exact h.born a b e e' h1 h2 h3
def Eb (b:Nat) (ke:κ→Value) (ve:β→Value) (L:List (κ×β)):Res where
 foot:=fun x=>x=b
 holds:=fun w=>∃ es c,w.heap[b]?=some (.map es c)∧MapOk ke ve es c L
 stable:=fun w w' ⟨es,c,h,h2⟩ hk=>⟨es,c,(hk b rfl).trans h,h2⟩
theorem MapOk.find {es:Array MapEntry}{c:Nat}{L:List (κ×β)} (h:MapOk ke ve es c L) {i:Nat}{e:MapEntry} (he:es[i]?=some e):es.findIdx? (fun x=>(x.born:Int)==(e.born:Int))=some i:=by
 obtain⟨hi,rfl⟩:=Array.getElem?_eq_some_iff.1 he
 rw[Array.findIdx?_eq_some_iff_getElem]
 refine⟨hi,by simp,fun j hj hc=>?_⟩
 have hji:j<es.size:=by omega
 have:=h.born j i _ _ (Array.getElem?_eq_getElem hji) (Array.getElem?_eq_getElem hi) (by simp at hc;omega)
 omega
variable [DecidableEq κ]
theorem V3 {k:κ}{d:β}:∀ {L:List (κ×β)}{i:Nat},(L.map (·.1))[i]?=some k→(∀ j<i,(L.map (·.1))[j]?≠some k)→∃ p:κ×β,L[i]?=some p∧p.1=k∧Dm L k d=p.2
 | [],i,h,_=>by simp at h
 | p::L,0,h,_=>by
  simp at h
  exact⟨p,rfl,h,by rw[J9,if_pos h]⟩
 | p::L,i+1,h,hj=>by
  have h0:¬p.1=k:=by simpa using hj 0 (by omega)
  obtain⟨q,h1,h2,h3⟩:=V3 (k:=k) (d:=d) (L:=L) (i:=i) (by simpa using h) (fun j hlt=>by simpa using hj (j+1) (by omega))
  exact⟨q,by simpa using h1,h2,by rw[J9,if_neg h0,h3]⟩
theorem W3 {k:κ}{d:β}:∀ {L:List (κ×β)},(∀ j∈L.map (·.1),j≠k)→Dm L k d=d
 | [],_=>rfl
 | p::L,h=>by
  rw[J9,if_neg (h p.1 (by simp)),W3 fun j hj=>h j (by simp at hj ⊢;exact .inr hj)]
theorem Aa1 {k:κ}{v:β}:∀ {L:List (κ×β)}{i:Nat},(L.map (·.1))[i]?=some k→(∀ j<i,(L.map (·.1))[j]?≠some k)→Es L k v=L.set i (k,v)
 | [],i,h,_=>by simp at h
 | p::L,0,h,_=>by
  simp at h
  simp[Es,h]
 | p::L,i+1,h,hj=>by
  have h0:¬p.1=k:=by simpa using hj 0 (by omega)
  unfold Es
  rw[if_neg h0,List.set_cons_succ,Aa1 (L:=L) (i:=i) (by simpa using h) (fun j hlt=>by simpa using hj (j+1) (by omega))]
theorem Tm {k:κ}{v:β}:∀ {L:List (κ×β)},(∀ j∈L.map (·.1),j≠k)→Es L k v=L++[(k,v)]
 | [],_=>rfl
 | p::L,h=>by
  unfold Es
  rw[if_neg (h p.1 (by simp)),Tm fun j hj=>h j (by simp at hj ⊢;exact .inr hj)]
  rfl
def Z7 (b:Nat) (ke:κ→Value) (ve:β→Value) (dft:β) (L:List (κ×β)):Res where
 foot:=fun x=>x=b
 holds:=fun w=>∃ L',(Eb b ke ve L').holds w∧∀ key,Dm L' key dft=Dm L key dft
 stable:=fun w w' ⟨L',h,h2⟩ hk=>⟨L',(Eb b ke ve L').stable w w' h hk,h2⟩
def Aec (b:Nat) (ke:κ→Value) (ve:β→Value) (dft:β) (L:List (κ×β)) (k:κ) (s:Nat):Res where
 foot:=fun x=>x=b
 holds:=fun w=>∃ es c i,w.heap[b]?=some (.map es c)∧(∃ L',MapOk ke ve es c L'∧∀ key,Dm L' key dft=Dm L key dft)∧es.findIdx? (fun e=>(e.born:Int)==(s:Int))=some i∧∀ v,MapOk ke ve (es.modify i fun e=>{ e with val:=ve v }) c (Es L k v)
 stable:=fun w w' ⟨es,c,i,h,h2⟩ hk=>⟨es,c,i,(hk b rfl).trans h,h2⟩
end
section
variable {P : Program} {n : Nat} {σ : Env} {M : Nat → Prop} {w0 : World} {H : List Res} {d : Option Tmp} {T U E Kt : TypeId} {pos : String} {after : Array Edge} {gd : Option (Nat × Bool)} {x y z : Operand} {g g' g'' : Bool} {v : Value}
 {K:Act→World→Prop}{Q:Exit→Act→World→Prop}{κ β:Type}{ke:κ→Value}{ve:β→Value}{L:List (κ×β)}{b:Nat}
def Ad8 (P:Program) (U Kt E:TypeId):Prop:=P.underlying U=some (.map Kt E)
def Z9 (P:Program) (E:TypeId) (v:Value):Prop:=((P.info? E).map fun i=>i.zero)=some (some v)
theorem Ze {w:World} (h:Z9 P E v):(zeroValue E).run P w=.ok v w:=by
 obtain⟨i,hi,hz⟩:=Option.map_eq_some_iff.1 h
 simp[zeroValue,typeInfo,hi,hz]
theorem EV.makeMap {dd:Nat} (hn:dd<n) (kk:∀ b,WK n K ((dd,(true,.map (some b)))::σ) (Own M w0 (Eb b ke ve ([]:List (κ×β))::H))):EV P n ⟨some dd,.makeMap U none,T,pos,after,gd⟩ σ (Own M w0 H) K Q:=fun a w ha hw=>by
 refine .inl ?_
 have hrun:(execOp a.eval ⟨some dd,.makeMap U none,T,pos,after,gd⟩).run P w=.ok (.value (.map (some w.heap.size))) (w.alloc (.map #[] 0)):=by
  simp[execOp,Instr.makeMap,newObj,Sem.run,Result.andThen]
 unfold Oper.wp
 rw[hrun]
 show K (a.put (some dd) _) _
 refine kk w.heap.size _ _ (ha.put hn true _) (hw.push (w':=w.alloc (.map #[] 0)) ?_ (Eb w.heap.size ke ve []) ⟨#[],0,heap_alloc_new w _,MapOk.nil⟩ ?_)
 ·exact Grow.alloc _
 ·intro b hb
  cases hb
  simp
variable [DecidableEq κ]
theorem Xm {w:World}{k:κ}{dft:β}{ok:Bool} (hU:Ad8 P U Kt E) (hK:KeyT P Kt ke) (hz:Z9 P E (ve dft)) (h:(Eb b ke ve L).holds w):(Instr.lookup U (.map (some b)) (ke k) ok).run P w=.ok (if ok then .tuple #[ve (Dm L k dft),.bool (Aik L k)] else ve (Dm L k dft)) w:=by
 obtain⟨es,c,hh,hM⟩:=h
 obtain⟨r,h1,h2⟩:=hK.find k w es.toList (L.map (·.1)) hM.keys
 have hg:(getObj b).run P w=.ok (.map es c) w:=by simp[getObj,Sem.run,hh]
 have hc:=hK.check k w es.isEmpty
 unfold Instr.lookup
 rcases h2 with ⟨rfl,hn⟩ | ⟨i,e,rfl,he,hk,hj⟩
 ·have e1:Dm L k dft=dft:=W3 hn
  have e2:Aik L k=false:=by
   unfold Aik
   rw[List.any_eq_false]
   intro p hp
   simpa using hn p.1 (List.mem_map_of_mem hp)
  simp[run_underlying hU,hg,hc,h1,Ze hz,e1,e2]
 ·obtain⟨p,q1,q2,q3⟩:=V3 (d:=dft) hk hj
  obtain⟨m,q4,_⟩:=hM.ent i p q1
  have:e.val=ve p.2:=by rw[Array.getElem?_toList,q4] at he;cases he;rfl
  have e2:Aik L k=true:=by
   unfold Aik
   rw[List.any_eq_true]
   exact⟨p,List.mem_of_getElem? q1,by simpa using q2⟩
  simp[run_underlying hU,hg,hc,h1,q3,this,e2]
theorem QV.lookup {k:κ} (j:Nat) (dft:β) (hU:Ad8 P U Kt E) (hK:KeyT P Kt ke) (hz:Z9 P E (ve dft)) (hx:σ.ev x=some (g,.map (some b))) (hg:g=true) (hy:σ.ev y=some (g',ke k)) (hg':g'=true) (hj:H[j]?=some (Eb b ke ve L)) :
  QV P ⟨d,.lookup U x y false,T,pos,after,gd⟩ σ (Own M w0 H) (ve (Dm L k dft)):=.of_run fun n a ha w hw=>by
 have:=Xm (k:=k) (ok:=false) hU hK hz (hw.at j hj)
 simp only[execOp,ha.ev hx hg,ha.ev hy hg',Sem.run_bind,this,Result.andThen_ok,Sem.run_pure]
 rfl
theorem Qd {w:World}{o:Obj}{r':Res}{j:Nat}{r:Res} (hw:Own M w0 H w) (hj:H[j]?=some r) (hf:∀ x,r.foot x↔x=b) (hf':∀ x,r'.foot x↔x=b) {o0:Obj} (hb:w.heap[b]?=some o0) (hr:r'.holds { w with heap:=w.heap.setIfInBounds b o }) :
  Own M w0 (H.set j r') { w with heap:=w.heap.setIfInBounds b o }:=by
 have hlt:b<w.heap.size:=(Array.getElem?_eq_some_iff.1 hb).1
 refine hw.upd j hj rfl rfl ⟨rfl,Nat.le_refl _⟩ (by simp) (fun x hx hn=>?_) hr fun x hx=>?_
 ·exact(heap_set hb).2 x fun e=>hn ((hf x).2 e)
 ·exact⟨.inl ((hf x).2 ((hf' x).1 hx)),by rw[(hf' x).1 hx];simpa using hlt⟩
theorem EV.mapEntry {dd:Nat} (hn:dd<n) (k:κ) (j:Nat) (dft:β) (hU:Ad8 P U Kt E) (hK:KeyT P Kt ke) (hz:Z9 P E (ve dft)) (hx:σ.ev x=some (g,.map (some b))) (hg:g=true) (hy:σ.ev y=some (g',ke k)) (hg':g'=true) (hj:H[j]?=some (Eb b ke ve L))
  (kk:∀ s:Nat,WK n K ((dd,(true,.tuple #[ve (Dm L k dft),.int .i64 s]))::σ) (Own M w0 (H.set j (Aec b ke ve dft L k s)))):EV P n ⟨some dd,.mapEntry U x y,T,pos,after,gd⟩ σ (Own M w0 H) K Q:=fun a w ha hw=>by
 refine .inl ?_
 obtain⟨es,c,hh,hM⟩:=hw.at j hj
 obtain⟨r,h1,h2⟩:=hK.find k w es.toList (L.map (·.1)) hM.keys
 have hgo:(getObj b).run P w=.ok (.map es c) w:=by simp[getObj,Sem.run,hh]
 have hc:=hK.check k w false
 rcases h2 with ⟨rfl,hnk⟩ | ⟨i,e,rfl,he,hk,hjj⟩
 ·have e1:Dm L k dft=dft:=W3 hnk
  have hrun:(execOp a.eval ⟨some dd,.mapEntry U x y,T,pos,after,gd⟩).run P w=.ok (.value (.tuple #[ve (Dm L k dft),.int .i64 c])) { w with heap:=w.heap.setIfInBounds b (.map (es.push { key:=ke k,val:=ve dft,born:=c }) (c+1)) }:=by
   simp[execOp,Instr.mapEntry,ha.ev hx hg,ha.ev hy hg',run_underlying hU,hgo,hc,h1,Ze hz,run_setObj_map _ hh,e1,goInt,Result.andThen]
  unfold Oper.wp
  rw[hrun]
  show K (a.put (some dd) _) _
  have hP:=hM.push k dft
  refine kk c _ _ (ha.put hn true _) (Qd hw hj (fun _=>Iff.rfl) (fun _=>Iff.rfl) hh ⟨_,_,es.size,(heap_set hh).1,⟨_,hP,fun key=>?_⟩,?_,fun v=>?_⟩)
  ·rw[←Tm (v:=dft) hnk,J8]
   split
   ·rename_i e;subst e;exact e1.symm
   ·rfl
  ·exact hP.find (e:={ key:=ke k,val:=ve dft,born:=c }) (by simp)
  ·have:=hP.setVal (i:=es.size) (k:=k) (v:=v) ⟨(k,dft),by rw[hM.size];simp,rfl⟩
   rw[Tm hnk]
   rw[hM.size] at this ⊢
   simpa using this
 ·obtain⟨p,q1,q2,q3⟩:=V3 (d:=dft) hk hjj
  obtain⟨m,q4,q5⟩:=hM.ent i p q1
  have hev:e=⟨ke p.1,ve p.2,m⟩:=by rw[Array.getElem?_toList,q4] at he;cases he;rfl
  subst hev
  subst q2
  have hstay:(Instr.keyThatStays (ke p.1) (ke p.1)).run P w=.ok (ke p.1) w:=by simp[Instr.keyThatStays,hK.same]
  have hmod:(es.modify i fun e=>{ e with key:=ke p.1 })=es:=by
   apply Array.ext_getElem?
   intro q
   rw[Array.getElem?_modify]
   split
   ·rename_i hq;subst hq;rw[q4];rfl
   ·rfl
  have hrun:(execOp a.eval ⟨some dd,.mapEntry U x y,T,pos,after,gd⟩).run P w=.ok (.value (.tuple #[ve (Dm L p.1 dft),.int .i64 m])) { w with heap:=w.heap.setIfInBounds b (.map es c) }:=by
   simp[execOp,Instr.mapEntry,ha.ev hx hg,ha.ev hy hg',run_underlying hU,hgo,hc,h1,q4,hstay,hmod,run_setObj_map _ hh,q3,goInt,Result.andThen]
  unfold Oper.wp
  rw[hrun]
  show K (a.put (some dd) _) _
  refine kk m _ _ (ha.put hn true _) (Qd hw hj (fun _=>Iff.rfl) (fun _=>Iff.rfl) hh ⟨_,_,i,(heap_set hh).1,⟨_,hM,fun _=>rfl⟩,hM.find q4,fun v=>?_⟩)
  rw[Aa1 hk hjj]
  exact hM.setVal ⟨p,q1,rfl⟩
theorem EV.entryStore (k:κ) (j:Nat) (u:β) (s:Nat) (hx:σ.ev x=some (g,.map (some b))) (hg:g=true) (hy:σ.ev y=some (g',.int .i64 s)) (hg':g'=true) (hz:σ.ev z=some (g'',ve u)) (hg'':g''=true) {dft:β} (hj:H[j]?=some (Aec b ke ve dft L k s))
  (kk:WK n K σ (Own M w0 (H.set j (Eb b ke ve (Es L k u))))):EV P n ⟨none,.entryStore U x y z,T,pos,after,gd⟩ σ (Own M w0 H) K Q:=fun a w ha hw=>by
 refine .inl ?_
 obtain⟨es,c,i,hh,_,hf,hM⟩:=hw.at j hj
 have hgo:(getObj b).run P w=.ok (.map es c) w:=by simp[getObj,Sem.run,hh]
 have hrun:(execOp a.eval ⟨none,.entryStore U x y z,T,pos,after,gd⟩).run P w=.ok .skip { w with heap:=w.heap.setIfInBounds b (.map (es.modify i fun e=>{ e with val:=ve u }) c) }:=by
  simp[execOp,Instr.entryStore,ha.ev hx hg,ha.ev hy hg',ha.ev hz hg'',hgo,hf,asInt,asIntOf,run_setObj_map _ hh,Result.andThen]
 unfold Oper.wp
 rw[hrun]
 show K (a.put none undef) _
 exact kk a _ ha (Qd hw hj (fun _=>Iff.rfl) (fun _=>Iff.rfl) hh ⟨_,_,(heap_set hh).1,hM u⟩)
theorem EV.mapUpdate (k:κ) (j:Nat) (u:β) (hU:Ad8 P U Kt E) (hK:KeyT P Kt ke) (hx:σ.ev x=some (g,.map (some b))) (hg:g=true) (hy:σ.ev y=some (g',ke k)) (hg':g'=true) (hz:σ.ev z=some (g'',ve u)) (hg'':g''=true) (hj:H[j]?=some (Eb b ke ve L))
  (kk:WK n K σ (Own M w0 (H.set j (Eb b ke ve (Es L k u))))):EV P n ⟨none,.mapUpdate U x y z,T,pos,after,gd⟩ σ (Own M w0 H) K Q:=fun a w ha hw=>by
 refine .inl ?_
 obtain⟨es,c,hh,hM⟩:=hw.at j hj
 obtain⟨r,h1,h2⟩:=hK.find k w es.toList (L.map (·.1)) hM.keys
 have hgo:(getObj b).run P w=.ok (.map es c) w:=by simp[getObj,Sem.run,hh]
 have hc:=hK.check k w false
 rcases h2 with ⟨rfl,hnk⟩ | ⟨i,e,rfl,he,hk,hjj⟩
 ·have hrun:(execOp a.eval ⟨none,.mapUpdate U x y z,T,pos,after,gd⟩).run P w=.ok .skip { w with heap:=w.heap.setIfInBounds b (.map (es.push { key:=ke k,val:=ve u,born:=c }) (c+1)) }:=by
   simp[execOp,Instr.mapUpdate,ha.ev hx hg,ha.ev hy hg',ha.ev hz hg'',run_underlying hU,hgo,hc,h1,run_setObj_map _ hh,Result.andThen]
  unfold Oper.wp
  rw[hrun]
  show K (a.put none undef) _
  refine kk a _ ha (Qd hw hj (fun _=>Iff.rfl) (fun _=>Iff.rfl) hh ⟨_,_,(heap_set hh).1,?_⟩)
  rw[Tm hnk]
  exact hM.push k u
 ·obtain⟨p,q1,q2,q3⟩:=V3 (d:=u) hk hjj
  obtain⟨m,q4,q5⟩:=hM.ent i p q1
  have hev:e=⟨ke p.1,ve p.2,m⟩:=by rw[Array.getElem?_toList,q4] at he;cases he;rfl
  subst hev
  subst q2
  have hstay:(Instr.keyThatStays (ke p.1) (ke p.1)).run P w=.ok (ke p.1) w:=by simp[Instr.keyThatStays,hK.same]
  have hmod:(es.modify i fun e=>{ e with key:=ke p.1,val:=ve u })=(es.modify i fun e=>{ e with val:=ve u }):=by
   apply Array.ext_getElem?
   intro q
   rw[Array.getElem?_modify,Array.getElem?_modify]
   split
   ·rename_i hq;subst hq;rw[q4];rfl
   ·rfl
  have hrun:(execOp a.eval ⟨none,.mapUpdate U x y z,T,pos,after,gd⟩).run P w=.ok .skip { w with heap:=w.heap.setIfInBounds b (.map (es.modify i fun e=>{ e with val:=ve u }) c) }:=by
   simp[execOp,Instr.mapUpdate,ha.ev hx hg,ha.ev hy hg',ha.ev hz hg'',run_underlying hU,hgo,hc,h1,q4,hstay,hmod,run_setObj_map _ hh,Result.andThen]
  unfold Oper.wp
  rw[hrun]
  show K (a.put none undef) _
  refine kk a _ ha (Qd hw hj (fun _=>Iff.rfl) (fun _=>Iff.rfl) hh ⟨_,_,(heap_set hh).1,?_⟩)
  rw[Aa1 hk hjj]
  exact hM.setVal ⟨p,q1,rfl⟩
theorem Own.weak {r r':Res}{w:World} (k:Nat) (hk:H[k]?=some r) (hr:r.holds w→r'.holds w) (hf:∀ x,r'.foot x→r.foot x) (h:Own M w0 H w):Own M w0 (H.set k r') w :=
 h.upd k hk rfl rfl ⟨rfl,Nat.le_refl _⟩ (Nat.le_refl _) (fun _ _ _=>rfl) (hr (h.at k hk)) fun b hb=>⟨.inl (hf b hb),(h.2.lt r (List.mem_of_getElem? hk) b (hf b hb)).2⟩
theorem Qq {w:World} (k:Nat) (dft:β) (hk:H[k]?=some (Eb b ke ve L)) (h:Own M w0 H w):Own M w0 (H.set k (Z7 b ke ve dft L)) w :=
 h.weak k hk (fun x=>⟨L,x,fun _=>rfl⟩) fun _ x=>x
theorem Qp {w:World} (k:Nat) {dft:β}{key:κ}{s:Nat} (hk:H[k]?=some (Aec b ke ve dft L key s)) (h:Own M w0 H w):Own M w0 (H.set k (Z7 b ke ve dft L)) w :=
 h.weak k hk (fun ⟨es,c,i,h1,⟨L',h2,h3⟩,_⟩=>⟨L',⟨es,c,h1,h2⟩,h3⟩) fun _ x=>x
theorem Sr {k:κ} (j:Nat) (dft:β) (hU:Ad8 P U Kt E) (hK:KeyT P Kt ke) (hz:Z9 P E (ve dft)) (hx:σ.ev x=some (g,.map (some b))) (hg:g=true) (hy:σ.ev y=some (g',ke k)) (hg':g'=true) (hj:H[j]?=some (Z7 b ke ve dft L)) :
  QV P ⟨d,.lookup U x y false,T,pos,after,gd⟩ σ (Own M w0 H) (ve (Dm L k dft)):=.of_run fun n a ha w hw=>by
 obtain⟨L',h1,h2⟩:=hw.at j hj
 have:=Xm (k:=k) (ok:=false) hU hK hz h1
 rw[h2] at this
 simp only[execOp,ha.ev hx hg,ha.ev hy hg',Sem.run_bind,this,Result.andThen_ok,Sem.run_pure]
 rfl
end
end Go.Rd
end
section
namespace Go.Rd
open Go.RowKit
theorem Ke:∀ (vs a c:List Value) (off:Nat),off+vs.length≤a.length→Ky (a++c) off vs=Ky a off vs++c
 | [],a,c,off,_=>rfl
 | v::vs,a,c,off,h=>by
  simp only[List.length_cons] at h
  unfold Ky
  rw[List.set_append_left _ _ (by omega),Ke vs (a.set off v) c (off+1) (by simp;omega)]
theorem Pa:∀ (vs a c:List Value) (off:Nat),Ky (a++c) (a.length+off) vs=a++Ky c off vs
 | [],a,c,off=>rfl
 | v::vs,a,c,off=>by
  unfold Ky
  rw[List.set_append_right _ _ (by omega),Nat.add_sub_cancel_left,Nat.add_assoc,Pa vs a (c.set off v) (off+1)]
theorem Ph {sz:Nat}{vs:List Value}{off:Nat} (hl:off+vs.length≤sz):∀ {rows:List (List Value)}{i:Nat},(∀ r∈rows,r.length=sz)→i<rows.length→Ky rows.flatten (i * sz+off) vs=(rows.set i (Ky (rows.getD i []) off vs)).flatten
 | [],i,_,h=>by simp at h
 | r::rows,0,hr,_=>by
  have:=hr r (by simp)
  simp[Ke vs r rows.flatten off (by omega)]
 | r::rows,i+1,hr,h=>by
  have h1:=hr r (by simp)
  have ih:=Ph (vs:=vs) (off:=off) hl (rows:=rows) (i:=i) (fun q hq=>hr q (by simp[hq])) (by simpa using h)
  rw[List.flatten_cons,show (i+1) * sz+off=r.length+(i * sz+off) from by rw[h1,Nat.succ_mul];omega,Pa,ih]
  simp
theorem Tz {α:Type} [Inhabited α] {enc:α→List Value}{xs:List α}{i:Nat}{z:α}{off:Nat}{vs:List Value} (hi:i<xs.length) (he:enc z=Ky (enc (xs.getD i default)) off vs):(xs.map enc).set i (Ky ((xs.map enc).getD i []) off vs)=(xs.set i z).map enc:=by
 have:(xs.map enc).getD i []=enc (xs.getD i default):=by simp[List.getD_eq_getElem?_getD,List.getElem?_eq_getElem hi]
 rw[this,←he,List.map_set]
section
variable {P : Program} {n : Nat} {σ : Env} {M : Nat → Prop} {w0 : World} {H : List Res} {d : Option Tmp} {T U E S T2 : TypeId} {pos : String} {after : Array Edge} {gd : Option (Nat × Bool)} {x y z : Operand} {g g' g'' : Bool} {v yv : Value}
 {K:Act→World→Prop}{Q:Exit→Act→World→Prop}
theorem Aie {α:Type} [Inhabited α] {enc:α→List Value}{sz:Nat} (k:Nat) (u:α) {xs:List α}{i:Int}{p q:Addr}{off:Nat}{vs:List Value} (hx:σ.ev x=some (g,.pointer (some q))) (hg:g=true) (hy:σ.ev y=some (g',yv)) (hg':g'=true)
  (hk:H[k]?=some (vec v E sz (xs.map enc))) (hp:H1 v i sz p) (hi:IX i (ln xs)) (hq:q=p.add off) (hv:yv.cells=vs.toArray) (hs:C8 P T vs.length) (hl:off+vs.length≤sz) (ho:∀ u∈vs,u.oneCell'=true) (he:enc u=Ky (enc (ele xs i)) off vs)
  (kk:WK n K σ (Own M w0 (H.set k (vec v E sz ((upd xs i u).map enc))))):EV P n ⟨none,.store T x y,U,pos,after,gd⟩ σ (Own M w0 H) K Q:=fun a w ha hw=>by
 refine .inl ?_
 have hvh:=hw.at k hk
 obtain⟨⟨h1,h2⟩,h3⟩:=hvh
 rcases h2 with ⟨rfl,_⟩ | ⟨b,cap,cur,rfl,hb,hh,hnc,hcm,hcs,ht⟩
 ·obtain⟨a,n,c',he',_⟩:=hp;simp at he'
 obtain⟨aa,n',c',he',h0,hlt,rfl⟩:=hp
 simp only[Value.slice.injEq,Option.some.injEq] at he'
 obtain⟨rfl,hn',rfl⟩:=he'
 have hxs:i.toNat<xs.length:=by have:=hi.2;unfold ln at this;omega
 have hrl:(xs.map enc).length=xs.length:=List.length_map _
 have hq2:q=⟨b,i.toNat * sz+off,none⟩:=by rw[hq,Jf,Addr.add_lit];simp
 subst hq2
 have hcl:cur.toList.length=cap * sz:=by simpa using hcs
 have hle:(i.toNat+1) * sz≤cap * sz:=Nat.mul_le_mul_right _ (by rw[hrl] at hnc;omega)
 rw[Nat.succ_mul] at hle
 obtain⟨w',q1,q2,q3,q4,q5,q6,q7⟩:=D8 (P:=P) vs ⟨b,i.toNat * sz+off,none⟩ 0 (i.toNat * sz+off) cur.toList w (by simpa using hh) (by simp[Addr.add]) (by omega) ho
 obtain⟨inf,hinf,hsz⟩:=Option.map_eq_some_iff.1 hs
 have hrun:(execOp a.eval ⟨none,.store T x y,U,pos,after,gd⟩).run P w=.ok .skip w':=by
  simp[execOp,ha.ev hx hg,ha.ev hy hg',Instr.storeAt,Instr.sureAddr,storeVar,hv,sizeOf,typeInfo,hinf,hsz,q1]
 unfold Oper.wp
 rw[hrun]
 show K (a.put none undef) w'
 have hbl:b<w.heap.size:=(Array.getElem?_eq_some_iff.1 hh).1
 have hfl:=Cd h3
 have hrows:((upd xs i u).map enc).flatten=Ky (xs.map enc).flatten (i.toNat * sz+off) vs:=by
  rw[Ph hl h3 (by rw[hrl];exact hxs),Tz hxs he]
  rfl
 have hur:((upd xs i u).map enc).length=(xs.map enc).length:=by simp[upd]
 have hholds:(vec (.slice (some ⟨b,0,none⟩) (xs.map enc).length cap) E sz ((upd xs i u).map enc)).holds w':=by
  refine⟨⟨by rw[hrows,D3,hur];exact h1,.inr ⟨b,cap,(Ky cur.toList (i.toNat * sz+off) vs).toArray,by rw[hur],hb,q2,by rw[hur];exact hnc,hcm,by simp[D3,hcs],?_⟩⟩,fun r hr=>?_⟩
  ·rw[hrows]
   have e1:cur.toList=(xs.map enc).flatten++cur.toList.drop ((xs.map enc).length * sz):=by
    conv=>lhs;rw[←List.take_append_drop ((xs.map enc).length * sz) cur.toList]
    rw[ht]
   have hmul:(i.toNat+1) * sz≤(xs.map enc).length * sz:=Nat.mul_le_mul_right _ (by rw[hrl];omega)
   rw[Nat.succ_mul] at hmul
   rw[e1,Ke vs _ _ _ (by rw[hfl];omega),hur,List.take_append_of_le_length (by rw[D3,hfl];exact Nat.le_refl _),List.take_of_length_le (by rw[D3,hfl];exact Nat.le_refl _)]
  ·obtain⟨s,hs',rfl⟩:=List.mem_map.1 hr
   rcases List.mem_or_eq_of_mem_set hs' with hm | rfl
   ·exact h3 _ (List.mem_map_of_mem hm)
   ·rw[he,D3]
    have:=h3 (enc (ele xs i)) (List.mem_map_of_mem (by unfold ele;rw[List.getD_eq_getElem?_getD,List.getElem?_eq_getElem hxs];exact List.getElem_mem hxs))
    exact this
 refine kk a w' ha (hw.upd k hk q5 q6 q7 (by omega) (fun c hc hne=>q3 c fun e=>hne (by subst e;exact⟨_,_,rfl⟩)) hholds fun c hc=>?_)
 obtain⟨n2,k2,he2⟩:=hc
 simp only[Value.slice.injEq,Option.some.injEq,Addr.mk.injEq] at he2
 obtain⟨⟨rfl,_⟩,_⟩:=he2
 exact⟨.inl ⟨_,_,rfl⟩,by omega⟩
theorem Anp {ats:Array TypeId}{k:IntKind}{i j m:Int} (hx:σ.ev x=some (g,.int k i)) (hg:g=true) (hy:σ.ev y=some (g',.int k j)) (hg':g'=true) (hz:σ.ev z=some (g'',.int k m)) (hg'':g''=true) {C:World→Prop} :
  QV P ⟨d,.call ⟨.builtin .max,#[x,y,z],ats⟩,T,pos,after,gd⟩ σ C (.int k (max (max i j) m)):=.of_run fun n ac ha w hw=>by
 have e:∀ a b:Int,(if b>a then b else a)=max a b:=fun a b=>by split <;> omega
 simp[execOp,resolve,invoke,builtin,ha.ev hx hg,ha.ev hy hg',ha.ev hz hg'',Builtin.max_,Builtin.max2,List.foldlM,e,Int.max_assoc]
theorem Q3 {fn:Func}{R:Ending→World→Prop}{C:World→Prop}{t u s:Nat}{v1 v2 v3:Value} (hr:fn.results=#[.tmp t,.tmp u,.tmp s]) (h1:σ.look t=some (true,v1)) (h2:σ.look u=some (true,v2)) (h3:σ.look s=some (true,v3)) (h:∀ w,C w→R (.returned (.tuple #[v1,v2,v3])) w) :
  WK n (bodyPost P fn R .ret) σ C:=fun a w ha hw=>by
 refine⟨ha.defers,_,?_,h w hw⟩
 have a1:=ha.look t true v1 h1
 have a2:=ha.look u true v2 h2
 have a3:=ha.look s true v3 h3
 simp at a1 a2 a3
 simp[results,hr,a1,a2,a3]
theorem G1 {fn:Func}{R:Ending→World→Prop}{C:World→Prop}{ty:TypeId}{p u s sz:Nat}{q:Addr}{cs:List Value}{v2 v3:Value} (hr:fn.results=#[.cell p ty,.tmp u,.tmp s]) (hT:N4 P ty sz) (hl:cs.length=sz) (hp:σ.look p=some (true,.pointer (some q)))
  (h2:σ.look u=some (true,v2)) (h3:σ.look s=some (true,v3)) (hc:∀ w,C w→CellsAt w q cs 0) (h:∀ w,C w→R (.returned (.tuple #[.agg cs.toArray,v2,v3])) w):WK n (bodyPost P fn R .ret) σ C:=fun a w ha hw=>by
 refine⟨ha.defers,_,?_,h w hw⟩
 have hp':=ha.look p true _ hp
 have a2:=ha.look u true v2 h2
 have a3:=ha.look s true v3 h3
 simp at hp' a2 a3
 have:=Kw (P:=P) hT hl (hc w hw)
 simp[results,hr,hp',asAddr,this,a2,a3]
def Aea (b off m:Nat):List Value:=(List.range m).map fun j=>.pointer (some ⟨b,off+j,none⟩)
theorem Yt {b m off:Nat}{k:IntKind}{i:Int}{C:World→Prop} (hU:P.underlying U=some (.array m E)) (hE:K3 P E) (hs:C8 P E 1) (hx:σ.ev x=some (g,.agg (Aea b off m).toArray)) (hg:g=true) (hy:σ.ev y=some (g',.int k i)) (hg':g'=true) (hi:IX i m) :
  QV P ⟨d,.index U x y,T,pos,after,gd⟩ σ C (.pointer (some (((⟨b,0,none⟩:Addr).add off).add (i.toNat * 1)))):=.of_run fun n a ha w hw=>by
 obtain⟨inf,hin,hsz⟩:=Option.map_eq_some_iff.1 hs
 have h0:=hi.1;have h1:=hi.2
 have hlt:i.toNat<m:=by omega
 have hA:=L7 hE w
 have e:(((⟨b,0,none⟩:Addr).add off).add (i.toNat * 1))=⟨b,off+i.toNat,none⟩:=by rw[Nat.mul_one,Addr.add_lit,Addr.add_lit,Nat.zero_add]
 have hget:(Aea b off m)[i.toNat]?=some (.pointer (some ⟨b,off+i.toNat,none⟩)):=by simp[Aea,hlt]
 rw[e]
 simp[execOp,ha.ev hx hg,ha.ev hy hg',Instr.index,asIntOf,run_underlying hU,h0,h1,sizeOf,typeInfo,hin,hsz,part,hA,hget]
theorem Z0 {xs:List Int}{m:Nat}{k:IntKind}{i:Int}{C:World→Prop} (hU:P.underlying U=some (.array m E)) (hE:K3 P E) (hs:C8 P E 1) (hx:σ.ev x=some (g,.agg (xs.map Cg).toArray)) (hg:g=true) (hy:σ.ev y=some (g',.int k i)) (hg':g'=true) (hl:xs.length=m) (hi:IX i m) :
  QV P ⟨d,.index U x y,T,pos,after,gd⟩ σ C (.int .i64 (ele xs i)):=.of_run fun n a ha w hw=>by
 obtain⟨inf,hin,hsz⟩:=Option.map_eq_some_iff.1 hs
 have h0:=hi.1;have h1:=hi.2
 have hlt:i.toNat<xs.length:=by omega
 have hA:=L7 hE w
 have hget:(xs.map Cg)[i.toNat]?=some (.int .i64 (ele xs i)):=by
  rw[List.getElem?_map,List.getElem?_eq_getElem hlt]
  simp[ele,List.getD_eq_getElem?_getD,List.getElem?_eq_getElem hlt,Cg]
 have hget':(List.map Cg xs).toArray[i.toNat]?=some (.int .i64 (ele xs i)):=by simpa using hget
 simp[execOp,ha.ev hx hg,ha.ev hy hg',Instr.index,asIntOf,run_underlying hU,h0,h1,sizeOf,typeInfo,hin,hsz,part,hA,-List.map_toArray,-List.getElem?_toArray,hget']
end
end Go.Rd
end
section
namespace Go.Rd
open Go.RowKit
theorem Aaw {α:Type}{xs:List α}{i j:Int} (h:SX i j (ln xs)):(sub xs i j).length=(j - i).toNat:=by
 obtain⟨h1,h2,h3⟩:=h
 unfold sub ln at *
 rw[List.length_take,List.length_drop];omega
theorem Oe {α:Type}{xs:List α}{v:Value}{sz:Nat}{i j:Int} (hv:SliceLen v xs.length) (h:SX i j (ln xs)):SliceLen (Lr v sz i.toNat j.toNat) (sub xs i j).length:=by
 rw[Aaw h]
 obtain⟨h1,h2,h3⟩:=h
 unfold ln at h3
 have:=Acn (sz:=sz) hv (l:=i.toNat) (h:=j.toNat) (by omega) (by omega)
 rwa [show (j - i).toNat=j.toNat - i.toNat from by omega]
section
variable {P : Program} {n : Nat} {σ : Env} {M : Nat → Prop} {w0 : World} {H : List Res} {d : Option Tmp} {T U E : TypeId} {pos : String} {after : Array Edge} {gd : Option (Nat × Bool)} {x y : Operand} {g g' : Bool} {v : Value}
 {K:Act→World→Prop}{Q:Exit→Act→World→Prop}
theorem Aeo {α:Type}{enc:α→List Value}{z:α}{sz m:Nat} (hl:(enc z).length=sz) (h0:0<sz):(Builtin.zeroCells (enc z).toArray m).toList=((List.replicate m z).map enc).flatten:=by
 apply List.ext_getElem?
 intro j
 have hall:∀ r∈(List.replicate m z).map enc,r.length=sz:=by intro r hr;obtain⟨u,hu,rfl⟩:=List.mem_map.1 hr;rw[List.mem_replicate] at hu;rw[hu.2,hl]
 have hfl:((List.replicate m z).map enc).flatten.length=m * sz:=by rw[Cd hall];simp
 have hs:(enc z).toArray.size=sz:=by simpa using hl
 by_cases hj:j<m * sz
 ·have hq:j / sz<m:=Nat.div_lt_of_lt_mul (by rwa [Nat.mul_comm] at hj)
  have hd:=Gg (sz:=sz) (rows:=(List.replicate m z).map enc) (i:=j / sz) (r:=enc z) hall (by simp[hq])
  have hmod:j % sz<sz:=Nat.mod_lt _ h0
  have e1:((List.replicate m z).map enc).flatten[j]?=(enc z)[j % sz]?:=by
   have:(enc z)[j % sz]?=((((List.replicate m z).map enc).flatten.drop (j / sz * sz)).take (enc z).length)[j % sz]?:=by rw[hd]
   rw[this,List.getElem?_take,hl,if_pos hmod,List.getElem?_drop,Nat.mul_comm,Nat.div_add_mod]
  rw[e1]
  have hlt:j % sz<(enc z).length:=by rw[hl];exact hmod
  simp[Builtin.zeroCells,hj,hl,List.getElem?_eq_getElem hlt]
 ·have hj':=Nat.le_of_not_lt hj
  rw[List.getElem?_eq_none (by rw[Array.length_toList,size_zeroCells,hs];exact hj'),List.getElem?_eq_none (by rw[hfl];exact hj')]
def clr {α:Type} (xs:List α) (i:Int) (z:α):List α:=xs.take i.toNat++List.replicate (xs.length - i.toNat) z
theorem I4 (p:Addr):p=p.add 0:=(by cases p;simp[Addr.add])
theorem Abe {α:Type}{xs:List α}{i:Int}{z:α} (h:i≤ln xs):(clr xs i z).length=xs.length:=by
 unfold clr ln at *
 rw[List.length_append,List.length_take,List.length_replicate];omega
theorem Wx:∀ (vs a:List Value) (off:Nat),off+vs.length=a.length→Ky a off vs=a.take off++vs
 | [],a,off,h=>by simp only[List.length_nil,Nat.add_zero] at h;subst h;simp[Ky]
 | v::vs,a,off,h=>by
  simp only[List.length_cons] at h
  unfold Ky
  rw[Wx vs (a.set off v) (off+1) (by simp;omega)]
  have:(a.set off v).take (off+1)=a.take off++[v]:=by
   rw[List.take_add_one,List.take_set_of_le (Nat.le_refl _),List.getElem?_set_self (by omega)];rfl
  rw[this,List.append_assoc];rfl
theorem T1 {sz:Nat}:∀ {rows:List (List Value)} (i:Nat),(∀ r∈rows,r.length=sz)→(rows.take i).flatten=rows.flatten.take (i * sz)
 | [],i,_=>by simp
 | r::rows,0,_=>by simp
 | r::rows,i+1,h=>by
  have h1:=h r (by simp)
  rw[List.take_succ_cons,List.flatten_cons,List.flatten_cons,T1 i (fun q hq=>h q (by simp[hq])),show (i+1) * sz=r.length+i * sz from by rw[h1,Nat.succ_mul];omega,List.take_length_add_append]
theorem EV.clear {α:Type}{enc:α→List Value}{sz:Nat} (k:Nat) (z:α) {xs:List α}{lo hi:Int} (hT:Ia P U E sz) (hz:ZeroT P E (enc z)) (hlen:∀ u,(enc u).length=sz) (h0:0<sz) (h1:∀ c∈enc z,c.oneCell'=true)
  (hx:σ.ev x=some (g,Lr v sz lo.toNat hi.toNat)) (hg:g=true) (hk:H[k]?=some (vec v E sz (xs.map enc))) (hS:SX lo hi (ln xs)) (hh:hi=ln xs) {dd:Nat} (hd:d=some dd∧dd<n∨d=none)
  (kk:WK n K σ (Own M w0 (H.set k (vec v E sz ((clr xs lo z).map enc))))) (kd:∀ dd,d=some dd→WK n K ((dd,(true,.tuple #[]))::σ) (Own M w0 (H.set k (vec v E sz ((clr xs lo z).map enc))))) :
  EV P n ⟨d,.call ⟨.builtin .clear,#[x],#[U]⟩,T,pos,after,gd⟩ σ (Own M w0 H) K Q:=fun a w ha hw=>by
 refine .inl ?_
 obtain⟨s1,s2,s3⟩:=hS
 subst hh
 obtain⟨⟨q1,q2⟩,q3⟩:=hw.at k hk
 obtain⟨hU,hSz⟩:=hT
 obtain⟨inf,zv,z1,z2,z3⟩:=hz.out
 have hrl:(xs.map enc).length=xs.length:=List.length_map _
 have hhi:(ln xs).toNat=xs.length:=by unfold ln;omega
 have hend:∀ w',(vec v E sz ((clr xs lo z).map enc)).holds w'→Own M w0 (H.set k (vec v E sz ((clr xs lo z).map enc))) w'→K (a.put d (.tuple #[])) w':=fun w' _ ho=>by
  cases d with
  | none=>exact kk a w' ha ho
  | some dd' =>
   rcases hd with ⟨hd1,hd2⟩ | hd
   ·cases hd1;exact kd _ rfl _ w' (ha.put hd2 true _) ho
   ·cases hd
 rcases q2 with ⟨rfl,hl0⟩ | ⟨b,cap,cur,rfl,hb,hh,hnc,hcm,hcs,ht⟩
 ·have hx0:xs=[]:=List.length_eq_zero_iff.1 (by rw[←hrl];exact hl0)
  subst hx0
  have hl0:lo=0:=by unfold ln at s3;simp at s3;omega
  subst hl0
  have hrun:(execOp a.eval ⟨d,.call ⟨.builtin .clear,#[x],#[U]⟩,T,pos,after,gd⟩).run P w=.ok (.value (.tuple #[])) w:=by
   simp[execOp,resolve,invoke,builtin,ha.ev hx hg,Builtin.clear_,run_underlying hU,Lr,ln,Result.andThen]
  unfold Oper.wp
  rw[hrun]
  have e:clr ([]:List α) 0 z=[]:=rfl
  have es:H.set k (vec (.slice none 0 0) E sz (([]:List α).map enc))=H:=by
   apply List.ext_getElem?
   intro j
   rw[List.getElem?_set]
   split
   ·rename_i hj;subst hj
    split
    ·exact hk.symm
    ·rw[List.getElem?_eq_none (by omega)] at hk;cases hk
   ·rfl
  have hown:Own M w0 (H.set k (vec (.slice none 0 0) E sz ((clr ([]:List α) 0 z).map enc))) w:=by rw[e,es];exact hw
  exact hend w (hown.at k (by rw[List.getElem?_set_self (List.getElem?_eq_some_iff.1 hk).1])) hown
 ·by_cases hm:xs.length - lo.toNat=0
  ·have e:clr xs lo z=xs:=by unfold clr;rw[hm,List.replicate_zero,List.append_nil,List.take_of_length_le (by omega)]
   have es:H.set k (vec (.slice (some ⟨b,0,none⟩) (xs.map enc).length cap) E sz (xs.map enc))=H:=by
    apply List.ext_getElem?
    intro j
    rw[List.getElem?_set]
    split
    ·rename_i hj;subst hj
     split
     ·exact hk.symm
     ·rw[List.getElem?_eq_none (by omega)] at hk;cases hk
    ·rfl
   have hrun:(execOp a.eval ⟨d,.call ⟨.builtin .clear,#[x],#[U]⟩,T,pos,after,gd⟩).run P w=.ok (.value (.tuple #[])) w:=by
    have ex:=ha.ev hx hg
    simp only[Lr,hhi,hm] at ex
    split at ex <;> simp[execOp,resolve,invoke,builtin,ex,Builtin.clear_,run_underlying hU,Result.andThen]
   unfold Oper.wp
   rw[hrun]
   have hown:Own M w0 (H.set k (vec (.slice (some ⟨b,0,none⟩) (xs.map enc).length cap) E sz ((clr xs lo z).map enc))) w:=by rw[e,es];exact hw
   exact hend w (hown.at k (by rw[List.getElem?_set_self (List.getElem?_eq_some_iff.1 hk).1])) hown
  ·have hne:¬cap=lo.toNat:=by rw[hrl] at hnc;omega
   have hzl:(enc z).length=sz:=hlen z
   have hzc:=Aeo (enc:=enc) (z:=z) (m:=xs.length - lo.toNat) hzl h0
   have hfz:=Cd (sz:=sz) (rows:=(List.replicate (xs.length - lo.toNat) z).map enc) (by intro r hr;obtain⟨u,hu,rfl⟩:=List.mem_map.1 hr;rw[List.mem_replicate] at hu;rw[hu.2,hzl])
   rw[List.length_map,List.length_replicate] at hfz
   have hcl:cur.toList.length=cap * sz:=by simpa using hcs
   have hmul:(lo.toNat+(xs.length - lo.toNat)) * sz≤cap * sz:=Nat.mul_le_mul_right _ (by rw[hrl] at hnc;omega)
   rw[Nat.add_mul] at hmul
   obtain⟨w',q1',r2,r3,r4,r5,r6,r7⟩:=D8 (P:=P) ((List.replicate (xs.length - lo.toNat) z).map enc).flatten ⟨b,lo.toNat * sz,none⟩ 0 (lo.toNat * sz) cur.toList w (by simpa using hh) (by simp[Addr.add]) (by rw[hfz];omega)
    (fun u hu=>by obtain⟨r,hr,hu⟩:=List.mem_flatten.1 hu;obtain⟨v,hv,rfl⟩:=List.mem_map.1 hr;rw[List.mem_replicate] at hv;rw[hv.2] at hu;exact h1 u hu)
   have hrun:(execOp a.eval ⟨d,.call ⟨.builtin .clear,#[x],#[U]⟩,T,pos,after,gd⟩).run P w=.ok (.value (.tuple #[])) w':=by
    have ex:=ha.ev hx hg
    simp only[Lr,hhi,if_neg hne,Option.map_some,Addr.add_lit,Nat.zero_add] at ex
    obtain⟨m',hm'⟩:∃ m',xs.length - lo.toNat=m'+1:=⟨xs.length - lo.toNat - 1,by omega⟩
    rw[hm'] at ex hzc q1'
    rw[List.map_replicate] at hzc q1'
    have hzr:(zeroValue E).run P w=.ok zv w:=by simp[zeroValue,typeInfo,z1,z2]
    simp[execOp,resolve,invoke,builtin,ex,Builtin.clear_,run_underlying hU,Result.andThen,hzr,z3,hzc,q1']
   unfold Oper.wp
   rw[hrun]
   have hbl:b<w.heap.size:=(Array.getElem?_eq_some_iff.1 hh).1
   have hcl2:((clr xs lo z).map enc).length=(xs.map enc).length:=by rw[List.length_map,List.length_map,Abe s2]
   have hflat:((clr xs lo z).map enc).flatten=Ky (xs.map enc).flatten (lo.toNat * sz) ((List.replicate (xs.length - lo.toNat) z).map enc).flatten:=by
    have hfx:=Cd q3
    rw[Wx _ _ _ (by rw[hfz,hfx,hrl,←Nat.add_mul];congr 1;omega),←T1 _ q3]
    unfold clr
    rw[List.map_append,List.flatten_append,List.map_take]
   have hholds:(vec (.slice (some ⟨b,0,none⟩) (xs.map enc).length cap) E sz ((clr xs lo z).map enc)).holds w':=by
    refine⟨⟨by rw[hflat,D3,hcl2];exact q1,.inr ⟨b,cap,(Ky cur.toList (lo.toNat * sz) ((List.replicate (xs.length - lo.toNat) z).map enc).flatten).toArray,by rw[hcl2],hb,r2,by rw[hcl2];exact hnc,hcm,by simp[D3,hcs],?_⟩⟩,fun r hr=>?_⟩
    ·have e1:cur.toList=(xs.map enc).flatten++cur.toList.drop ((xs.map enc).length * sz):=by
      conv=>lhs;rw[←List.take_append_drop ((xs.map enc).length * sz) cur.toList]
      rw[ht]
     have hfx:=Cd q3
     rw[hflat,e1,Ke _ _ _ _ (by rw[hfz,hfx,hrl,←Nat.add_mul];exact Nat.mul_le_mul_right _ (by omega)),hcl2,List.take_append_of_le_length (by rw[D3,hfx];exact Nat.le_refl _),List.take_of_length_le (by rw[D3,hfx];exact Nat.le_refl _)]
    ·obtain⟨u,hu,rfl⟩:=List.mem_map.1 hr
     exact hlen u
   refine hend w' hholds (hw.upd k hk r5 r6 r7 (by omega) (fun c hc hne=>r3 c fun e=>hne (by subst e;exact⟨_,_,rfl⟩)) hholds fun c hc=>?_)
   obtain⟨n2,k2,he2⟩:=hc
   simp only[Value.slice.injEq,Option.some.injEq,Addr.mk.injEq] at he2
   obtain⟨⟨rfl,_⟩,_⟩:=he2
   exact⟨.inl ⟨_,_,rfl⟩,by omega⟩
end
def Vt (a b:Edg):Int:=if a.fr<b.fr then -1 else if b.fr<a.fr then 1 else if a.to<b.to then -1 else if b.to<a.to then 1 else if a.bk<b.bk then -1 else if b.bk<a.bk then 1 else if a.wt<b.wt then -1 else if b.wt<a.wt then 1 else 0
def We (xs:List Edg):List Edg:=xs.mergeSort fun x y=>!decide (Vt y x<0)
def So (xs:List Edg):Option (List Edg):=ck (xs.length<4611686018427387904) (some (We xs))
def Sy {α β:Type} (o:Option α) (a:Option β) (f:α→Option β):Option β:=match o with | none=>a | some y=>f y
theorem Q7 {α β:Type}{o:Option α}{a:Option β}{f:α→Option β}{r:β} (h:o=none) (hm:Sy o a f=some r):a=some r:=by subst h;exact hm
theorem Q6 {α β:Type}{o:Option α}{a:Option β}{f:α→Option β}{r:β}{y:α} (h:o=some y) (hm:Sy o a f=some r):f y=some r:=by subst h;exact hm
abbrev L5:Type:=List Int×List Stm×List Int×Int×Int×List Int×List Int×List Int
def LayAt (K:World) (v:Value):Option L5→Prop
 | none=>v=.pointer none
 | some y=>∃ p h1 h2 h3 h4 h5 h6,v=.pointer (some p)∧CellsAt K p [h1,h2,h3,.int .i64 y.2.2.2.1,.int .i64 y.2.2.2.2.1,h4,h5,h6] 0∧Arr K h1 1 (y.1.map Af)∧Arr K h2 9 (y.2.1.map Stm.cells)∧Arr K h3 1 (y.2.2.1.map Af)∧Arr K h4 1 (y.2.2.2.2.2.1.map Af)∧Arr K h5 1 (y.2.2.2.2.2.2.1.map Af)∧Arr K h6 1 (y.2.2.2.2.2.2.2.map Af)
theorem LayAt.none {K:World}:LayAt K (.pointer none) Option.none:=rfl
theorem LayAt.mk {K:World}{p:Addr}{h1 h2 h3 h4 h5 h6:Value}{a c f g h:List Int}{b:List Stm}{d e:Int} (hc:CellsAt K p [h1,h2,h3,.int .i64 d,.int .i64 e,h4,h5,h6] 0) (a1:Arr K h1 1 (a.map Af)) (a2:Arr K h2 9 (b.map Stm.cells)) (a3:Arr K h3 1 (c.map Af)) (a4:Arr K h4 1 (f.map Af)) (a5:Arr K h5 1 (g.map Af)) (a6:Arr K h6 1 (h.map Af)) :
  LayAt K (.pointer (some p)) (some (a,b,c,d,e,f,g,h)):=⟨p,h1,h2,h3,h4,h5,h6,rfl,hc,a1,a2,a3,a4,a5,a6⟩
theorem LayAt.nil {K:World}{v:Value}{o:Option L5} (h:LayAt K v o) (e:o=Option.none):v=.pointer Option.none:=by subst e;exact h
theorem LayAt.at {K:World}{v:Value}{o:Option L5}{y:L5} (h:LayAt K v o) (e:o=some y):∃ p h1 h2 h3 h4 h5 h6,v=.pointer (some p)∧CellsAt K p [h1,h2,h3,.int .i64 y.2.2.2.1,.int .i64 y.2.2.2.2.1,h4,h5,h6] 0∧Arr K h1 1 (y.1.map Af)∧Arr K h2 9 (y.2.1.map Stm.cells)∧Arr K h3 1 (y.2.2.1.map Af)∧Arr K h4 1 (y.2.2.2.2.2.1.map Af)∧Arr K h5 1 (y.2.2.2.2.2.2.1.map Af)∧Arr K h6 1 (y.2.2.2.2.2.2.2.map Af):=by subst e;exact h
end Go.Rd
end
section
namespace Go.Rd
noncomputable def Is (n_:Int):Option (Bool) :=
 some ((decide (n_≥(-64)))&&(decide (n_≤64)))
noncomputable def Ih (step plus turn log:Int):Option (Int) :=
 bdG (!((decide (log<0)) || (decide (log>5)))) (Is step) fun x1 =>
 bdG (!(((decide (log<0)) || (decide (log>5))) || (!x1))) (Is plus) fun x4 =>
 br ((((((decide (log<0)) || (decide (log>5))) || (!x1)) || (!x4)) || (decide (turn<0))) || (decide (turn>200))) (
 some 0) (
 ck (IR (step * turn)) <|
 ck (IR ((step * turn)+plus)) <|
 ck (0≤log) <|
 ck (IR ((shlD 1 log) - 1)) <|
 some (My ((step * turn)+plus) ((shlD 1 log) - 1)))
noncomputable def Lx (is:Bool):Option (Int) :=
 br is (
 some 1) (
 some 0)
noncomputable def N9 (op a b:Int):Option (Int) :=
 br (op==1) (
 some (IntKind.i64.wrap (a+b))) (
 br (op==2) (
 some (IntKind.i64.wrap (a - b))) (
 br (op==3) (
 some (IntKind.i64.wrap (a * b))) (
 br (op==4) (
 some (My a b)) (
 br (op==5) (
 some (bitOr a b)) (
 br (op==6) (
 some (Apw a b)) (
 br (op==7) (
 bd (Lx (decide (a<b))) fun x21 =>
 some x21) (
 br (op==8) (
 bd (Lx (a==b)) fun x27 =>
 some x27) (
 some 0))))))))
noncomputable def Dg (op:Int):Option (Int) :=
 br (op==3) (
 br (op==3) (
 some 2) (
 br (op==13) (
 some 1) (
 some 0))) (
 br (op==4) (
 some 2) (
 br (op==13) (
 some 1) (
 some 0)))
noncomputable def Ic (op:Int):Option (Int) :=
 br ((op==3) || (op==4)) (
 some 2) (
 br (op==13) (
 some 1) (
 some 0))
noncomputable def Pe (log:Int):(Int×Int)→Option (Stp (Int×Int) (Empty)):=fun (n3_1,i4_1) =>
 br (decide (i4_1<log)) (
 ck (IR (n3_1+n3_1)) <|
 ck (IR (i4_1+1)) <|
 some (.next ((n3_1+n3_1),(i4_1+1)))) (
 some (.brk (n3_1,i4_1)))
noncomputable def On (log:Int):Option (Int) :=
 bd (lp (Pe log) (1,0)) fun o1=>o1.on (fun (n3_1,i4_1) =>
 some n3_1) (fun r=>r.elim)
noncomputable def Oo (a b:Int):Option (Int) :=
 ck (b≠0) <|
 br (decide ((Int.tmod a b)<0)) (
 ck (IR ((Int.tmod a b)+b)) <|
 some ((Int.tmod a b)+b)) (
 some (Int.tmod a b))
noncomputable def Pd (op:Int):(Int×Int×Int×Int×Int)→Option (Stp (Int×Int×Int×Int×Int) (Empty)):=fun (a1_1,b2_1,n7_1,power8_1,i9_1) =>
 br (decide (i9_1<64)) (
 br (((((op==4)&&((Int.tmod a1_1 2) != 0))&&((Int.tmod b2_1 2) != 0)) || ((op==5)&&(((Int.tmod a1_1 2) != 0) || ((Int.tmod b2_1 2) != 0)))) || ((op==6)&&(!(((Int.tmod a1_1 2) != 0)==((Int.tmod b2_1 2) != 0))))) (
 br (decide ((Int.tmod a1_1 2)<0)) (
 br (decide ((Int.tmod b2_1 2)<0)) (
 ck (IR (Int.tdiv (IntKind.i64.wrap (a1_1 - (IntKind.i64.wrap ((Int.tmod a1_1 2)+2)))) 2)) <|
 ck (IR (Int.tdiv (IntKind.i64.wrap (b2_1 - (IntKind.i64.wrap ((Int.tmod b2_1 2)+2)))) 2)) <|
 some (.next ((Int.tdiv (IntKind.i64.wrap (a1_1 - (IntKind.i64.wrap ((Int.tmod a1_1 2)+2)))) 2),(Int.tdiv (IntKind.i64.wrap (b2_1 - (IntKind.i64.wrap ((Int.tmod b2_1 2)+2)))) 2),(IntKind.i64.wrap (n7_1+power8_1)),(IntKind.i64.wrap (power8_1+power8_1)),(IntKind.i64.wrap (i9_1+1))))) (
 ck (IR (Int.tdiv (IntKind.i64.wrap (a1_1 - (IntKind.i64.wrap ((Int.tmod a1_1 2)+2)))) 2)) <|
 ck (IR (Int.tdiv (IntKind.i64.wrap (b2_1 - (Int.tmod b2_1 2))) 2)) <|
 some (.next ((Int.tdiv (IntKind.i64.wrap (a1_1 - (IntKind.i64.wrap ((Int.tmod a1_1 2)+2)))) 2),(Int.tdiv (IntKind.i64.wrap (b2_1 - (Int.tmod b2_1 2))) 2),(IntKind.i64.wrap (n7_1+power8_1)),(IntKind.i64.wrap (power8_1+power8_1)),(IntKind.i64.wrap (i9_1+1)))))) (
 br (decide ((Int.tmod b2_1 2)<0)) (
 ck (IR (Int.tdiv (IntKind.i64.wrap (a1_1 - (Int.tmod a1_1 2))) 2)) <|
 ck (IR (Int.tdiv (IntKind.i64.wrap (b2_1 - (IntKind.i64.wrap ((Int.tmod b2_1 2)+2)))) 2)) <|
 some (.next ((Int.tdiv (IntKind.i64.wrap (a1_1 - (Int.tmod a1_1 2))) 2),(Int.tdiv (IntKind.i64.wrap (b2_1 - (IntKind.i64.wrap ((Int.tmod b2_1 2)+2)))) 2),(IntKind.i64.wrap (n7_1+power8_1)),(IntKind.i64.wrap (power8_1+power8_1)),(IntKind.i64.wrap (i9_1+1))))) (
 ck (IR (Int.tdiv (IntKind.i64.wrap (a1_1 - (Int.tmod a1_1 2))) 2)) <|
 ck (IR (Int.tdiv (IntKind.i64.wrap (b2_1 - (Int.tmod b2_1 2))) 2)) <|
 some (.next ((Int.tdiv (IntKind.i64.wrap (a1_1 - (Int.tmod a1_1 2))) 2),(Int.tdiv (IntKind.i64.wrap (b2_1 - (Int.tmod b2_1 2))) 2),(IntKind.i64.wrap (n7_1+power8_1)),(IntKind.i64.wrap (power8_1+power8_1)),(IntKind.i64.wrap (i9_1+1))))))) (
 br (decide ((Int.tmod a1_1 2)<0)) (
 br (decide ((Int.tmod b2_1 2)<0)) (
 ck (IR (Int.tdiv (IntKind.i64.wrap (a1_1 - (IntKind.i64.wrap ((Int.tmod a1_1 2)+2)))) 2)) <|
 ck (IR (Int.tdiv (IntKind.i64.wrap (b2_1 - (IntKind.i64.wrap ((Int.tmod b2_1 2)+2)))) 2)) <|
 some (.next ((Int.tdiv (IntKind.i64.wrap (a1_1 - (IntKind.i64.wrap ((Int.tmod a1_1 2)+2)))) 2),(Int.tdiv (IntKind.i64.wrap (b2_1 - (IntKind.i64.wrap ((Int.tmod b2_1 2)+2)))) 2),n7_1,(IntKind.i64.wrap (power8_1+power8_1)),(IntKind.i64.wrap (i9_1+1))))) (
 ck (IR (Int.tdiv (IntKind.i64.wrap (a1_1 - (IntKind.i64.wrap ((Int.tmod a1_1 2)+2)))) 2)) <|
 ck (IR (Int.tdiv (IntKind.i64.wrap (b2_1 - (Int.tmod b2_1 2))) 2)) <|
 some (.next ((Int.tdiv (IntKind.i64.wrap (a1_1 - (IntKind.i64.wrap ((Int.tmod a1_1 2)+2)))) 2),(Int.tdiv (IntKind.i64.wrap (b2_1 - (Int.tmod b2_1 2))) 2),n7_1,(IntKind.i64.wrap (power8_1+power8_1)),(IntKind.i64.wrap (i9_1+1)))))) (
 br (decide ((Int.tmod b2_1 2)<0)) (
 ck (IR (Int.tdiv (IntKind.i64.wrap (a1_1 - (Int.tmod a1_1 2))) 2)) <|
 ck (IR (Int.tdiv (IntKind.i64.wrap (b2_1 - (IntKind.i64.wrap ((Int.tmod b2_1 2)+2)))) 2)) <|
 some (.next ((Int.tdiv (IntKind.i64.wrap (a1_1 - (Int.tmod a1_1 2))) 2),(Int.tdiv (IntKind.i64.wrap (b2_1 - (IntKind.i64.wrap ((Int.tmod b2_1 2)+2)))) 2),n7_1,(IntKind.i64.wrap (power8_1+power8_1)),(IntKind.i64.wrap (i9_1+1))))) (
 ck (IR (Int.tdiv (IntKind.i64.wrap (a1_1 - (Int.tmod a1_1 2))) 2)) <|
 ck (IR (Int.tdiv (IntKind.i64.wrap (b2_1 - (Int.tmod b2_1 2))) 2)) <|
 some (.next ((Int.tdiv (IntKind.i64.wrap (a1_1 - (Int.tmod a1_1 2))) 2),(Int.tdiv (IntKind.i64.wrap (b2_1 - (Int.tmod b2_1 2))) 2),n7_1,(IntKind.i64.wrap (power8_1+power8_1)),(IntKind.i64.wrap (i9_1+1)))))))) (
 some (.brk (a1_1,b2_1,n7_1,power8_1,i9_1)))
noncomputable def Om (op a b:Int):Option (Int) :=
 bd (lp (Pd op) (a,b,0,1,0)) fun o1=>o1.on (fun (a1_1,b2_1,n7_1,power8_1,i9_1) =>
 some n7_1) (fun r=>r.elim)
noncomputable def Abk (op a b:Int):Option (Int) :=
 br (op==1) (
 some (IntKind.i64.wrap (a+b))) (
 br (op==2) (
 some (IntKind.i64.wrap (a - b))) (
 br (op==3) (
 some (IntKind.i64.wrap (a * b))) (
 br (op==4) (
 br (op==4) (
 bd (Om op a b) fun x14 =>
 some x14) (
 br (op==7) (
 br (decide (a<b)) (
 some 1) (
 some 0)) (
 br (op==8) (
 br (a==b) (
 some 1) (
 some 0)) (
 some 0)))) (
 br (op==5) (
 br (op==5) (
 bd (Om op a b) fun x35 =>
 some x35) (
 br (op==7) (
 br (decide (a<b)) (
 some 1) (
 some 0)) (
 br (op==8) (
 br (a==b) (
 some 1) (
 some 0)) (
 some 0)))) (
 br (op==6) (
 bd (Om op a b) fun x54 =>
 some x54) (
 br (op==7) (
 br (decide (a<b)) (
 some 1) (
 some 0)) (
 br (op==8) (
 br (a==b) (
 some 1) (
 some 0)) (
 some 0))))))))
noncomputable def Pf (step plus turn log:Int):Option (Int) :=
 br ((((((((decide (log<0)) || (decide (log>5))) || (decide (step<(-64)))) || (decide (step>64))) || (decide (plus<(-64)))) || (decide (plus>64))) || (decide (turn<0))) || (decide (turn>200))) (
 some 0) (
 ck (IR (step * turn)) <|
 ck (IR ((step * turn)+plus)) <|
 bd (On log) fun x8 =>
 bd (Oo ((step * turn)+plus) x8) fun x11 =>
 some x11)
theorem Qn (step plus turn log:Int):Ih step plus turn log=some (idx step plus turn log):=by
 unfold Ih Is bdG idx
 simp only[bd_ret,Px]
 by_cases h:Pl step plus turn log
 ·have hb:=h
  unfold Pl at hb
  obtain⟨h1,h2,h3,h4,h5,h6,h7,h8⟩:=hb
  have hp2:=Hm log.toNat (by omega)
  have hst:=Um h3 h4 h7 h8
  have hg:=Apm h
  have hs:shlD 1 log=2 ^ log.toNat:=V0 log h1 h2
  simp only[show ¬log<0 from by omega,show ¬log>5 from by omega,show step≥-64 from h3,h4,show plus≥-64 from h5,h6,show ¬turn<0 from by omega,show ¬turn>200 from by omega,decide_false,decide_true,Bool.or_self,Bool.and_self,Bool.not_true,Bool.not_false,if_true,Bool.or_false,Bool.false_eq_true,if_false,if_pos h,hs]
  rw[Aj (by omega) (by omega),Aj (by omega) (by omega),Ao (by omega),Aj (by omega) (by omega)]
  congr 1
  unfold My
  rw[W9 _ _ (by omega),Dr]
  ·have:=Int.emod_nonneg (step * turn+plus) (show (2:Int) ^ log.toNat≠0 from by omega)
   omega
  ·have:=Int.emod_lt_of_pos (step * turn+plus) (show (0:Int)<2 ^ log.toNat from by omega)
   omega
 ·rw[if_neg h]
  unfold Pl at h
  by_cases g1:log<0∨log>5
  ·rcases g1 with g | g <;> simp[g]
  ·by_cases g2:step≥-64∧step≤64
   ·by_cases g3:plus≥-64∧plus≤64
    ·by_cases g4:turn<0∨turn>200
     ·rcases g4 with g | g <;> simp[g,show ¬log<0 from by omega,show ¬log>5 from by omega,g2.1,g2.2,g3.1,g3.2]
     ·exact absurd ⟨by omega,by omega,by omega,by omega,by omega,by omega,by omega,by omega⟩ h
    ·have:(decide (plus≥-64)&&decide (plus≤64))=false:=by simp;omega
     simp[this,show ¬log<0 from by omega,show ¬log>5 from by omega,g2.1,g2.2]
   ·have:(decide (step≥-64)&&decide (step≤64))=false:=by simp;omega
    simp[this,show ¬log<0 from by omega,show ¬log>5 from by omega]
theorem Acy (op a b:Int):N9 op a b=some (opV op a b):=by
 unfold N9 Lx opV
 simp only[Px,beq_iff_eq]
 (repeat' split) <;> (try simp_all) <;> (try rfl)
theorem Kf (op:Int):Dg op=some (Fl op):=by
 unfold Dg Fl
 simp only[Px,beq_iff_eq]
 (repeat' split) <;> simp_all
theorem Ek (op:Int):Ic op=some (Fl op):=by
 unfold Ic Fl
 simp only[Px,Bool.or_eq_true,beq_iff_eq]
 (repeat' split) <;> simp_all
theorem Zz (log:Int) (hl:log≤5):∀ (m i:Nat),i+m=log.toNat→lp (Pe log) (2 ^ i,i)=some (.go (2 ^ log.toNat,(log.toNat:Int)))
 | 0,i,h=>by
  have hi:i=log.toNat:=by omega
  subst hi
  refine C0 ?_
  unfold Pe
  exact Bt (by omega)
 | m+1,i,h=>by
  have hp:=Hm i (by omega)
  refine Cr ?_ (Zz log hl m (i+1) (by omega))
  unfold Pe
  simp only
  rw[Bu (by omega),Aj (by omega) (by omega),Aj (by omega) (by omega),Acv]
  rfl
theorem Aap (log:Int) (hl:log≤5):On log=some (2 ^ log.toNat):=by
 have:=Zz log hl log.toNat 0 (by omega)
 unfold On
 rw[show ((1:Int),(0:Int))=((2:Int) ^ 0,((0:Nat):Int)) from rfl,this]
 rfl
theorem Aej (a b:Int) (hb:0<b) (hB:b≤9223372036854775807):Oo a b=some (a % b):=by
 have ht:=Jp a hb
 have hf:=Aj2 (a:=a) hb
 unfold Oo
 rw[Ao (by omega)]
 by_cases h:Int.tmod a b<0
 ·rw[if_pos h] at hf
  rw[Bu h,Aj (by omega) (by omega),hf]
 ·rw[if_neg h] at hf
  rw[Bt h,hf]
theorem Nl (step plus turn log:Int):Pf step plus turn log=some (idx step plus turn log):=by
 unfold Pf idx
 by_cases h:Pl step plus turn log
 ·have hb:=h
  unfold Pl at hb
  obtain⟨h1,h2,h3,h4,h5,h6,h7,h8⟩:=hb
  have hp2:=Hm log.toNat (by omega)
  have hst:=Um h3 h4 h7 h8
  simp only[show ¬log<0 from by omega,show ¬log>5 from by omega,show ¬step < -64 from by omega,show ¬step>64 from by omega,show ¬plus < -64 from by omega,show ¬plus>64 from by omega,show ¬turn<0 from by omega,show ¬turn>200 from by omega,decide_false,Bool.or_self,br_false,if_pos h]
  rw[Aj (by omega) (by omega),Aj (by omega) (by omega),Aap log h2,bd_ret,Aej _ _ (by omega) (by omega),bd_ret]
 ·rw[if_neg h]
  have hc:(((((((decide (log<0) || decide (log>5)) || decide (step < -64)) || decide (step>64)) || decide (plus < -64)) || decide (plus>64)) || decide (turn<0)) || decide (turn>200))=true:=by
   unfold Pl at h
   simp only[Bool.or_eq_true,decide_eq_true_eq]
   omega
  rw[hc];rfl
theorem Acj {x:Int} (h:-9223372036854775808≤x∧x≤9223372036854775807):-9223372036854775808≤x.tdiv 2∧x.tdiv 2≤9223372036854775807:=by
 have h1:=Int.tmod_add_mul_tdiv x 2
 have h2:=Jp x (m:=2) (by decide)
 omega
theorem Zu (op a b:Int) (ha:-9223372036854775808≤a∧a≤9223372036854775807) (hb:-9223372036854775808≤b∧b≤9223372036854775807):∀ (m i:Nat),i+m=64 →
  ∃ x y z t,lp (Pd op) (a / 2 ^ i,b / 2 ^ i,IntKind.i64.wrap (K2 op a b i),IntKind.i64.wrap (2 ^ i),i)=some (.go (x,y,IntKind.i64.wrap (K2 op a b 64),z,t))
 | 0,i,h=>by
  have hi:i=64:=by omega
  subst hi
  refine⟨a / 2 ^ 64,b / 2 ^ 64,IntKind.i64.wrap (2 ^ 64),((64:Nat):Int),C0 ?_⟩
  unfold Pd
  exact Bt (by omega)
 | m+1,i,h=>by
  obtain⟨x,y,z,t,ih⟩:=Zu op a b ha hb m (i+1) (by omega)
  refine⟨x,y,z,t,Cr ?_ ih⟩
  have hba:=Af1 ha.1 ha.2 i
  have hbb:=Af1 hb.1 hb.2 i
  have hcd:=Ahz op a b i
  have key:∀ {A:Int},(-9223372036854775808≤A∧A≤9223372036854775807) →
    (A.tmod 2<0→IR (Int.tdiv (IntKind.i64.wrap (A - IntKind.i64.wrap (A.tmod 2+2))) 2)∧Int.tdiv (IntKind.i64.wrap (A - IntKind.i64.wrap (A.tmod 2+2))) 2=A / 2) ∧
    (¬A.tmod 2<0→IR (Int.tdiv (IntKind.i64.wrap (A - A.tmod 2)) 2)∧Int.tdiv (IntKind.i64.wrap (A - A.tmod 2)) 2=A / 2):=fun {A} hA=>by
   constructor
   ·intro hn
    have h1:=Acj (Aas (A - IntKind.i64.wrap (A.tmod 2+2)))
    have h2:=Ak6 hA.1 hA.2 hn
    rw[Dr h1.1 h1.2] at h2
    exact⟨h1,h2⟩
   ·intro hn
    have h1:=Acj (Aas (A - A.tmod 2))
    have h2:=Ak5 hA.1 hA.2 hn
    rw[Dr h1.1 h1.2] at h2
    exact⟨h1,h2⟩
  have ka:=key hba
  have kb:=key hbb
  have hpw:IntKind.i64.wrap (IntKind.i64.wrap (2 ^ i)+IntKind.i64.wrap (2 ^ i))=IntKind.i64.wrap (2 ^ (i+1)):=by rw[Y3,Acv]
  have hi1:IntKind.i64.wrap ((i:Int)+1)=((i+1:Nat):Int):=by rw[Dr (by omega) (by omega)];rfl
  unfold Pd
  simp only
  rw[Bu (by omega),hcd,hpw,hi1]
  have ea:=Ut a i
  have eb:=Ut b i
  cases hc:Agu op (N3 a i) (N3 b i) with
  | true =>
   have hn:=Afa (op:=op) (a:=a) (b:=b) (i:=i) hc rfl
   rw[br_true,hn]
   by_cases na:(a / 2 ^ i).tmod 2<0 <;> by_cases nb:(b / 2 ^ i).tmod 2<0
   ·rw[Bu na,Bu nb,Ao (ka.1 na).1,Ao (kb.1 nb).1,(ka.1 na).2,(kb.1 nb).2,ea,eb]
   ·rw[Bu na,Bt nb,Ao (ka.1 na).1,Ao (kb.2 nb).1,(ka.1 na).2,(kb.2 nb).2,ea,eb]
   ·rw[Bt na,Bu nb,Ao (ka.2 na).1,Ao (kb.1 nb).1,(ka.2 na).2,(kb.1 nb).2,ea,eb]
   ·rw[Bt na,Bt nb,Ao (ka.2 na).1,Ao (kb.2 nb).1,(ka.2 na).2,(kb.2 nb).2,ea,eb]
  | false =>
   have hn:=Ahy (op:=op) (a:=a) (b:=b) (i:=i) hc rfl
   rw[br_false,hn]
   by_cases na:(a / 2 ^ i).tmod 2<0 <;> by_cases nb:(b / 2 ^ i).tmod 2<0
   ·rw[Bu na,Bu nb,Ao (ka.1 na).1,Ao (kb.1 nb).1,(ka.1 na).2,(kb.1 nb).2,ea,eb]
   ·rw[Bu na,Bt nb,Ao (ka.1 na).1,Ao (kb.2 nb).1,(ka.1 na).2,(kb.2 nb).2,ea,eb]
   ·rw[Bt na,Bu nb,Ao (ka.2 na).1,Ao (kb.1 nb).1,(ka.2 na).2,(kb.1 nb).2,ea,eb]
   ·rw[Bt na,Bt nb,Ao (ka.2 na).1,Ao (kb.2 nb).1,(ka.2 na).2,(kb.2 nb).2,ea,eb]
theorem Apv (op a b:Int) (ha:-9223372036854775808≤a∧a≤9223372036854775807) (hb:-9223372036854775808≤b∧b≤9223372036854775807):Om op a b=some (IntKind.i64.wrap (K2 op a b 64)):=by
 obtain⟨x,y,z,t,h⟩:=Zu op a b ha hb 64 0 (by omega)
 simp only[Int.pow_zero,Int.ediv_one] at h
 unfold Om
 rw[show (a,b,(0:Int),(1:Int),(0:Int))=(a,b,IntKind.i64.wrap (K2 op a b 0),IntKind.i64.wrap 1,((0:Nat):Int)) from rfl,h]
 rfl
theorem Acr (op a b:Int) (ha:-9223372036854775808≤a∧a≤9223372036854775807) (hb:-9223372036854775808≤b∧b≤9223372036854775807):Abk op a b=some (opV op a b):=by
 unfold Abk
 rw[Apv op a b ha hb]
 simp only[bd_ret,Px,beq_iff_eq]
 by_cases h4:op=4
 ·have:=W1 op a b (.inl (by simp[h4]))
  subst h4;simp[this]
 ·by_cases h5:op=5
  ·have:=W1 op a b (.inr (.inl (by simp[h5])))
   subst h5;simp[this]
  ·by_cases h6:op=6
   ·have:=W1 op a b (.inr (.inr (by simp[h6])))
    subst h6;simp[this]
   ·unfold opV
    (repeat' split) <;> simp_all
noncomputable def Ju (t:Tgt):Int→Option (Stp (Int) (Bool)):=fun x4_1 =>
 br (decide (x4_1<3)) (
 ck (IX x4_1 3) <|
 ck ((!(decide ((Bi t.u0 t.u1 t.u2 x4_1)<1)))=true→IX x4_1 3) <|
 ck ((!((decide ((Bi t.u0 t.u1 t.u2 x4_1)<1)) || (decide ((Bi t.u0 t.u1 t.u2 x4_1)>4))))=true→IX x4_1 3) <|
 ck ((!(((decide ((Bi t.u0 t.u1 t.u2 x4_1)<1)) || (decide ((Bi t.u0 t.u1 t.u2 x4_1)>4))) || (decide ((Bi t.w0 t.w1 t.w2 x4_1)<1))))=true→IX x4_1 3) <|
 br ((((decide ((Bi t.u0 t.u1 t.u2 x4_1)<1)) || (decide ((Bi t.u0 t.u1 t.u2 x4_1)>4))) || (decide ((Bi t.w0 t.w1 t.w2 x4_1)<1))) || (decide ((Bi t.w0 t.w1 t.w2 x4_1)>6))) (
 some (.ret false)) (
 ck (IR (x4_1+1)) <|
 some (.next (x4_1+1)))) (
 some (.brk x4_1))
noncomputable def Gc (t:Tgt):Option (Bool) :=
 bd (lp (Ju t) 0) fun o2=>o2.on (fun x4_1 =>
 some ((decide (t.regs≥1))&&(decide (t.regs≤128)))) (fun r=>some r)
noncomputable def Ec (t:Tgt) (op:Int):Option (Int) :=
 bd (Gc t) fun x2 =>
 br (!x2) (
 some 0) (
 bd (Dg op) fun x8 =>
 ck (IX x8 3) <|
 some (Bi t.w0 t.w1 t.w2 x8))
noncomputable def U3 (t:Tgt):Int→Option (Stp (Int) (Bool)):=fun k3_1 =>
 br (decide (k3_1<3)) (
 ck (IX k3_1 3) <|
 ck ((!(decide ((Bi t.u0 t.u1 t.u2 k3_1)<1)))=true→IX k3_1 3) <|
 ck ((!((decide ((Bi t.u0 t.u1 t.u2 k3_1)<1)) || (decide ((Bi t.u0 t.u1 t.u2 k3_1)>4))))=true→IX k3_1 3) <|
 ck ((!(((decide ((Bi t.u0 t.u1 t.u2 k3_1)<1)) || (decide ((Bi t.u0 t.u1 t.u2 k3_1)>4))) || (decide ((Bi t.w0 t.w1 t.w2 k3_1)<1))))=true→IX k3_1 3) <|
 br ((((decide ((Bi t.u0 t.u1 t.u2 k3_1)<1)) || (decide ((Bi t.u0 t.u1 t.u2 k3_1)>4))) || (decide ((Bi t.w0 t.w1 t.w2 k3_1)<1))) || (decide ((Bi t.w0 t.w1 t.w2 k3_1)>6))) (
 some (.ret false)) (
 ck (IR (k3_1+1)) <|
 some (.next (k3_1+1)))) (
 some (.brk k3_1))
noncomputable def Xc (t:Tgt):Option (Bool) :=
 bd (lp (U3 t) 0) fun o2=>o2.on (fun k3_1 =>
 some ((decide (t.regs>0))&&(decide (t.regs≤128)))) (fun r=>some r)
noncomputable def U2 (t:Tgt) (op:Int):Option (Int) :=
 bd (Xc t) fun x2 =>
 br (!x2) (
 some 0) (
 bd (Ic op) fun x8 =>
 ck (IX x8 3) <|
 some (Bi t.w0 t.w1 t.w2 x8))
noncomputable def D0 (n_ from_ below:Int):Option (Bool) :=
 some ((decide (n_≥from_))&&(decide (n_<below)))
noncomputable def Dh (s:Stm):Option (List Rf) :=
 br (s.op==4) (
 some [s.a]) (
 br (decide (s.op>10)) (
 some [s.a,s.b]) (
 some []))
noncomputable def M5 (l:Lp) (k_:Int) (r_:Rf):Option (Bool) :=
 br (r_.bk==0) (
 bd (D0 r_.bk 0 4) fun x5 =>
 bdG (x5) (D0 r_.st 0 k_) fun x8 =>
 some (x5&&x8)) (
 bd (D0 r_.bk 0 4) fun x12 =>
 bdG (x12) (D0 r_.st 0 (ln l.body)) fun x15 =>
 some (x12&&x15))
noncomputable def Fc (l:Lp) (k_:Int) (x17:List Rf):Int→Option (Stp (Int) (Bool)):=fun x49_1 =>
 br (decide (x49_1<(ln x17))) (
 ck (IX x49_1 (ln x17)) <|
 bd (M5 l k_ (ele x17 x49_1)) fun x33 =>
 br (!x33) (
 some (.ret false)) (
 ck (IR (x49_1+1)) <|
 some (.next (x49_1+1)))) (
 some (.brk x49_1))
noncomputable def Ly (l:Lp) (k_:Int):Option (Bool) :=
 ck (IX k_ (ln l.body)) <|
 bd (D0 ((ele l.body k_).ar) 0 (ln l.logs)) fun x8 =>
 bdG (x8) (D0 ((ele l.body k_).sp) (-64) 65) fun x11 =>
 bdG (x8&&x11) (D0 ((ele l.body k_).pl) (-64) 65) fun x14 =>
 bd (Dh (Stm.mk ((ele l.body k_).op) ((ele l.body k_).a) ((ele l.body k_).b) ((ele l.body k_).ar) ((ele l.body k_).sp) ((ele l.body k_).pl) ((ele l.body k_).n))) fun x17 =>
 bd (lp (Fc l k_ x17) 0) fun o21=>o21.on (fun x49_1 =>
 br ((ele l.body k_).op==1) (
 some ((((((ele l.body k_).ar==0)&&((ele l.body k_).sp==0))&&((ele l.body k_).pl==0))&&([((ele l.body k_).a).st,((ele l.body k_).a).bk]==[0,0]))&&([((ele l.body k_).b).st,((ele l.body k_).b).bk]==[0,0]))) (
 br ((ele l.body k_).n != 0) (
 some false) (
 br ((ele l.body k_).op==2) (
 some ((((((ele l.body k_).ar==0)&&((ele l.body k_).sp==0))&&((ele l.body k_).pl==0))&&([((ele l.body k_).a).st,((ele l.body k_).a).bk]==[0,0]))&&([((ele l.body k_).b).st,((ele l.body k_).b).bk]==[0,0]))) (
 br ((ele l.body k_).op==3) (
 some ((((x8&&x11)&&x14)&&([((ele l.body k_).a).st,((ele l.body k_).a).bk]==[0,0]))&&([((ele l.body k_).b).st,((ele l.body k_).b).bk]==[0,0]))) (
 br ((ele l.body k_).op==4) (
 some (((x8&&x11)&&x14)&&([((ele l.body k_).b).st,((ele l.body k_).b).bk]==[0,0]))) (
 bdG ((((ele l.body k_).ar==0)&&((ele l.body k_).sp==0))&&((ele l.body k_).pl==0)) (D0 (IntKind.i64.wrap ((ele l.body k_).op - 10)) 1 9) fun x41 =>
 some (((((ele l.body k_).ar==0)&&((ele l.body k_).sp==0))&&((ele l.body k_).pl==0))&&x41))))))) (fun r=>some r)
noncomputable def G8 (l:Lp):Int→Option (Stp (Int) (Bool)):=fun x12_1 =>
 br (decide (x12_1<(ln l.logs))) (
 ck (IX x12_1 (ln l.logs)) <|
 bd (D0 (ele l.logs x12_1) 0 6) fun x13 =>
 br (!x13) (
 some (.ret false)) (
 ck (IR (x12_1+1)) <|
 some (.next (x12_1+1)))) (
 some (.brk x12_1))
noncomputable def G7 (l:Lp):(Int×Int)→Option (Stp (Int×Int) (Bool)):=fun (last5_2,x23_2) =>
 br (decide (x23_2<(ln l.outs))) (
 ck (IX x23_2 (ln l.outs)) <|
 ck (IR (last5_2+1)) <|
 bd (D0 (ele l.outs x23_2) (last5_2+1) (ln l.body)) fun x20 =>
 br (!x20) (
 some (.ret false)) (
 ck (IR (x23_2+1)) <|
 some (.next ((ele l.outs x23_2),(x23_2+1))))) (
 some (.brk (last5_2,x23_2)))
noncomputable def Fe (l:Lp):Int→Option (Stp (Int) (Bool)):=fun x40_3 =>
 br (decide (x40_3<(ln l.body))) (
 bdG (!(decide ((ln l.body)>16))) (Ly l x40_3) fun x19 =>
 br ((decide ((ln l.body)>16)) || (!x19)) (
 some (.ret false)) (
 ck (IR (x40_3+1)) <|
 some (.next (x40_3+1)))) (
 some (.brk x40_3))
noncomputable def Gl (l:Lp):Option (Bool) :=
 bd (lp (G8 l) 0) fun o2=>o2.on (fun x12_1 =>
 bd (lp (G7 l) ((-1),0)) fun o7=>o7.on (fun (last5_2,x23_2) =>
 bd (lp (Fe l) 0) fun o12=>o12.on (fun x40_3 =>
 some ((decide ((ln l.logs)≤3))&&(decide ((ln l.body)>0)))) (fun r=>some r)) (fun r=>some r)) (fun r=>some r)
noncomputable def Hg (s:Sta):Int→Option (Stp (Int) (Bool)):=fun x33_1 =>
 br (decide (x33_1<(ln s.bef))) (
 ck (IX x33_1 (ln s.bef)) <|
 br ((ln (ele s.bef x33_1)) != 3) (
 some (.ret false)) (
 ck (IR (x33_1+1)) <|
 some (.next (x33_1+1)))) (
 some (.brk x33_1))
noncomputable def Hf (l:Lp) (s:Sta):Int→Option (Stp (Int) (Bool)):=fun x44_2 =>
 br (decide (x44_2<(ln s.mem))) (
 ck (IX x44_2 (ln s.mem)) <|
 ck (IX x44_2 (ln l.logs)) <|
 ck (0≤(ele l.logs x44_2)) <|
 br ((ln (ele s.mem x44_2)) != (shlD 1 (ele l.logs x44_2))) (
 some (.ret false)) (
 ck (IR (x44_2+1)) <|
 some (.next (x44_2+1)))) (
 some (.brk x44_2))
noncomputable def Kg (l:Lp) (s:Sta):Option (Bool) :=
 bd (Gl l) fun x3 =>
 br (((!x3) || ((ln s.bef) != (ln l.body))) || ((ln s.mem) != (ln l.logs))) (
 some false) (
 bd (lp (Hg s) 0) fun o9=>o9.on (fun x33_1 =>
 bd (lp (Hf l s) 0) fun o14=>o14.on (fun x44_2 =>
 some true) (fun r=>some r)) (fun r=>some r))
noncomputable def U4 (s:Stm):Option (List Rf) :=
 br (s.op==4) (
 some [s.a]) (
 br (decide (s.op>10)) (
 some [s.a,s.b]) (
 some []))
end Go.Rd
end
section
namespace Go.Rd
open Go.RowKit Go.ChangeShapes Go.WideShapes Go.ChangeAt
section
variable {H : Type} {enc : TypeId × Value → H} {P : Program} {w : World} {base : Nat} {spare : Nat → Bool} {held : Bool}
theorem Of {fuel:Nat}{t:TypeId}{fs:Array Field}{cs:List Value}{x:DataW H×List MemPlace}{l:List (TypeId×Nat)} (ht:P.underlying t=some (.struct fs)) (hl:fs.toList.map (fun f=>(f.type,f.offset))=l)
  (h:DataW.trod enc P w base spare held fuel t cs=some x) (t1:TypeId) (o:Nat) (hm:(t1,o)∈l):∃ fuel' y,DataW.trod enc P w base spare held fuel' t1 ((cs.drop o).take (P.cellsOf t1))=some y:=by
 subst hl
 obtain⟨f,hf,he⟩:=List.mem_map.1 hm
 simp only[Prod.mk.injEq] at he
 obtain⟨rfl,rfl⟩:=he
 exact(Nk ht h).2 f hf
theorem W6 {fuel:Nat}{t e:TypeId}{v:Value}{x:DataW H×List MemPlace} (ht:P.underlying t=some (.slice e)) (he:Pw P 6 e=true) (hsz:P.cellsOf e=1) (hx:DataW.trod enc P w base spare held fuel t [v]=some x) :
  ∃ xs:List Int,Arr w v 1 (xs.map Af)∧(∀ u∈xs,InR u)∧xs.length≤maxLen :=
 Si Af InR ht hsz hx fun fuel' es y h=>by
  obtain⟨ns,rfl,hl,hr⟩:=Od he h
  rw[hsz] at hl
  match ns,hl with
  | [n],_=>exact⟨n,rfl,hr n (by simp)⟩
theorem Aj6 {fuel:Nat}{t e:TypeId}{v:Value}{x:DataW H×List MemPlace} (ht:P.underlying t=some (.slice e)) (he:Pw P 6 e=true) (hsz:P.cellsOf e=9) (hx:DataW.trod enc P w base spare held fuel t [v]=some x) :
  ∃ xs:List Stm,Arr w v 9 (xs.map Stm.cells)∧(∀ u∈xs,u.InR)∧xs.length≤maxLen :=
 Si Stm.cells Stm.InR ht hsz hx fun fuel' es y h=>by
  obtain⟨ns,rfl,hl,hr⟩:=Od he h
  rw[hsz] at hl
  match ns,hl with
  | [a,b,c,d,e,f,g,i,j],_=>exact⟨⟨a,⟨b,c⟩,⟨d,e⟩,f,g,i,j⟩,rfl,by unfold Stm.InR;simp at hr;simp[hr]⟩
theorem Ahi {fuel:Nat}{t e:TypeId}{cs:List Value}{x:DataW H×List MemPlace} (ht:P.underlying t=some (.slice e)) (hx:DataW.trod enc P w base spare held fuel t cs=some x):∃ v,cs=[v]:=by
 rcases Xh ht hx with h | ⟨a,len,cap,f,h,_⟩
 ·exact⟨_,h⟩
 ·exact⟨_,h⟩
theorem Acq {fuel:Nat}{t e i:TypeId}{v:Value}{x:DataW H×List MemPlace} (ht:P.underlying t=some (.slice e)) (he:P.underlying e=some (.slice i)) (hi:Pw P 6 i=true) (hs1:P.cellsOf e=1) (hs2:P.cellsOf i=1)
  (hx:DataW.trod enc P w base spare held fuel t [v]=some x):∃ B,RowsRep w v B:=by
 obtain⟨B,h1,h2,h3⟩:=Si (α:=Value×List Int) Jo (fun p=>Arr w p.1 1 (p.2.map Af)∧(∀ x∈p.2,InR x)∧p.2.length≤maxLen) ht hs1 hx fun fuel' es y h=>by
  obtain⟨u,rfl⟩:=Ahi he h
  obtain⟨xs,a,b,c⟩:=W6 he hi hs2 h
  exact⟨(u,xs),rfl,a,b,c⟩
 exact⟨B,h1,fun p hp=>(h2 p hp).1,fun p hp=>(h2 p hp).2.1,fun p hp=>(h2 p hp).2.2,h3⟩
theorem Akv {fuel:Nat}{t t1 t2 e1 e2:TypeId}{fs:Array Field}{cs:List Value}{x:DataW H×List MemPlace} (ht:P.underlying t=some (.struct fs)) (hl:fs.toList.map (fun f=>(f.type,f.offset))=[(t1,0),(t2,1),(t1,2)])
  (h1:P.underlying t1=some (.slice e1)) (h2:P.underlying t2=some (.slice e2)) (hf1:Pw P 6 e1=true) (hf2:Pw P 6 e2=true) (hz:P.cellsOf t=3∧P.cellsOf t1=1∧P.cellsOf t2=1∧P.cellsOf e1=1∧P.cellsOf e2=9)
  (hx:DataW.trod enc P w base spare held fuel t cs=some x):∃ v1 v2 v3 l,cs=[v1,v2,v3]∧LpRep w v1 v2 v3 l:=by
 obtain⟨z0,z1,z2,z3,z4⟩:=hz
 have hlen:=(Nk ht hx).1
 rw[z0] at hlen
 obtain⟨_,_,g1⟩:=Of ht hl hx t1 0 (by simp)
 obtain⟨_,_,g2⟩:=Of ht hl hx t2 1 (by simp)
 obtain⟨_,_,g3⟩:=Of ht hl hx t1 2 (by simp)
 match cs,hlen with
 | [v1,v2,v3],_ =>
  rw[z1] at g1 g3
  rw[z2] at g2
  obtain⟨logs,a1,a2,a3⟩:=W6 h1 hf1 z3 g1
  obtain⟨body,b1,b2,b3⟩:=Aj6 h2 hf2 z4 g2
  obtain⟨outs,c1,c2,c3⟩:=W6 h1 hf1 z3 g3
  exact⟨v1,v2,v3,⟨logs,body,outs⟩,rfl,a1,b1,c1,a2,b2,c2,a3,b3,c3⟩
theorem Ag5 {fuel:Nat}{t e i j:TypeId}{fs:Array Field}{cs:List Value}{x:DataW H×List MemPlace} (ht:P.underlying t=some (.struct fs)) (hl:fs.toList.map (fun f=>(f.type,f.offset))=[(e,0),(e,1)])
  (h1:P.underlying e=some (.slice i)) (h2:P.underlying i=some (.slice j)) (hf:Pw P 6 j=true) (hz:P.cellsOf t=2∧P.cellsOf e=1∧P.cellsOf i=1∧P.cellsOf j=1)
  (hx:DataW.trod enc P w base spare held fuel t cs=some x):∃ v4 v5 B M,cs=[v4,v5]∧RowsRep w v4 B∧RowsRep w v5 M:=by
 obtain⟨z0,z1,z2,z3⟩:=hz
 have hlen:=(Nk ht hx).1
 rw[z0] at hlen
 obtain⟨_,_,g1⟩:=Of ht hl hx e 0 (by simp)
 obtain⟨_,_,g2⟩:=Of ht hl hx e 1 (by simp)
 match cs,hlen with
 | [v4,v5],_ =>
  rw[z1] at g1 g2
  obtain⟨B,a⟩:=Acq h1 h2 hf z2 z3 g1
  obtain⟨M,b⟩:=Acq h1 h2 hf z2 z3 g2
  exact⟨v4,v5,B,M,rfl,a,b⟩
end
end Go.Rd
end
section
namespace Go.Rd
open Go.RowKit Go.ChangeShapes Go.WideShapes Go.ChangeAt
section
variable {H : Type} {enc : TypeId × Value → H} {P : Program} {w : World} {base : Nat} {spare : Nat → Bool} {held : Bool}
def Opr.InRo (o:Opr):Prop:=∀ x∈[o.slot,o.stage,o.op,o.dest,o.a,o.b,o.ar,o.sp,o.pl,o.n],InR x
structure KrnRep (w:World) (v:Value) (k:Krn):Prop where
 ops:Arr w v 10 (k.ops.map Opr.cells)
 pace:InR k.pace
 stages:InR k.stages
 rops:∀ o∈k.ops,o.InRo
 len:k.ops.length≤maxLen
structure PlnRep (w:World) (v:Value) (k:Pln):Prop where
 times:Arr w v 1 (k.times.map Af)
 pace:InR k.pace
 rtimes:∀ o∈k.times,InR o
 len:k.times.length≤maxLen
structure RowsOk (xss:List (List Int)):Prop where
 rng:∀ xs∈xss,∀ x∈xs,InR x
 lens:∀ xs∈xss,xs.length≤maxLen
 len:xss.length≤maxLen
theorem RowsRep.plain {v:Value}{B:List (Value×List Int)} (h:RowsRep w v B):RowsA w v (B.map (·.2))∧RowsOk (B.map (·.2)) :=
 ⟨⟨B,rfl,h.rows,h.each⟩,fun xs hx=>by obtain⟨p,hp,rfl⟩:=List.mem_map.1 hx;exact h.rng p hp,fun xs hx=>by obtain⟨p,hp,rfl⟩:=List.mem_map.1 hx;exact h.lens p hp,by rw[List.length_map];exact h.len⟩
end
end Go.Rd
end
section
namespace Go.Rd
theorem Cc {p:Prop} (h:p):tb p=true:=An1 h
theorem B0 {p:Prop} (h:¬p):tb p=false:=Ai5 h
def Yw (t:Tgt) (i:Nat):Prop:=1≤Bi t.u0 t.u1 t.u2 i∧Bi t.u0 t.u1 t.u2 i≤4∧1≤Bi t.w0 t.w1 t.w2 i∧Bi t.w0 t.w1 t.w2 i≤6
theorem Y9 (t:Tgt):(∀ i,i<3→Yw t i)↔((1≤t.u0∧t.u0≤4∧1≤t.w0∧t.w0≤6)∧(1≤t.u1∧t.u1≤4∧1≤t.w1∧t.w1≤6)∧(1≤t.u2∧t.u2≤4∧1≤t.w2∧t.w2≤6)):=by
 constructor
 ·intro h
  exact⟨h 0 (by omega),h 1 (by omega),h 2 (by omega)⟩
 ·rintro ⟨h0,h1,h2⟩ i hi
  match i,hi with
  | 0,_=>exact h0
  | 1,_=>exact h1
  | 2,_=>exact h2
theorem Aci (t:Tgt) (i:Nat) (hi:i<3) (f:Int→Option (Stp Int Bool)) (hf:f i=br (decide ((i:Int)<3)) (
  ck (IX (i:Int) 3)<|ck ((!(decide ((Bi t.u0 t.u1 t.u2 i)<1)))=true→IX (i:Int) 3)<|ck ((!((decide ((Bi t.u0 t.u1 t.u2 i)<1)) || (decide ((Bi t.u0 t.u1 t.u2 i)>4))))=true→IX (i:Int) 3) <|
  ck ((!(((decide ((Bi t.u0 t.u1 t.u2 i)<1)) || (decide ((Bi t.u0 t.u1 t.u2 i)>4))) || (decide ((Bi t.w0 t.w1 t.w2 i)<1))))=true→IX (i:Int) 3) <|
  br ((((decide ((Bi t.u0 t.u1 t.u2 i)<1)) || (decide ((Bi t.u0 t.u1 t.u2 i)>4))) || (decide ((Bi t.w0 t.w1 t.w2 i)<1))) || (decide ((Bi t.w0 t.w1 t.w2 i)>6))) (some (.ret false)) (ck (IR ((i:Int)+1))<|some (.next ((i:Int)+1)))) (some (.brk (i:Int)))) :
  (Yw t i→f i=some (.next ((i:Int)+1)))∧(¬Yw t i→f i=some (.ret false)):=by
 have hix:IX (i:Int) 3:=⟨by omega,by omega⟩
 rw[hf,Bu (by omega),Ao hix,Fb (fun _=>hix),Fb (fun _=>hix),Fb (fun _=>hix),Aj (by omega) (by omega)]
 unfold Yw
 constructor
 ·intro h
  have:((((decide ((Bi t.u0 t.u1 t.u2 i)<1)) || (decide ((Bi t.u0 t.u1 t.u2 i)>4))) || (decide ((Bi t.w0 t.w1 t.w2 i)<1))) || (decide ((Bi t.w0 t.w1 t.w2 i)>6)))=false:=by
   simp only[Bool.or_eq_false_iff,decide_eq_false_iff_not];omega
  rw[this];rfl
 ·intro h
  have:((((decide ((Bi t.u0 t.u1 t.u2 i)<1)) || (decide ((Bi t.u0 t.u1 t.u2 i)>4))) || (decide ((Bi t.w0 t.w1 t.w2 i)<1))) || (decide ((Bi t.w0 t.w1 t.w2 i)>6)))=true:=by
   simp only[Bool.or_eq_true,decide_eq_true_eq];omega
  rw[this];rfl
theorem I6 (t:Tgt):Gc t=some (Cu t):=by
 unfold Gc
 have ha:=Y9 t
 rcases Mt (f:=Ju t) (n:=3) (p:=Yw t) (fun i hi _=>Aci t i hi _ rfl) (by unfold Ju;exact Bt (by omega)) with ⟨h,e⟩ | ⟨h,e⟩
 ·rw[e,bd_ret,Out.on_go]
  congr 1
  rw[ha] at h
  unfold Cu
  rw[←Bool.decide_and]
  exact decide_eq_decide.2 ⟨fun h'=>⟨h.1,h.2.1,h.2.2,h'⟩,fun h'=>h'.2.2.2⟩
 ·rw[e,bd_ret,Out.on_ret]
  congr 1
  rw[ha] at h
  exact(Y8.2 fun h'=>h ⟨h'.1,h'.2.1,h'.2.2.1⟩).symm
theorem Aew (t:Tgt):Xc t=some (Cu t):=by
 unfold Xc
 have ha:=Y9 t
 rcases Mt (f:=U3 t) (n:=3) (p:=Yw t) (fun i hi _=>Aci t i hi _ rfl) (by unfold U3;exact Bt (by omega)) with ⟨h,e⟩ | ⟨h,e⟩
 ·rw[e,bd_ret,Out.on_go]
  congr 1
  rw[ha] at h
  unfold Cu
  rw[←Bool.decide_and]
  exact decide_eq_decide.2 ⟨fun h'=>⟨h.1,h.2.1,h.2.2,h'⟩,fun h'=>h'.2.2.2⟩
 ·rw[e,bd_ret,Out.on_ret]
  congr 1
  rw[ha] at h
  exact(Y8.2 fun h'=>h ⟨h'.1,h'.2.1,h'.2.2.1⟩).symm
theorem Jt (t:Tgt) (op:Int):Ec t op=some (Cn t op):=by
 have hc:=Fp op
 unfold Ec Cn
 rw[I6,bd_ret]
 cases h:Cu t with
 | true=>simp only[Bool.not_true,br_false,if_true];rw[Kf,bd_ret,Av hc.1 hc.2]
 | false=>rfl
theorem Aex (t:Tgt) (op:Int):U2 t op=some (Cn t op):=by
 have hc:=Fp op
 unfold U2 Cn
 rw[Aew,bd_ret]
 cases h:Cu t with
 | true=>simp only[Bool.not_true,br_false,if_true];rw[Ek,bd_ret,Av hc.1 hc.2]
 | false=>rfl
theorem Sf (s:Stm):Dh s=some (A3 s):=by
 unfold Dh A3
 simp only[Px,beq_iff_eq,decide_eq_true_eq]
 (repeat' split) <;> rfl
theorem Aey (s:Stm):U4 s=some (A3 s):=by
 unfold U4 A3
 simp only[Px,beq_iff_eq,decide_eq_true_eq]
 (repeat' split) <;> rfl
theorem ref_s (l:Lp) (k:Int) (r:Rf):M5 l k r=some (tb (RefOk l.body.length k r)):=by
 unfold M5 D0 bdG
 simp only[bd_ret,Px,beq_iff_eq]
 by_cases h0:r.bk=0
 ·rw[if_pos h0,h0]
  simp only[show ((0:Int)≥0) from by omega,show ((0:Int)<4) from by omega,decide_true,Bool.and_self,if_true,Bool.true_and]
  congr 1
  refine H7 ?_
  simp only[Bool.and_eq_true,decide_eq_true_eq]
  unfold RefOk
  omega
 ·rw[if_neg h0]
  by_cases h1:0≤r.bk∧r.bk<4
  ·simp only[show r.bk≥0 from h1.1,h1.2,decide_true,Bool.and_self,if_true,Bool.true_and]
   congr 1
   refine H7 ?_
   simp only[Bool.and_eq_true,decide_eq_true_eq]
   unfold RefOk ln
   omega
  ·have:(decide (r.bk≥0)&&decide (r.bk<4))=false:=by
    simp only[Bool.and_eq_false_iff,decide_eq_false_iff_not];omega
   rw[this]
   simp only[Bool.false_eq_true,if_false,Bool.false_and]
   congr 1
   exact(B0 (by unfold RefOk;omega)).symm
structure Lp.Fine (l:Lp):Prop where
 rlogs:∀ x∈l.logs,InR x
 rbody:∀ x∈l.body,x.InR
 routs:∀ x∈l.outs,InR x
 llogs:l.logs.length≤maxLen
 lbody:l.body.length≤maxLen
 louts:l.outs.length≤maxLen
theorem LpRep.fine {w:World}{v1 v2 v3:Value}{l:Lp} (h:LpRep w v1 v2 v3 l):l.Fine:=⟨h.rlogs,h.rbody,h.routs,h.llogs,h.lbody,h.louts⟩
theorem F4:maxLen=9223372036854775807:=rfl
theorem Anw (r:Rf):([r.st,r.bk]==[(0:Int),0])=tb r.isZero:=by
 refine H7 ?_
 simp[Rf.isZero]
theorem Ag3 (l:Lp) (k:Int) (s:Stm) (hx:l.body.length≤maxLen):(Aei l.body.length k (A3 s).length s∧lp (Fc l k (A3 s)) 0=some (.go ((A3 s).length:Int))) ∨
  (¬Aei l.body.length k (A3 s).length s∧lp (Fc l k (A3 s)) 0=some (.ret false)):=by
 have hl:=J7 s
 have:=Mt (f:=Fc l k (A3 s)) (n:=(A3 s).length) (p:=fun i=>RefOk l.body.length k ((A3 s).getD i Rf.zero)) (fun i hi _=>by
  have e:Fc l k (A3 s) i=br (!tb (RefOk l.body.length k ((A3 s).getD i Rf.zero))) (some (.ret false)) (some (.next ((i:Int)+1))):=by
   unfold Fc
   rw[Bu (by unfold ln;omega),Av (by omega) (by unfold ln;omega),ref_s,bd_ret,Aj (by omega) (by omega)]
   rfl
  constructor
  ·intro h;rw[e,Cc h];rfl
  ·intro h;rw[e,B0 h];rfl) (by unfold Fc;exact Bt (by unfold ln;omega))
 rcases this with ⟨h,e⟩ | ⟨h,e⟩
 ·exact .inl ⟨fun j hj hj2=>h j hj2,e⟩
 ·exact .inr ⟨fun h'=>h fun i hi=>h' i (by omega) hi,e⟩
theorem Ao6 (s:Stm):((s.ar==0&&s.sp==0)&&s.pl==0)=tb (I1 s):=by
 refine H7 ?_
 simp[I1,and_assoc]
theorem wordB (nl:Int) (s:Stm):(((decide (s.ar≥0)&&decide (s.ar<nl))&&(decide (s.sp≥-64)&&decide (s.sp<65)))&&(decide (s.pl≥-64)&&decide (s.pl<65)))=tb (Ha nl s):=by
 refine H7 ?_
 simp only[Bool.and_eq_true,decide_eq_true_eq]
 unfold Ha
 omega
theorem R3 {p q:Prop}:(tb p&&tb q)=tb (p∧q):=by
 refine H7 ?_
 rw[Bool.and_eq_true,Aab,Aab]
theorem Ao4 (l:Lp) (k:Nat) (hk:k<l.body.length) (hf:l.Fine):Ly l k=some (tb (O2 l.logs.length l.body.length k (ele l.body k))):=by
 have hR:(ele l.body k).InR:=O5 hf.rbody hk
 have hop:=hR.1
 unfold Rd.InR at hop
 have hl:=hf.lbody
 rw[F4] at hl
 generalize hs:ele l.body k=s at *
 have hs':(Stm.mk s.op s.a s.b s.ar s.sp s.pl s.n)=s:=rfl
 unfold Ly
 rw[Av (by omega) (by unfold ln;omega),hs,hs',Sf]
 unfold D0
 simp only[bd_ret,Ka]
 rcases Ag3 l k s hf.lbody with ⟨hu,e⟩ | ⟨hu,e⟩
 ·rw[e]
  simp only[bd_ret,Out.on_go]
  rw[E7 (Ag4 (nl:=l.logs.length) hu (by omega)),Ao6,Anw,Anw]
  have w:∀ A B C:Bool,((A&&(if A=true then B else false))&&(if (A&&(if A=true then B else false))=true then C else false))=((A&&B)&&C):=by decide
  rw[w,show ln l.logs=(l.logs.length:Int) from rfl,wordB]
  simp only[Px,beq_iff_eq,bne_iff_ne]
  by_cases h1:s.op=1
  ·rw[if_pos h1,E7 (Apd h1),R3,R3,E7 (and_assoc)]
  ·rw[if_neg h1]
   by_cases hn:s.n=0
   ·rw[if_neg (by simpa using hn)]
    by_cases h2:s.op=2
    ·rw[if_pos h2,E7 (Apc h2 hn),R3,R3,E7 (and_assoc)]
    ·rw[if_neg h2]
     by_cases h3:s.op=3
     ·rw[if_pos h3,E7 (Apb h3 hn),R3,R3,E7 (and_assoc)]
     ·rw[if_neg h3]
      by_cases h4:s.op=4
      ·rw[if_pos h4,E7 (Apa h4 hn),R3]
      ·rw[if_neg h4,E7 (Ao9 h1 h2 h3 h4 hn)]
       have ho:=Akn hop
       have e1:(decide (IntKind.i64.wrap (s.op - 10)≥1)&&decide (IntKind.i64.wrap (s.op - 10)<9))=tb (11≤s.op∧s.op≤18):=by
        refine H7 ?_
        rw[Bool.and_eq_true,decide_eq_true_eq,decide_eq_true_eq]
        exact ho
       rw[e1]
       by_cases hst:I1 s
       ·rw[Cc hst,if_pos rfl,Bool.true_and]
        congr 1
        exact E7 ⟨fun h=>⟨hst,h⟩,fun h=>h.2⟩
       ·rw[B0 hst,Bool.false_and]
        congr 1
        exact(B0 fun h=>hst h.1).symm
   ·rw[if_pos (by simpa using hn)]
    congr 1
    exact(B0 (Ao8 h1 hn)).symm
 ·rw[e]
  simp only[bd_ret,Out.on_ret]
  congr 1
  refine(B0 fun h=>hu fun j hj hj2=>?_).symm
  exact(Acg.2 ⟨h.1,h.2.1⟩) j hj2
def Aiz (l:Lp) (j:Nat):Prop:=0≤l.logs.getD j 0∧l.logs.getD j 0≤5
theorem Amq {l:Lp}:Aaq l l.logs.length↔∀ i,i<l.logs.length→Aiz l i:=⟨fun h i hi=>h i (by omega),fun h j hj=>h j (by omega)⟩
def Aem (l:Lp) (j:Nat):Prop:=O2 l.logs.length l.body.length j (l.body.getD j Stm.zero)
theorem Ane {l:Lp}:Aar l l.body.length↔∀ i,i<l.body.length→Aem l i:=⟨fun h i hi=>h i (by omega),fun h j hj=>h j (by omega)⟩
theorem Ana (l:List Int) (i:Nat):ele l (i:Int)=l.getD i 0:=rfl
theorem Am8 (l:List Stm) (i:Nat):ele l (i:Int)=l.getD i Stm.zero:=rfl
theorem Api (l:Lp) (hf:l.Fine):(Aaq l l.logs.length∧lp (G8 l) 0=some (.go (l.logs.length:Int)))∨(¬Aaq l l.logs.length∧lp (G8 l) 0=some (.ret false)):=by
 have hl:=hf.llogs
 rw[F4] at hl
 rw[Amq]
 refine Mt (fun i hi _=>?_) (by unfold G8;exact Bt (by unfold ln;omega))
 have e:G8 l i=br (!(decide (l.logs.getD i 0≥0)&&decide (l.logs.getD i 0<6))) (some (.ret false)) (some (.next ((i:Int)+1))):=by
  unfold G8 D0
  rw[Bu (by unfold ln;omega),Av (by omega) (by unfold ln;omega),bd_ret,Aj (by omega) (by omega)]
  rfl
 rw[e]
 constructor
 ·intro h
  rw[show (decide (l.logs.getD i 0≥0)&&decide (l.logs.getD i 0<6))=true from by simp only[Bool.and_eq_true,decide_eq_true_eq];unfold Aiz at h;omega];rfl
 ·intro h
  rw[show (decide (l.logs.getD i 0≥0)&&decide (l.logs.getD i 0<6))=false from by simp only[Bool.and_eq_false_iff,decide_eq_false_iff_not];unfold Aiz at h;omega];rfl
theorem Ajd (l:Lp) (hf:l.Fine):∀ (m i:Nat),i+m=l.outs.length→Sg l i →
  (Sg l l.outs.length∧∃ x,lp (G7 l) (Hb l i,i)=some (.go (x,(l.outs.length:Int))))∨(¬Sg l l.outs.length∧lp (G7 l) (Hb l i,i)=some (.ret false))
 | 0,i,h,hp=>by
  have hi:i=l.outs.length:=by omega
  subst hi
  exact .inl ⟨hp,_,C0 (by unfold G7;exact Bt (by unfold ln;omega))⟩
 | m+1,i,h,hp=>by
  have hl:=hf.louts
  have hb:=hf.lbody
  rw[F4] at hl hb
  have hlo:=Ae2 (by omega) hp
  have hst:=Akm (l:=l) (i:=i) (by omega) hp
  rw[Int.toNat_natCast] at hst
  have e:G7 l (Hb l i,i)=br (!(decide (l.outs.getD i 0≥Hb l i+1)&&decide (l.outs.getD i 0<l.body.length))) (some (.ret false)) (some (.next (l.outs.getD i 0,(i:Int)+1))):=by
   unfold G7 D0
   simp only
   rw[Bu (by unfold ln;omega),Av (by omega) (by unfold ln;omega),Aj (by omega) (by omega),bd_ret,Aj (by omega) (by omega)]
   rfl
  by_cases hc:Hb l i+1≤l.outs.getD i 0∧l.outs.getD i 0<l.body.length
  ·have hc':(decide (l.outs.getD i 0≥Hb l i+1)&&decide (l.outs.getD i 0<l.body.length))=true:=by simp only[Bool.and_eq_true,decide_eq_true_eq];exact hc
   rw[hc',Bool.not_true,br_false] at e
   have hnext:Sg l ((i:Int)+1):=Al7 hp (by omega) (by rw[Int.toNat_natCast];exact hst.1 hc)
   have hn:=Abs (l:=l) (i:=i) (by omega)
   rw[Int.toNat_natCast] at hn
   have ih:=Ajd l hf m (i+1) (by omega) hnext
   rw[show ((i+1:Nat):Int)=(i:Int)+1 from rfl,hn] at ih
   rcases ih with ⟨a,x,b⟩ | ⟨a,b⟩
   ·exact .inl ⟨a,x,(J0 e).trans b⟩
   ·exact .inr ⟨a,(J0 e).trans b⟩
  ·have hc':(decide (l.outs.getD i 0≥Hb l i+1)&&decide (l.outs.getD i 0<l.body.length))=false:=by simp only[Bool.and_eq_false_iff,decide_eq_false_iff_not];omega
   rw[hc',Bool.not_false,br_true] at e
   exact .inr ⟨fun h'=>hc (hst.2 (h' i (by omega))),K8 e⟩
theorem Apu (l:Lp) (hf:l.Fine) (hle:l.body.length≤16):(Aar l l.body.length∧lp (Fe l) 0=some (.go (l.body.length:Int)))∨(¬Aar l l.body.length∧lp (Fe l) 0=some (.ret false)):=by
 rw[Ane]
 refine Mt (fun i hi _=>?_) (by unfold Fe;exact Bt (by unfold ln;omega))
 have e:Fe l i=br (!tb (Aem l i)) (some (.ret false)) (some (.next ((i:Int)+1))):=by
  have h16:¬ln l.body>16:=by unfold ln;omega
  unfold Fe
  rw[Bu (by unfold ln;omega),Ao4 l i hi hf,decide_eq_false h16,Aj (by omega) (by omega),Am8]
  simp only[Bool.not_false,bdG_t,bd_ret,Bool.false_or,Aem]
 rw[e]
 exact⟨fun h=>by rw[Cc h];rfl,fun h=>by rw[B0 h];rfl⟩
theorem Wj (l:Lp) (hf:l.Fine):Gl l=some (tb (LoopOk l)):=by
 unfold Gl
 rcases Api l hf with ⟨h1,e1⟩ | ⟨h1,e1⟩
 ·rw[e1,bd_ret,Out.on_go]
  have h0:=Ajd l hf l.outs.length 0 (by omega) (Al6)
  rw[show Hb l ((0:Nat):Int)=-1 from rfl] at h0
  rcases h0 with ⟨h2,x,e2⟩ | ⟨h2,e2⟩
  ·rw[show ((-1:Int),(0:Int))=(-1,((0:Nat):Int)) from rfl,e2,bd_ret,Out.on_go]
   simp only
   by_cases h16:l.body.length≤16
   ·rcases Apu l hf h16 with ⟨h3,e3⟩ | ⟨h3,e3⟩
    ·rw[e3,bd_ret,Out.on_go]
     congr 1
     refine H7 ?_
     simp only[Bool.and_eq_true,decide_eq_true_eq]
     unfold ln
     exact⟨fun h=>⟨by omega,by omega,h16,h1,h2,h3⟩,fun h=>⟨by have:=h.1;omega,by have:=h.2.1;omega⟩⟩
    ·rw[e3,bd_ret,Out.on_ret]
     congr 1
     exact(B0 fun h=>h3 h.2.2.2.2.2).symm
   ·have:Fe l 0=some (.ret false):=by
     unfold Fe
     rw[Bu (by unfold ln;omega),show (decide (ln l.body>16))=true from decide_eq_true (by unfold ln;omega)]
     rfl
    rw[K8 this,bd_ret,Out.on_ret]
    congr 1
    exact(B0 fun h=>h16 h.2.2.1).symm
  ·rw[show ((-1:Int),(0:Int))=(-1,((0:Nat):Int)) from rfl,e2,bd_ret,Out.on_ret]
   congr 1
   exact(B0 fun h=>h2 h.2.2.2.2.1).symm
 ·rw[e1,bd_ret,Out.on_ret]
  congr 1
  exact(B0 fun h=>h1 h.2.2.2.1).symm
theorem Adf (l:List (List Int)) (i:Nat):ele l (i:Int)=l.getD i []:=rfl
theorem LoopOk.log {l:Lp} (h:LoopOk l) (i:Nat) (hi:i<l.logs.length):0≤l.logs.getD i 0∧l.logs.getD i 0≤5:=h.2.2.2.1 i (by omega)
theorem LoopOk.out {l:Lp} (h:LoopOk l) (i:Nat) (hi:i<l.outs.length):0≤l.outs.getD i 0∧l.outs.getD i 0<l.body.length:=⟨(h.2.2.2.2.1 i (by omega)).1,(h.2.2.2.2.1 i (by omega)).2.1⟩
theorem LoopOk.stm {l:Lp} (h:LoopOk l) (i:Nat) (hi:i<l.body.length):O2 l.logs.length l.body.length i (l.body.getD i Stm.zero):=h.2.2.2.2.2 i (by omega)
theorem neB {a b:Int}:(a != b)=!tb (a=b):=by
 have:(!(a != b))=tb (a=b):=H7 (by simp)
 rw[←this,Bool.not_not]
theorem Qc {l:Lp} (h:LoopOk l):l.outs.length≤16:=by
 have h5:=h.2.2.2.2.1
 have key:∀ i:Nat,i<l.outs.length→(i:Int)≤l.outs.getD i 0:=by
  intro i
  induction i with
  | zero=>intro hi;exact(h5 0 (by omega)).1
  | succ i ih =>
   intro hi
   have h1:=ih (by omega)
   have h2:=(h5 (i+1) (by omega)).2.2 i rfl
   omega
 rcases Nat.lt_or_ge 16 l.outs.length with hlt | hge
 ·have h1:=key 16 hlt
  have h2:=(h5 16 (by omega)).2.1
  have:=h.2.2.1
  omega
 ·exact hge
theorem AL8 {n:Nat} (h:n≤100000):AL n 8:=⟨by rw[F4];omega,by omega⟩
theorem Aip {n:Nat} (h:n≤100000):AL n 24:=⟨by rw[F4];omega,by omega⟩
noncomputable def G2 (x:Int):Option (Bool) :=
 some (x != x)
noncomputable def Dc (x y:Int):Option (Int) :=
 bd (G2 x) fun x1 =>
 bd (G2 y) fun x4 =>
 br x1 (
 br x4 (
 some 0) (
 some (-1))) (
 br x4 (
 some 1) (
 br (decide (x<y)) (
 some (-1)) (
 br (decide (x>y)) (
 some 1) (
 some 0))))
noncomputable def Db (vals:List Int):Int→Option (Stp (Int) (Int)):=fun x8_1 =>
 br (decide (x8_1<(ln vals))) (
 ck (IX x8_1 (ln vals)) <|
 br ((ele vals x8_1) != 0) (
 some (.ret (ele vals x8_1))) (
 ck (IR (x8_1+1)) <|
 some (.next (x8_1+1)))) (
 some (.brk x8_1))
noncomputable def Jw (vals:List Int):Option (Int) :=
 bd (lp (Db vals) 0) fun o1=>o1.on (fun x8_1 =>
 some 0) (fun r=>some r)
noncomputable def Nm (a b:Edg):Option (Int) :=
 bd (Dc a.fr b.fr) fun x3 =>
 bd (Dc a.to b.to) fun x6 =>
 bd (Dc a.bk b.bk) fun x9 =>
 bd (Dc a.wt b.wt) fun x12 =>
 bd (Jw [x3,x6,x9,x12]) fun x16 =>
 some x16
noncomputable def Bd (ows0_3:List Edg) (k3_3:Int):((List Edg)×Int×Int)→Option (Stp ((List Edg)×Int×Int) (Empty)):=fun (ows0_4,k3_4,k25_4) =>
 ck (SX k3_3 (ln ows0_3) (ln ows0_4)) <|
 br (decide (k25_4<(ln (sub ows0_4 k3_3 (ln ows0_3))))) (
 ck (IX k25_4 (ln (sub ows0_4 k3_3 (ln ows0_3)))) <|
 ck (IR (k25_4 - 1)) <|
 ck (IX (k25_4 - 1) (ln (sub ows0_4 k3_3 (ln ows0_3)))) <|
 br (!([(ele (sub ows0_4 k3_3 (ln ows0_3)) k25_4).fr,(ele (sub ows0_4 k3_3 (ln ows0_3)) k25_4).to,(ele (sub ows0_4 k3_3 (ln ows0_3)) k25_4).bk,(ele (sub ows0_4 k3_3 (ln ows0_3)) k25_4).wt]==[(ele (sub ows0_4 k3_3 (ln ows0_3)) (k25_4 - 1)).fr,(ele (sub ows0_4 k3_3 (ln ows0_3)) (k25_4 - 1)).to,(ele (sub ows0_4 k3_3 (ln ows0_3)) (k25_4 - 1)).bk,(ele (sub ows0_4 k3_3 (ln ows0_3)) (k25_4 - 1)).wt])) (
 ck (IX k25_4 (ln (sub ows0_4 k3_3 (ln ows0_3)))) <|
 ck (IX k3_4 (ln ows0_4)) <|
 ck (IR (k3_4+1)) <|
 ck (IR (k25_4+1)) <|
 some (.next ((upd ows0_4 k3_4 (ele (sub ows0_4 k3_3 (ln ows0_3)) k25_4)),(k3_4+1),(k25_4+1)))) (
 ck (IR (k25_4+1)) <|
 some (.next (ows0_4,k3_4,(k25_4+1))))) (
 some (.brk (ows0_4,k3_4,k25_4)))
noncomputable def Be :((List Edg)×Int)→Option (Stp ((List Edg)×Int) (List Edg)):=fun (ows0_3,k3_3) =>
 br (decide (k3_3<(ln ows0_3))) (
 ck (IX k3_3 (ln ows0_3)) <|
 ck (IR (k3_3 - 1)) <|
 ck (IX (k3_3 - 1) (ln ows0_3)) <|
 br ([(ele ows0_3 k3_3).fr,(ele ows0_3 k3_3).to,(ele ows0_3 k3_3).bk,(ele ows0_3 k3_3).wt]==[(ele ows0_3 (k3_3 - 1)).fr,(ele ows0_3 (k3_3 - 1)).to,(ele ows0_3 (k3_3 - 1)).bk,(ele ows0_3 (k3_3 - 1)).wt]) (
 ck (SX k3_3 (ln ows0_3) (ln ows0_3)) <|
 bd (lp (Bd ows0_3 k3_3) (ows0_3,k3_3,1)) fun o26=>o26.on (fun (ows0_4,k3_4,k25_4) =>
 ck (SX k3_4 (ln ows0_4) (ln ows0_4)) <|
 ck (SX 0 k3_4 (ln (clr ows0_4 k3_4 (Edg.mk 0 0 0 0)))) <|
 some (.ret (sub (clr ows0_4 k3_4 (Edg.mk 0 0 0 0)) 0 k3_4))) (fun r=>r.elim)) (
 ck (IR (k3_3+1)) <|
 some (.next (ows0_3,(k3_3+1))))) (
 some (.brk (ows0_3,k3_3)))
noncomputable def B8 (s:List Edg):Option (List Edg) :=
 br (decide ((ln s)<2)) (
 some s) (
 bd (lp (Be) (s,1)) fun o5=>o5.on (fun (ows0_3,k3_3) =>
 some ows0_3) (fun r=>some r))
noncomputable def Ga (a b:Stm) (back size:Int):Int→Option (Stp (Int) (Bool)):=fun x11_1 =>
 br (decide (x11_1<size)) (
 ck (IR (a.sp * x11_1)) <|
 ck (IR ((a.sp * x11_1)+a.pl)) <|
 ck (IR (x11_1+back)) <|
 ck (IR (b.sp * (x11_1+back))) <|
 ck (IR (((a.sp * x11_1)+a.pl) - (b.sp * (x11_1+back)))) <|
 ck (IR ((((a.sp * x11_1)+a.pl) - (b.sp * (x11_1+back))) - b.pl)) <|
 ck (IR (size - 1)) <|
 br ((My ((((a.sp * x11_1)+a.pl) - (b.sp * (x11_1+back))) - b.pl) (size - 1))==0) (
 some (.ret true)) (
 ck (IR (x11_1+1)) <|
 some (.next (x11_1+1)))) (
 some (.brk x11_1))
noncomputable def Lk (a b:Stm) (back size:Int):Option (Bool) :=
 bd (lp (Ga a b back size) 0) fun o3=>o3.on (fun x11_1 =>
 some false) (fun r=>some r)
noncomputable def L4 (s:Stm):Option (Bool) :=
 some ((s.op==3) || (s.op==4))
noncomputable def Ee (l:Lp) (from_ to wait11_2:Int):Int→Option (Stp (Int) (Edg×Bool)):=fun back13_3 =>
 br (decide (back13_3≤(shlD 1 (ele l.logs ((ele l.body from_).ar))))) (
 bd (Lk (ele l.body from_) (ele l.body to) back13_3 (shlD 1 (ele l.logs ((ele l.body from_).ar)))) fun x41 =>
 br x41 (
 some (.ret ((Edg.mk from_ to back13_3 wait11_2),true))) (
 ck (IR (back13_3+1)) <|
 some (.next (back13_3+1)))) (
 some (.brk back13_3))
noncomputable def Kv (l:Lp) (from_ to:Int):Option (Edg×Bool) :=
 ck (IX from_ (ln l.body)) <|
 ck (IX to (ln l.body)) <|
 bd (L4 (ele l.body from_)) fun x13 =>
 bdG (!(!x13)) (L4 (ele l.body to)) fun x16 =>
 br ((((!x13) || (!x16)) || ((ele l.body from_).ar != (ele l.body to).ar)) || (((ele l.body from_).op==3)&&((ele l.body to).op==3))) (
 some ((Edg.mk 0 0 0 0),false)) (
 bd (show Option (Out (Int) (Empty)) from br (decide (from_≥to)) (
 some (.go 1)) (
 some (.go 0))) fun o22=>o22.on (fun least10_1 =>
 bd (show Option (Out (Int) (Empty)) from br ((ele l.body from_).op==4) (
 some (.go 1)) (
 some (.go 0))) fun o25=>o25.on (fun wait11_2 =>
 ck (IX ((ele l.body from_).ar) (ln l.logs)) <|
 ck (0≤(ele l.logs ((ele l.body from_).ar))) <|
 bd (lp (Ee l from_ to wait11_2) least10_1) fun o34=>o34.on (fun back13_3 =>
 some ((Edg.mk 0 0 0 0),false)) (fun r=>some r)) (fun r=>r.elim)) (fun r=>r.elim))
noncomputable def Jc (l:Lp) (t:Tgt) (x25_7:Int) (x25:List Rf):((List Edg)×Int)→Option (Stp ((List Edg)×Int) (Empty)):=fun (v12_8,x33_8) =>
 br (decide (x33_8<(ln x25))) (
 ck (IX x33_8 (ln x25)) <|
 ck (IX ((ele x25 x33_8).st) (ln l.body)) <|
 bd (Ec t ((ele l.body ((ele x25 x33_8).st)).op)) fun x45 =>
 ck (AL (v12_8++[(Edg.mk ((ele x25 x33_8).st) x25_7 ((ele x25 x33_8).bk) x45)]).length 32) <|
 ck (IR (x33_8+1)) <|
 some (.next ((v12_8++[(Edg.mk ((ele x25 x33_8).st) x25_7 ((ele x25 x33_8).bk) x45)]),(x33_8+1)))) (
 some (.brk (v12_8,x33_8)))
noncomputable def Jb (l:Lp) (x25_7:Int):((List Edg)×Int)→Option (Stp ((List Edg)×Int) (Empty)):=fun (v12_9,x59_9) =>
 br (decide (x59_9<(ln l.body))) (
 bd (Kv l x59_9 x25_7) fun x41 =>
 br x41.2 (
 ck (AL (v12_9++[x41.1]).length 32) <|
 ck (IR (x59_9+1)) <|
 some (.next ((v12_9++[x41.1]),(x59_9+1)))) (
 ck (IR (x59_9+1)) <|
 some (.next (v12_9,(x59_9+1))))) (
 some (.brk (v12_9,x59_9)))
noncomputable def Jd (l:Lp) (t:Tgt):((List Edg)×Int)→Option (Stp ((List Edg)×Int) (Empty)):=fun (v12_7,x25_7) =>
 br (decide (x25_7<(ln l.body))) (
 ck (IX x25_7 (ln l.body)) <|
 bd (Dh (ele l.body x25_7)) fun x25 =>
 bd (lp (Jc l t x25_7 x25) (v12_7,0)) fun o29=>o29.on (fun (v12_8,x33_8) =>
 bd (lp (Jb l x25_7) (v12_8,0)) fun o34=>o34.on (fun (v12_9,x59_9) =>
 ck (IR (x25_7+1)) <|
 some (.next (v12_9,(x25_7+1)))) (fun r=>r.elim)) (fun r=>r.elim)) (
 some (.brk (v12_7,x25_7)))
noncomputable def D4 (l:Lp) (t:Tgt):Option (List Edg×Int) :=
 bd (Gl l) fun x3 =>
 bdG (!(!x3)) (Gc t) fun x6 =>
 br ((!x3) || (!x6)) (
 some ([],2)) (
 bd (lp (Jd l t) ([],0)) fun o13=>o13.on (fun (v12_7,x25_7) =>
 bd (So v12_7) fun x18 =>
 bd (B8 x18) fun x22 =>
 some (x22,0)) (fun r=>r.elim))
noncomputable def Im (a b:Stm) (back size:Int):Int→Option (Stp (Int) (Bool)):=fun turn9_1 =>
 br (decide (turn9_1<size)) (
 ck (IR (a.sp * turn9_1)) <|
 ck (IR ((a.sp * turn9_1)+a.pl)) <|
 bd (Oo ((a.sp * turn9_1)+a.pl) size) fun x14 =>
 ck (IR (turn9_1+back)) <|
 ck (IR (b.sp * (turn9_1+back))) <|
 ck (IR ((b.sp * (turn9_1+back))+b.pl)) <|
 bd (Oo ((b.sp * (turn9_1+back))+b.pl) size) fun x23 =>
 br (x14==x23) (
 some (.ret true)) (
 ck (IR (turn9_1+1)) <|
 some (.next (turn9_1+1)))) (
 some (.brk turn9_1))
noncomputable def M7 (a b:Stm) (back size:Int):Option (Bool) :=
 bd (lp (Im a b back size) 0) fun o3=>o3.on (fun turn9_1 =>
 some false) (fun r=>some r)
noncomputable def Vp (a b:Stm):Option (Bool) :=
 some (((((a.op==3) || (a.op==4))&&((b.op==3) || (b.op==4)))&&(a.ar==b.ar))&&((a.op==4) || (b.op==4)))
noncomputable def M3 (l:Lp) (t:Tgt) (e_:Edg) (x8:List Rf):Int→Option (Stp (Int) (Bool)):=fun i8_1 =>
 br (decide (i8_1<(ln x8))) (
 ck (IX i8_1 (ln x8)) <|
 ck (((ele x8 i8_1).st==e_.fr)=true→IX i8_1 (ln x8)) <|
 ck ((((ele x8 i8_1).st==e_.fr)&&((ele x8 i8_1).bk==e_.bk))=true→IX e_.fr (ln l.body)) <|
 bdG (((ele x8 i8_1).st==e_.fr)&&((ele x8 i8_1).bk==e_.bk)) (U2 t ((ele l.body e_.fr).op)) fun x31 =>
 br ((((ele x8 i8_1).st==e_.fr)&&((ele x8 i8_1).bk==e_.bk))&&(e_.wt==x31)) (
 some (.ret true)) (
 ck (IR (i8_1+1)) <|
 some (.next (i8_1+1)))) (
 some (.brk i8_1))
noncomputable def M1 (l:Lp) (e_:Edg) (x40:Int):Int→Option (Stp (Int) (Bool)):=fun back14_4 =>
 br (decide (back14_4<e_.bk)) (
 bd (M7 (ele l.body e_.fr) (ele l.body e_.to) back14_4 x40) fun x59 =>
 br x59 (
 some (.ret false)) (
 ck (IR (back14_4+1)) <|
 some (.next (back14_4+1)))) (
 some (.brk back14_4))
noncomputable def Abj (l:Lp) (t:Tgt) (e_:Edg):Option (Bool) :=
 ck (IX e_.to (ln l.body)) <|
 bd (U4 (ele l.body e_.to)) fun x8 =>
 bd (lp (M3 l t e_ x8) 0) fun o12=>o12.on (fun i8_1 =>
 ck (IX e_.fr (ln l.body)) <|
 ck (IX e_.to (ln l.body)) <|
 bd (show Option (Out (Int) (Empty)) from br ((ele l.body e_.fr).op==4) (
 some (.go 1)) (
 some (.go 0))) fun o27=>o27.on (fun wait11_2 =>
 bd (Vp (ele l.body e_.fr) (ele l.body e_.to)) fun x30 =>
 br ((!x30) || (e_.wt != wait11_2)) (
 some false) (
 ck (IX ((ele l.body e_.fr).ar) (ln l.logs)) <|
 bd (On (ele l.logs ((ele l.body e_.fr).ar))) fun x40 =>
 bd (show Option (Out (Int) (Empty)) from br (decide (e_.fr≥e_.to)) (
 some (.go 1)) (
 some (.go 0))) fun o43=>o43.on (fun least13_3 =>
 bdG (!((decide (e_.bk<least13_3)) || (decide (e_.bk>x40)))) (M7 (ele l.body e_.fr) (ele l.body e_.to) e_.bk x40) fun x46 =>
 br (((decide (e_.bk<least13_3)) || (decide (e_.bk>x40))) || (!x46)) (
 some false) (
 bd (lp (M1 l e_ x40) least13_3) fun o52=>o52.on (fun back14_4 =>
 some true) (fun r=>some r))) (fun r=>r.elim))) (fun r=>r.elim)) (fun r=>some r)
noncomputable def No (l:Lp) (t:Tgt) (from6_45 to7_54 back8_57:Int):((List Edg)×Int)→Option (Stp ((List Edg)×Int) (Empty)):=fun (v3_58,wait9_58) =>
 br (decide (wait9_58≤6)) (
 bd (Abj l t (Edg.mk from6_45 to7_54 back8_57 wait9_58)) fun x33 =>
 br x33 (
 ck (AL (v3_58++[(Edg.mk from6_45 to7_54 back8_57 wait9_58)]).length 32) <|
 ck (IR (wait9_58+1)) <|
 some (.next ((v3_58++[(Edg.mk from6_45 to7_54 back8_57 wait9_58)]),(wait9_58+1)))) (
 ck (IR (wait9_58+1)) <|
 some (.next (v3_58,(wait9_58+1))))) (
 some (.brk (v3_58,wait9_58)))
noncomputable def Np (l:Lp) (t:Tgt) (from6_45 to7_54:Int):((List Edg)×Int)→Option (Stp ((List Edg)×Int) (Empty)):=fun (v3_57,back8_57) =>
 br (decide (back8_57≤32)) (
 bd (lp (No l t from6_45 to7_54 back8_57) (v3_57,0)) fun o25=>o25.on (fun (v3_58,wait9_58) =>
 ck (IR (back8_57+1)) <|
 some (.next (v3_58,(back8_57+1)))) (fun r=>r.elim)) (
 some (.brk (v3_57,back8_57)))
noncomputable def Nq (l:Lp) (t:Tgt) (from6_45:Int):((List Edg)×Int)→Option (Stp ((List Edg)×Int) (Empty)):=fun (v3_54,to7_54) =>
 br (decide (to7_54<(ln l.body))) (
 bd (lp (Np l t from6_45 to7_54) (v3_54,0)) fun o18=>o18.on (fun (v3_57,back8_57) =>
 ck (IR (to7_54+1)) <|
 some (.next (v3_57,(to7_54+1)))) (fun r=>r.elim)) (
 some (.brk (v3_54,to7_54)))
noncomputable def Nr (l:Lp) (t:Tgt):((List Edg)×Int)→Option (Stp ((List Edg)×Int) (Empty)):=fun (v3_45,from6_45) =>
 br (decide (from6_45<(ln l.body))) (
 bd (lp (Nq l t from6_45) (v3_45,0)) fun o11=>o11.on (fun (v3_54,to7_54) =>
 ck (IR (from6_45+1)) <|
 some (.next (v3_54,(from6_45+1)))) (fun r=>r.elim)) (
 some (.brk (v3_45,from6_45)))
noncomputable def Sp (l:Lp) (t:Tgt):Option (List Edg) :=
 bd (lp (Nr l t) ([],0)) fun o4=>o4.on (fun (v3_45,from6_45) =>
 some v3_45) (fun r=>r.elim)
def Mr (a b:Stm) (back size:Int):Prop:=∃ i:Nat,(i:Int)<size∧(a.sp * i+a.pl) % size=(b.sp * (i+back)+b.pl) % size
def Yy (a:Stm):Prop:=-64≤a.sp∧a.sp≤64∧-64≤a.pl∧a.pl≤64
theorem Z6 {k:Nat} (h:k≤5):(1:Int)≤2 ^ k∧(2:Int) ^ k≤32∧((2 ^ k:Nat):Int)=2 ^ k:=⟨(Hm k h).1,(Hm k h).2,by simp⟩
theorem Adz {x:Int}{k:Nat} (h:k≤5):My x (2 ^ k - 1)=x % 2 ^ k:=by
 have hp:=Z6 h
 unfold My
 rw[W9 _ _ h,Dr]
 ·have:=Int.emod_nonneg x (show (2:Int) ^ k≠0 from by omega);omega
 ·have:=Int.emod_lt_of_pos x (show (0:Int)<2 ^ k from by omega);omega
theorem Aph {a b:Stm} (ha:Yy a) (hb:Yy b) {back:Int} (h0:0≤back) (h1:back≤32) {k:Nat} (hk:k≤5):Lk a b back (2 ^ k)=some (tb (Mr a b back (2 ^ k))):=by
 obtain⟨p1,p2,p3⟩:=Z6 hk
 unfold Lk
 have step:∀ i:Nat,0≤i→i<2 ^ k→(¬((a.sp * i+a.pl) % 2 ^ k=(b.sp * (i+back)+b.pl) % 2 ^ k)→Ga a b back (2 ^ k) i=some (.next ((i:Int)+1)))∧(¬¬((a.sp * i+a.pl) % 2 ^ k=(b.sp * (i+back)+b.pl) % 2 ^ k)→Ga a b back (2 ^ k) i=some (.ret true)):=fun i _ hi=>by
  have hi':(i:Int)<2 ^ k:=by omega
  have m1:=Ms ha.1 ha.2.1 (show (0:Int)≤i from by omega) (show (i:Int)≤64 from by omega)
  have m2:=Ms hb.1 hb.2.1 (show (0:Int)≤i+back from by omega) (show (i:Int)+back≤64 from by omega)
  obtain⟨_,_,a3,a4⟩:=ha
  obtain⟨_,_,b3,b4⟩:=hb
  have hiff:((a.sp * i+a.pl) % 2 ^ k=(b.sp * (i+back)+b.pl) % 2 ^ k)↔(a.sp * i+a.pl - b.sp * (i+back) - b.pl) % 2 ^ k=0:=by
   rw[Int.emod_eq_emod_iff_emod_sub_eq_zero,Int.sub_sub]
  have e:Ga a b back (2 ^ k) i=br ((a.sp * i+a.pl - b.sp * (i+back) - b.pl) % 2 ^ k==0) (some (.ret true)) (some (.next ((i:Int)+1))):=by
   unfold Ga
   rw[Bu hi',Aj (by omega) (by omega),Aj (by omega) (by omega),Aj (by omega) (by omega),Aj (by omega) (by omega),Aj (by omega) (by omega),Aj (by omega) (by omega),Aj (by omega) (by omega),Adz hk,Aj (by omega) (by omega)]
  rw[e,hiff]
  exact⟨fun h=>by rw[show ((a.sp * i+a.pl - b.sp * (i+back) - b.pl) % 2 ^ k==0)=false from by simpa using h];rfl,fun h=>by rw[show ((a.sp * i+a.pl - b.sp * (i+back) - b.pl) % 2 ^ k==0)=true from by simpa using h];rfl⟩
 rcases O4 (f:=Ga a b back (2 ^ k)) (n:=2 ^ k) (fun _=>true) (2 ^ k) 0 (by omega) step (by unfold Ga;rw[p3];exact Bt (by omega)) with ⟨h,e⟩ | ⟨i,_,h2,h3,_,e⟩
 ·rw[show (((0:Nat)):Int)=0 from rfl] at e
  rw[e,bd_ret,Out.on_go,B0]
  rintro ⟨i,hi,he⟩
  exact h i (by omega) (by omega) he
 ·rw[show (((0:Nat)):Int)=0 from rfl] at e
  rw[e,bd_ret,Out.on_ret,Cc ⟨i,by omega,Classical.not_not.1 h3⟩]
theorem Amc {a b:Stm} (ha:Yy a) (hb:Yy b) {back:Int} (h0:0≤back) (h1:back≤32) {k:Nat} (hk:k≤5):M7 a b back (2 ^ k)=some (tb (Mr a b back (2 ^ k))):=by
 obtain⟨p1,p2,p3⟩:=Z6 hk
 unfold M7
 have step:∀ i:Nat,0≤i→i<2 ^ k→(¬((a.sp * i+a.pl) % 2 ^ k=(b.sp * (i+back)+b.pl) % 2 ^ k)→Im a b back (2 ^ k) i=some (.next ((i:Int)+1)))∧(¬¬((a.sp * i+a.pl) % 2 ^ k=(b.sp * (i+back)+b.pl) % 2 ^ k)→Im a b back (2 ^ k) i=some (.ret true)):=fun i _ hi=>by
  have hi':(i:Int)<2 ^ k:=by omega
  have m1:=Ms ha.1 ha.2.1 (show (0:Int)≤i from by omega) (show (i:Int)≤64 from by omega)
  have m2:=Ms hb.1 hb.2.1 (show (0:Int)≤i+back from by omega) (show (i:Int)+back≤64 from by omega)
  obtain⟨_,_,a3,a4⟩:=ha
  obtain⟨_,_,b3,b4⟩:=hb
  have e:Im a b back (2 ^ k) i=br ((a.sp * i+a.pl) % 2 ^ k==(b.sp * (i+back)+b.pl) % 2 ^ k) (some (.ret true)) (some (.next ((i:Int)+1))):=by
   unfold Im
   rw[Bu hi',Aj (by omega) (by omega),Aj (by omega) (by omega),Aej _ _ (by omega) (by omega),bd_ret,Aj (by omega) (by omega),Aj (by omega) (by omega),Aj (by omega) (by omega),Aej _ _ (by omega) (by omega),bd_ret,Aj (by omega) (by omega)]
  rw[e]
  exact⟨fun h=>by rw[beq_eq_false_iff_ne.2 h];rfl,fun h=>by rw[beq_iff_eq.2 (Classical.not_not.1 h)];rfl⟩
 rcases O4 (f:=Im a b back (2 ^ k)) (n:=2 ^ k) (fun _=>true) (2 ^ k) 0 (by omega) step (by unfold Im;rw[p3];exact Bt (by omega)) with ⟨h,e⟩ | ⟨i,_,h2,h3,_,e⟩
 ·rw[show (((0:Nat)):Int)=0 from rfl] at e
  rw[e,bd_ret,Out.on_go,B0]
  rintro ⟨i,hi,he⟩
  exact h i (by omega) (by omega) he
 ·rw[show (((0:Nat)):Int)=0 from rfl] at e
  rw[e,bd_ret,Out.on_ret,Cc ⟨i,by omega,Classical.not_not.1 h3⟩]
def Rm (s:Stm):Prop:=s.op=3∨s.op=4
def C3 (fr to:Int):Int:=if fr≥to then 1 else 0
def Hl (l:Lp) (a:Stm):Int:=2 ^ (ele l.logs a.ar).toNat
def Ab0 (l:Lp) (fr to:Int):Prop:=Rm (ele l.body fr)∧Rm (ele l.body to)∧(ele l.body fr).ar=(ele l.body to).ar∧((ele l.body fr).op=4∨(ele l.body to).op=4)
structure MemE (l:Lp) (f u:Int) (e:Edg):Prop where
 c:Ab0 l f u
 fr:e.fr=f
 to:e.to=u
 wt:e.wt=if (ele l.body f).op=4 then 1 else 0
 lo:C3 f u≤e.bk
 hi:e.bk≤Hl l (ele l.body f)
 meet:Mr (ele l.body f) (ele l.body u) e.bk (Hl l (ele l.body f))
 first:∀ k:Int,C3 f u≤k→k<e.bk→¬Mr (ele l.body f) (ele l.body u) k (Hl l (ele l.body f))
theorem MemE.one {l:Lp}{fr to:Int}{e e':Edg} (h:MemE l fr to e) (h':MemE l fr to e'):e=e':=by
 have hb:e.bk=e'.bk:=by
  rcases Int.lt_trichotomy e.bk e'.bk with hh | hh | hh
  ·exact absurd h.meet (h'.first _ h.lo hh)
  ·exact hh
  ·exact absurd h'.meet (h.first _ h'.lo hh)
 have h1:=h.fr.trans h'.fr.symm
 have h2:=h.to.trans h'.to.symm
 have h3:=h.wt.trans h'.wt.symm
 cases e;cases e'
 simp only[Edg.mk.injEq]
 exact⟨h1,h2,hb,h3⟩
theorem La {l:Lp} (hl:LoopOk l) {i:Nat} (hi:i<l.body.length) (h:Rm (ele l.body (i:Int))):Yy (ele l.body (i:Int))∧IX (ele l.body (i:Int)).ar (ln l.logs)∧0≤ele l.logs (ele l.body (i:Int)).ar∧ele l.logs (ele l.body (i:Int)).ar≤5:=by
 obtain⟨_,_,q3⟩:=hl.stm i hi
 rw[show l.body.getD i Stm.zero=ele l.body (i:Int) from rfl] at q3
 generalize ele l.body (i:Int)=s at q3 h
 have hw:Ha l.logs.length s:=by
  unfold Rm at h
  rcases q3 with h' | h' | h' | h' | h' <;> first | exact h'.2.2.1 | omega
 obtain⟨w1,w2,w3⟩:=hw
 have hlg:=hl.log s.ar.toNat (by omega)
 exact⟨w3,⟨w1,by unfold ln;omega⟩,hlg⟩
theorem Us (fr to:Int):0≤C3 fr to∧C3 fr to≤1:=by unfold C3;split <;> omega
theorem boolC {l:Lp}{fr to:Int}:((((!((ele l.body fr).op==3 || (ele l.body fr).op==4)) || (!(if ((ele l.body fr).op==3 || (ele l.body fr).op==4)=true then ((ele l.body to).op==3 || (ele l.body to).op==4) else false))) || ((ele l.body fr).ar != (ele l.body to).ar)) || (((ele l.body fr).op==3)&&((ele l.body to).op==3)))=!tb (Ab0 l fr to):=by
 unfold Ab0
 generalize ele l.body fr=a
 generalize ele l.body to=b
 have:(!((((!(a.op==3 || a.op==4)) || (!(if (a.op==3 || a.op==4)=true then (b.op==3 || b.op==4) else false))) || (a.ar != b.ar)) || ((a.op==3)&&(b.op==3))))=tb (Rm a∧Rm b∧a.ar=b.ar∧(a.op=4∨b.op=4)):=by
  refine H7 ?_
  unfold Rm
  by_cases h1:a.op=3 <;> by_cases h2:a.op=4 <;> by_cases h3:b.op=3 <;> by_cases h4:b.op=4 <;> by_cases h5:a.ar=b.ar <;> simp_all
 rw[←this,Bool.not_not]
theorem Akq {l:Lp} (hl:LoopOk l) {fr to:Nat} (h1:fr<l.body.length) (h2:to<l.body.length):∃ r,Kv l fr to=some r∧((r.2=true∧MemE l fr to r.1)∨(r.2=false∧∀ e,¬MemE l fr to e)):=by
 unfold Kv L4
 rw[Av (by omega) (by unfold ln;omega),Av (by omega) (by unfold ln;omega),bd_ret]
 simp only[Ka,Bool.not_not]
 rw[boolC]
 by_cases hc:Ab0 l fr to
 ·rw[Cc hc,Bool.not_true,br_false,Afm,bd_ret,Out.on_go,Afm,bd_ret,Out.on_go]
  obtain⟨n1,x1,g1,g2⟩:=La hl h1 hc.1
  obtain⟨n2,_,_,_⟩:=La hl h2 hc.2.1
  have hk:(ele l.logs (ele l.body (fr:Int)).ar).toNat≤5:=by omega
  obtain⟨p1,p2,p3⟩:=Z6 hk
  have hsz:shlD 1 (ele l.logs (ele l.body (fr:Int)).ar)=Hl l (ele l.body (fr:Int)):=V0 _ g1 g2
  have hS:Hl l (ele l.body (fr:Int))=2 ^ (ele l.logs (ele l.body (fr:Int)).ar).toNat:=rfl
  rw[Ao x1,Ao g1]
  have hle:(if decide ((fr:Int)≥to)=true then (1:Int) else 0)=C3 fr to:=by unfold C3;simp
  have hwt:(if ((ele l.body (fr:Int)).op==4)=true then (1:Int) else 0)=if (ele l.body (fr:Int)).op=4 then 1 else 0:=by simp
  rw[hle,hwt]
  have hlb:=Us fr to
  generalize hW:(if (ele l.body (fr:Int)).op=4 then (1:Int) else 0)=W
  have hm:∀ k:Int,0≤k→k≤32→Lk (ele l.body (fr:Int)) (ele l.body (to:Int)) k (Hl l (ele l.body (fr:Int)))=some (tb (Mr (ele l.body (fr:Int)) (ele l.body (to:Int)) k (Hl l (ele l.body (fr:Int))))):=fun k a b=>Aph n1 n2 a b hk
  generalize hSS:Hl l (ele l.body (fr:Int))=Sz at hm hS hsz
  have hn:((Sz.toNat:Nat):Int)=Sz:=by omega
  have step:∀ i:Nat,(C3 fr to).toNat≤i→i<Sz.toNat+1→(¬Mr (ele l.body (fr:Int)) (ele l.body (to:Int)) i Sz→Ee l fr to W i=some (.next ((i:Int)+1)))∧(¬¬Mr (ele l.body (fr:Int)) (ele l.body (to:Int)) i Sz→Ee l fr to W i=some (.ret (Edg.mk fr to i W,true))):=fun i _ hi=>by
   have e:Ee l fr to W i=br (tb (Mr (ele l.body (fr:Int)) (ele l.body (to:Int)) i Sz)) (some (.ret (Edg.mk fr to i W,true))) (some (.next ((i:Int)+1))):=by
    unfold Ee
    rw[hsz,Bu (by omega),hm i (by omega) (by omega),bd_ret,Aj (by omega) (by omega)]
   rw[e]
   exact⟨fun h=>by rw[B0 h];rfl,fun h=>by rw[Cc (Classical.not_not.1 h)];rfl⟩
  rcases O4 (f:=Ee l fr to W) (n:=Sz.toNat+1) (fun i=>(Edg.mk fr to i W,true)) (Sz.toNat+1 - (C3 fr to).toNat) (C3 fr to).toNat (by omega) step (by unfold Ee;rw[hsz];exact Bt (by omega)) with ⟨h,e⟩ | ⟨i,h3,h4,h5,h6,e⟩
  ·rw[show (((C3 fr to).toNat:Nat):Int)=C3 fr to from by omega] at e
   rw[e,bd_ret,Out.on_go]
   refine⟨_,rfl,.inr ⟨rfl,fun e he=>?_⟩⟩
   have hlo:=he.lo;have hhi:=he.hi;have hme:=he.meet
   rw[hSS] at hhi hme
   have hek:((e.bk.toNat:Nat):Int)=e.bk:=by omega
   refine h e.bk.toNat (by omega) (by omega) ?_
   rw[hek];exact hme
  ·rw[show (((C3 fr to).toNat:Nat):Int)=C3 fr to from by omega] at e
   rw[e,bd_ret,Out.on_ret]
   refine⟨_,rfl,.inl ⟨rfl,⟨hc,rfl,rfl,hW.symm,by show C3 fr to≤(i:Int);omega,by rw[hSS];show (i:Int)≤Sz;omega,by rw[hSS];exact Classical.not_not.1 h5,fun k hk1 hk2=>?_⟩⟩⟩
   rw[hSS]
   have hk2':k<(i:Int):=hk2
   have hkk:((k.toNat:Nat):Int)=k:=by omega
   have:=h6 k.toNat (by omega) (by omega)
   rwa [hkk] at this
 ·rw[B0 hc,Bool.not_false,br_true]
  exact⟨_,rfl,.inr ⟨rfl,fun e he=>hc he.c⟩⟩
def UseE (l:Lp) (t:Tgt) (to:Int) (e:Edg):Prop:=∃ r∈A3 (ele l.body to),e=⟨r.st,to,r.bk,Cn t (ele l.body r.st).op⟩
theorem S7 {l:Lp} (hl:LoopOk l) {i:Nat} (hi:i<l.body.length) {r:Rf} (hr:r∈A3 (ele l.body (i:Int))):RefOk l.body.length i r:=by
 obtain⟨q1,q2,q3⟩:=hl.stm i hi
 rw[show l.body.getD i Stm.zero=ele l.body (i:Int) from rfl] at q1 q2 q3
 generalize ele l.body (i:Int)=s at q1 q2 q3 hr
 unfold A3 at hr
 split at hr
 ·simp only[List.mem_singleton] at hr;subst hr;exact q1 (.inl ‹_›)
 ·split at hr
  ·simp only[List.mem_cons,List.not_mem_nil,or_false] at hr
   rcases hr with rfl | rfl
   ·exact q1 (.inr ‹_›)
   ·exact q2 ‹_›
  ·cases hr
theorem RefOk.st {n k:Int}{r:Rf} (h:RefOk n k r) (hk:k≤n):0≤r.st∧r.st<n:=by
 obtain⟨a1,a2,a3,a4,a5⟩:=h
 refine⟨a3,?_⟩
 by_cases hb:r.bk=0
 ·have:=a4 hb;omega
 ·exact a5 hb
def EdgeP (l:Lp) (t:Tgt) (e:Edg):Prop:=∃ to:Nat,to<l.body.length∧(UseE l t to e∨∃ fr:Nat,fr<l.body.length∧MemE l fr to e)
structure EdgeIn (n:Int) (e:Edg):Prop where
 fr:0≤e.fr∧e.fr<n
 to:0≤e.to∧e.to<n
 bk:0≤e.bk∧e.bk≤32
 wt:0≤e.wt∧e.wt≤6
 Wh:e.bk=0→e.fr<e.to
theorem MemE.in {l:Lp} (hl:LoopOk l) {fr to:Nat} (h1:fr<l.body.length) (h2:to<l.body.length) {e:Edg} (h:MemE l fr to e):EdgeIn l.body.length e:=by
 obtain⟨n1,x1,g1,g2⟩:=La hl h1 h.c.1
 obtain⟨p1,p2,p3⟩:=Z6 (show (ele l.logs (ele l.body (fr:Int)).ar).toNat≤5 from by omega)
 have hlo:=h.lo;have hhi:=h.hi
 have hlb:=Us fr to
 have hS:Hl l (ele l.body (fr:Int))=2 ^ (ele l.logs (ele l.body (fr:Int)).ar).toNat:=rfl
 have hwt:=h.wt
 refine⟨by rw[h.fr];omega,by rw[h.to];omega,by omega,by split at hwt <;> omega,fun h0=>?_⟩
 rw[h.fr,h.to]
 unfold C3 at hlo
 split at hlo <;> omega
theorem UseE.in {l:Lp} (hl:LoopOk l) {t:Tgt}{to:Nat} (h2:to<l.body.length) {e:Edg} (h:UseE l t to e):EdgeIn l.body.length e:=by
 obtain⟨r,hr,rfl⟩:=h
 have hk:=S7 hl h2 hr
 have hst:=hk.st (by omega)
 obtain⟨a1,a2,a3,a4,a5⟩:=hk
 have hw:=Mz t (ele l.body r.st).op
 exact⟨hst,⟨by show (0:Int)≤to;omega,by show (to:Int)<_;omega⟩,⟨a1,by show r.bk≤32;omega⟩,hw,fun h0=>a4 h0⟩
theorem EdgeP.in {l:Lp} (hl:LoopOk l) {t:Tgt}{e:Edg} (h:EdgeP l t e):EdgeIn l.body.length e:=by
 obtain⟨to,h1,h2 | ⟨fr,h2,h3⟩⟩:=h
 ·exact h2.in hl h1
 ·exact h3.in hl h2 h1
def cmpV (x y:Int):Int:=if x<y then -1 else if y<x then 1 else 0
theorem cmp_s (x y:Int):Dc x y=some (cmpV x y):=by
 unfold Dc G2 cmpV
 simp only[bd_ret,bne_self_eq_false,br_false,Px,decide_eq_true_eq]
 by_cases h:x<y
 ·simp[h]
 ·by_cases h2:y<x
  ·simp[h,h2]
  ·simp[h,h2]
theorem or_s (a b c d:Int):Jw [a,b,c,d]=some (if a≠0 then a else if b≠0 then b else if c≠0 then c else d):=by
 unfold Jw
 have st:∀ (i:Nat) (v:Int),i<4→ele [a,b,c,d] (i:Int)=v→Db [a,b,c,d] i=br (v != 0) (some (.ret v)) (some (.next ((i+1:Nat):Int))):=fun i v hi hv=>by
  unfold Db
  rw[Bu (by show (i:Int)<4;omega),Av (by omega) (by show (i:Int)<4;omega),hv,Aj (by omega) (by omega)]
  rfl
 have s0:=st 0 a (by omega) rfl
 have s1:=st 1 b (by omega) rfl
 have s2:=st 2 c (by omega) rfl
 have s3:=st 3 d (by omega) rfl
 have s4:Db [a,b,c,d] 4=some (.brk 4):=by unfold Db;exact Bt (by show ¬((4:Int)<4);omega)
 have key:∀ (i:Nat) (v:Int) (r:Option (Out Int Int)),Db [a,b,c,d] i=br (v != 0) (some (.ret v)) (some (.next ((i+1:Nat):Int)))→lp (Db [a,b,c,d]) ((i+1:Nat):Int)=r→lp (Db [a,b,c,d]) i=if v≠0 then some (.ret v) else r:=fun i v r h1 h2=>by
  by_cases hv:v=0
  ·subst hv
   simp only[bne_self_eq_false,br_false] at h1
   rw[J0 h1,h2];rfl
  ·rw[show (v != 0)=true from by simpa using hv,br_true] at h1
   rw[K8 h1,if_pos hv]
 have h4:lp (Db [a,b,c,d]) ((3+1:Nat):Int)=some (.go 4):=C0 s4
 have h0:=key 0 a _ s0 (key 1 b _ s1 (key 2 c _ s2 (key 3 d _ s3 h4)))
 rw[show ((0:Nat):Int)=0 from rfl] at h0
 rw[h0]
 by_cases ha:a=0
 ·by_cases hb:b=0
  ·by_cases hc:c=0
   ·by_cases hd:d=0
    ·simp[ha,hb,hc,hd]
    ·simp[ha,hb,hc,hd]
   ·simp[ha,hb,hc]
  ·simp[ha,hb]
 ·simp[ha]
theorem Amf (a b:Edg):Nm a b=some (Vt a b):=by
 unfold Nm
 simp only[cmp_s,bd_ret,or_s]
 congr 1
 unfold cmpV Vt
 by_cases h1:a.fr<b.fr
 ·simp[h1]
 by_cases h2:b.fr<a.fr
 ·simp[h1,h2]
 by_cases h3:a.to<b.to
 ·simp[h1,h2,h3]
 by_cases h4:b.to<a.to
 ·simp[h1,h2,h3,h4]
 by_cases h5:a.bk<b.bk
 ·simp[h1,h2,h3,h4,h5]
 by_cases h6:b.bk<a.bk
 ·simp[h1,h2,h3,h4,h5,h6]
 simp[h1,h2,h3,h4,h5,h6]
theorem C9 {a b:Edg}:Vt a b<0↔a.fr<b.fr∨(a.fr=b.fr∧(a.to<b.to∨(a.to=b.to∧(a.bk<b.bk∨(a.bk=b.bk∧a.wt<b.wt))))):=by
 unfold Vt
 repeat' split
 all_goals omega
def Lt (a b:Edg):Prop:=Vt a b<0
theorem Lt.trans {a b c:Edg} (h:Lt a b) (h':Lt b c):Lt a c:=by unfold Lt at *;rw[C9] at *;omega
theorem Lt.irrefl {a:Edg}:¬Lt a a:=by unfold Lt;rw[C9];omega
theorem Lt.asymm {a b:Edg} (h:Lt a b):¬Lt b a:=fun h'=>Lt.irrefl (h.trans h')
theorem Lt.tri {a b:Edg} (h1:¬Lt a b) (h2:¬Lt b a):a=b:=by
 unfold Lt at *;rw[C9] at *
 cases a;cases b;simp only[Edg.mk.injEq] at *;omega
def H9 (l:List Edg):Prop:=l.Pairwise Lt
theorem Xj:∀ {a b:List Edg},H9 a→H9 b→(∀ e,e∈a↔e∈b)→a=b
 | [],[],_,_,_=>rfl
 | [],y::b,_,_,h=>by have:=(h y).2 (by simp);cases this
 | x::a,[],_,_,h=>by have:=(h x).1 (by simp);cases this
 | x::a,y::b,ha,hb,h=>by
  obtain⟨a1,a2⟩:=List.pairwise_cons.1 ha
  obtain⟨b1,b2⟩:=List.pairwise_cons.1 hb
  have hxy:x=y:=by
   rcases List.mem_cons.1 ((h x).1 (by simp)) with h1 | h1
   ·exact h1
   ·rcases List.mem_cons.1 ((h y).2 (by simp)) with h2 | h2
    ·exact h2.symm
    ·exact absurd (b1 x h1) (a1 y h2).asymm
  subst hxy
  congr 1
  refine Xj a2 b2 fun e=>⟨fun he=>?_,fun he=>?_⟩
  ·rcases List.mem_cons.1 ((h e).1 (by simp[he])) with h1 | h1
   ·subst h1;exact absurd (a1 e he) Lt.irrefl
   ·exact h1
  ·rcases List.mem_cons.1 ((h e).2 (by simp[he])) with h1 | h1
   ·subst h1;exact absurd (b1 e he) Lt.irrefl
   ·exact h1
theorem Ql {l:List Edg}{x:Edg} (h:H9 l) (hx:∀ e∈l,Lt e x):H9 (l++[x]):=by
 unfold H9
 rw[List.pairwise_append]
 exact⟨h,List.pairwise_singleton _ _,fun a ha b hb=>by simp only[List.mem_singleton] at hb;subst hb;exact hx a ha⟩
theorem Agb (a b:Edg):([a.fr,a.to,a.bk,a.wt]==[b.fr,b.to,b.bk,b.wt])=tb (a=b):=by
 refine H7 ?_
 cases a;cases b
 simp
def Srt (l:List Edg):Prop:=l.Pairwise fun a b=>¬Lt b a
theorem Srt.at {l:List Edg} (h:Srt l) {i j:Nat} (hij:i<j) (hj:j<l.length):¬Lt (ele l (j:Int)) (ele l (i:Int)):=by
 have:=List.pairwise_iff_getElem.1 h i j (by omega) hj hij
 simpa [Cs,List.getD_eq_getElem?_getD,hj,show i<l.length from by omega] using this
theorem Ac1 {l:List Edg}{n:Nat}{e:Edg}:e∈l.take n↔∃ i:Nat,i<n∧i<l.length∧ele l (i:Int)=e:=by
 constructor
 ·intro h
  obtain⟨i,hi,rfl⟩:=List.getElem_of_mem h
  rw[List.length_take] at hi
  exact⟨i,by omega,by omega,by simp[Cs,List.getD_eq_getElem?_getD,show i<l.length from by omega]⟩
 ·rintro ⟨i,h1,h2,rfl⟩
  rw[Cs,List.getD_eq_getElem?_getD,List.getElem?_eq_getElem h2]
  exact List.mem_of_getElem? (by rw[List.getElem?_take,if_pos h1,List.getElem?_eq_getElem h2];rfl)
theorem Ach {l:List Edg}{k:Nat}{x:Edg} (h:k<l.length):(upd l (k:Int) x).take (k+1)=l.take k++[x]:=by
 unfold upd
 rw[Int.toNat_natCast,List.take_add_one,List.take_set_of_le (Nat.le_refl _),List.getElem?_set_self h]
 rfl
theorem Ai6 {l:List Edg}{k i:Nat} (h:k+i<l.length):ele (sub l (k:Int) (ln l)) (i:Int)=ele l ((k+i:Nat):Int):=by
 unfold sub ln
 rw[Cs,Cs,List.getD_eq_getElem?_getD,List.getElem?_take,if_pos (by omega),List.getElem?_drop,Int.toNat_natCast,List.getD_eq_getElem?_getD]
structure CptI (s:List Edg) (k0:Nat) (ows:List Edg) (k j:Nat):Prop where
 len:ows.length=s.length
 kp:1≤k0
 j1:1≤j
 jn:k0+j≤s.length
 kk:k0≤k
 kj:k+1≤k0+j
 st:H9 (ows.take k)
 mem:∀ e,e∈ows.take k↔e∈s.take (k0+j)
 last:ele ows ((k - 1:Nat):Int)=ele s ((k0+j - 1:Nat):Int)
 rest:∀ p:Nat,k0+j - 1≤p→p<s.length→ele ows (p:Int)=ele s (p:Int)
theorem Ac3 {l:List Edg} (h:H9 l) (h0:0<l.length):∀ e∈l,e=ele l ((l.length - 1:Nat):Int)∨Lt e (ele l ((l.length - 1:Nat):Int)):=fun e he=>by
 obtain⟨i,hi,rfl⟩:=List.getElem_of_mem he
 have hl:ele l ((l.length - 1:Nat):Int)=l[l.length - 1]:=by simp[Cs,List.getD_eq_getElem?_getD,show l.length - 1<l.length from by omega]
 rw[hl]
 by_cases h1:i=l.length - 1
 ·left;congr 1
 ·right;exact List.pairwise_iff_getElem.1 h i (l.length - 1) hi (by omega) (by omega)
theorem Add {l:List Edg}{k i:Nat} (h:i<k):ele (l.take k) (i:Int)=ele l (i:Int):=by
 rw[Cs,Cs,List.getD_eq_getElem?_getD,List.getElem?_take,if_pos h,List.getD_eq_getElem?_getD]
theorem Alc {s:List Edg} (hs:Srt s) (hb:s.length≤4611686018427387904) {k0:Nat}{ows:List Edg}{k j:Nat} (h:CptI s k0 ows k j) (hj:k0+j<s.length) :
  (∃ ows' k',Bd s k0 (ows,(k:Int),(j:Int))=some (.next (ows',((k':Nat):Int),((j+1:Nat):Int)))∧CptI s k0 ows' k' (j+1)):=by
 have hl:=h.len;have hj1:=h.j1;have hkj:=h.kj;have hk0:=h.kp;have hkk:=h.kk
 have hln:ln s=ln ows:=by unfold ln;rw[hl]
 have hsub:ln (sub ows (k0:Int) (ln ows))=((s.length - k0:Nat):Int):=by
  have:=Aaw (xs:=ows) (i:=(k0:Int)) (j:=ln ows) ⟨by omega,by unfold ln;omega,Int.le_refl _⟩
  unfold ln at this ⊢
  rw[this];omega
 have hx:ele (sub ows (k0:Int) (ln ows)) (j:Int)=ele s ((k0+j:Nat):Int):=by rw[Ai6 (by omega),h.rest _ (by omega) hj]
 have hy:ele (sub ows (k0:Int) (ln ows)) ((j:Int) - 1)=ele s ((k0+j - 1:Nat):Int):=by
  rw[show (j:Int) - 1=((j - 1:Nat):Int) from by omega,Ai6 (by omega),h.rest _ (by omega) (by omega),show k0+(j - 1)=k0+j - 1 from by omega]
 have hsc:((j+1:Nat):Int)=(j:Int)+1:=rfl
 have hmem:∀ e,e∈s.take (k0+(j+1))↔e∈s.take (k0+j)∨e=ele s ((k0+j:Nat):Int):=fun e=>by
  rw[show k0+(j+1)=(k0+j)+1 from rfl,Eu hj,List.mem_append,List.mem_singleton]
 unfold Bd
 simp only
 rw[hln,Wg (by omega) (by unfold ln;omega) (Int.le_refl _),hsub,Bu (by omega),Av (by omega) (by omega),Aj (by omega) (by omega),Av (by omega) (by omega),hx,hy,Agb]
 by_cases he:ele s ((k0+j:Nat):Int)=ele s ((k0+j - 1:Nat):Int)
 ·rw[Cc he,Bool.not_true,br_false,Aj (by omega) (by omega),←hsc]
  refine⟨ows,k,rfl,⟨hl,hk0,by omega,by omega,hkk,by omega,h.st,fun e=>?_,?_,fun p h1 h2=>h.rest p (by omega) h2⟩⟩
  ·rw[h.mem,hmem]
   refine⟨.inl,fun h'=>h'.elim id fun h'=>?_⟩
   rw[h',he,Ac1]
   exact⟨k0+j - 1,by omega,by omega,rfl⟩
  ·rw[h.last,show k0+(j+1) - 1=k0+j from by omega,he]
 ·rw[B0 he,Bool.not_false,br_true,Av (by omega) (by omega),Av (by omega) (by unfold ln;omega),Aj (by omega) (by omega),Aj (by omega) (by omega),←hsc]
  refine⟨_,k+1,rfl,⟨by rw[Ck];exact hl,hk0,by omega,by omega,by omega,by omega,?_,fun e=>?_,?_,fun p h1 h2=>?_⟩⟩
  ·rw[Ach (by omega)]
   refine Ql h.st fun e hm=>?_
   have hlt:(ows.take k).length=k:=by rw[List.length_take];omega
   have hmx:=Ac3 h.st (by omega) e hm
   rw[hlt,Add (by omega),h.last] at hmx
   have hnot:=hs.at (i:=k0+j - 1) (j:=k0+j) (by omega) hj
   have hlt2:Lt (ele s ((k0+j - 1:Nat):Int)) (ele s ((k0+j:Nat):Int)):=by
    by_cases hh:Lt (ele s ((k0+j - 1:Nat):Int)) (ele s ((k0+j:Nat):Int))
    ·exact hh
    ·exact absurd (Lt.tri hnot hh) he
   rcases hmx with h' | h'
   ·rw[h'];exact hlt2
   ·exact h'.trans hlt2
  ·rw[Ach (by omega),List.mem_append,List.mem_singleton,h.mem,hmem]
  ·rw[show k+1 - 1=k from rfl,Lq ⟨by omega,by unfold ln;omega⟩,show k0+(j+1) - 1=k0+j from by omega]
  ·rw[Hc (by omega)]
   exact h.rest p (by omega) h2
theorem Adh {s:List Edg} (hs:Srt s) (hb:s.length≤4611686018427387904) {k0:Nat}:∀ (m j k:Nat) (ows:List Edg),k0+j+m=s.length→CptI s k0 ows k j→∃ ows' k',lp (Bd s k0) (ows,(k:Int),(j:Int))=some (.go (ows',((k':Nat):Int),((s.length - k0:Nat):Int)))∧CptI s k0 ows' k' (s.length - k0)
 | 0,j,k,ows,hm,h=>by
  have hj:j=s.length - k0:=by have:=h.kk;omega
  subst hj
  refine⟨ows,k,C0 ?_,h⟩
  have hl:=h.len
  have hln:ln s=ln ows:=by unfold ln;rw[hl]
  have hsub:ln (sub ows (k0:Int) (ln ows))=((s.length - k0:Nat):Int):=by
   have:=Aaw (xs:=ows) (i:=(k0:Int)) (j:=ln ows) ⟨by omega,by unfold ln;omega,Int.le_refl _⟩
   unfold ln at this ⊢
   rw[this];omega
  unfold Bd
  simp only
  rw[hln,Wg (by omega) (by unfold ln;omega) (Int.le_refl _),hsub,Bt (by omega)]
 | m+1,j,k,ows,hm,h=>by
  obtain⟨ows',k',h1,h2⟩:=Alc hs hb h (by omega)
  obtain⟨o2,k2,h3,h4⟩:=Adh hs hb m (j+1) k' ows' (by omega) h2
  exact⟨o2,k2,Cr h1 h3,h4⟩
theorem Aig {s:List Edg} (hs:Srt s) (hb:s.length≤4611686018427387904):∃ ys,B8 s=some ys∧H9 ys∧∀ e,e∈ys↔e∈s:=by
 unfold B8
 by_cases h2:s.length<2
 ·rw[Bu (by unfold ln;omega)]
  refine⟨s,rfl,?_,fun e=>Iff.rfl⟩
  match s,h2 with
  | [],_=>exact List.Pairwise.nil
  | [x],_=>exact List.pairwise_singleton _ _
 ·rw[Bt (by unfold ln;omega)]
  have key:∀ m k:Nat,1≤k→k+m=s.length→H9 (s.take k)→(H9 s∧lp Be (s,(k:Int))=some (.go (s,(s.length:Int))))∨(∃ ys,lp Be (s,(k:Int))=some (.ret ys)∧H9 ys∧∀ e,e∈ys↔e∈s):=by
   intro m
   induction m with
   | zero =>
    intro k h1 hk hst
    have:k=s.length:=by omega
    subst this
    rw[List.take_length] at hst
    refine .inl ⟨hst,C0 ?_⟩
    unfold Be
    exact Bt (by unfold ln;omega)
   | succ m ih =>
    intro k h1 hk hst
    have e:Be (s,(k:Int))=br (tb (ele s (k:Int)=ele s ((k - 1:Nat):Int))) (ck (SX (k:Int) (ln s) (ln s))<|bd (lp (Bd s k) (s,(k:Int),1)) fun o26=>o26.on (fun (ows0_4,k3_4,k25_4) =>
      ck (SX k3_4 (ln ows0_4) (ln ows0_4))<|ck (SX 0 k3_4 (ln (clr ows0_4 k3_4 (Edg.mk 0 0 0 0))))<|some (.ret (sub (clr ows0_4 k3_4 (Edg.mk 0 0 0 0)) 0 k3_4))) (fun r=>r.elim)) (some (.next (s,((k+1:Nat):Int)))):=by
     unfold Be
     simp only
     rw[Bu (by unfold ln;omega),Av (by omega) (by unfold ln;omega),Aj (by omega) (by omega),show (k:Int) - 1=((k - 1:Nat):Int) from by omega,Av (by omega) (by unfold ln;omega),Agb,Aj (by omega) (by omega)]
     rfl
    by_cases he:ele s (k:Int)=ele s ((k - 1:Nat):Int)
    ·rw[Cc he,br_true,Wg (by omega) (by unfold ln;omega) (Int.le_refl _)] at e
     have hI:CptI s k s k 1:=⟨rfl,h1,Nat.le_refl _,by omega,Nat.le_refl _,Nat.le_refl _,hst,fun x=>by
       rw[Eu (by omega),List.mem_append,List.mem_singleton]
       refine⟨.inl,fun h'=>h'.elim id fun h'=>?_⟩
       rw[h',he,Ac1]
       exact⟨k - 1,by omega,by omega,rfl⟩,he.symm,fun _ _ _=>rfl⟩
     obtain⟨o2,k2,h3,h4⟩:=Adh hs hb m 1 k s (by omega) hI
     rw[show ((1:Nat):Int)=1 from rfl] at h3
     rw[h3,bd_ret,Out.on_go] at e
     simp only at e
     have hl:=h4.len;have hk1:=h4.kk;have hk2:=h4.kj
     have hcl:=Abe (xs:=o2) (i:=(k2:Int)) (z:=Edg.mk 0 0 0 0) (by unfold ln;omega)
     rw[Wg (by omega) (by unfold ln;omega) (Int.le_refl _),Wg (by omega) (by omega) (by unfold ln;rw[hcl];omega)] at e
     have hsub:sub (clr o2 (k2:Int) (Edg.mk 0 0 0 0)) 0 (k2:Int)=o2.take k2:=by
      unfold sub clr
      have h0:(0:Int).toNat=0:=rfl
      rw[h0,List.drop_zero,Int.sub_zero,Int.toNat_natCast,List.take_append_of_le_length (by rw[List.length_take];omega),List.take_take,Nat.min_self]
     rw[hsub] at e
     refine .inr ⟨_,K8 e,h4.st,fun x=>?_⟩
     rw[h4.mem,show k+(s.length - k)=s.length from by omega,List.take_length]
    ·rw[B0 he,br_false] at e
     have hst':H9 (s.take (k+1)):=by
      rw[Eu (by omega)]
      refine Ql hst fun x hx=>?_
      have hlen:(s.take k).length=k:=by rw[List.length_take];omega
      have hmx:=Ac3 hst (by omega) x hx
      rw[hlen,Add (by omega)] at hmx
      have hnot:=hs.at (i:=k - 1) (j:=k) (by omega) (by omega)
      have hlt:Lt (ele s ((k - 1:Nat):Int)) (ele s (k:Int)):=by
       by_cases hh:Lt (ele s ((k - 1:Nat):Int)) (ele s (k:Int))
       ·exact hh
       ·exact absurd (Lt.tri hnot hh) he
      rcases hmx with h' | h'
      ·rw[h'];exact hlt
      ·exact h'.trans hlt
     rcases ih (k+1) (by omega) (by omega) hst' with ⟨a,b⟩ | ⟨ys,a,b⟩
     ·exact .inl ⟨a,(J0 e).trans b⟩
     ·exact .inr ⟨ys,(J0 e).trans a,b⟩
  have h1:H9 (s.take 1):=by
   match s with
   | []=>exact List.Pairwise.nil
   | x::_=>exact List.pairwise_singleton _ _
  rcases key (s.length - 1) 1 (Nat.le_refl _) (by omega) h1 with ⟨a,b⟩ | ⟨ys,a,b,c⟩
  ·rw[show ((1:Nat):Int)=1 from rfl] at b
   rw[b,bd_ret,Out.on_go]
   exact⟨s,rfl,a,fun e=>Iff.rfl⟩
  ·rw[show ((1:Nat):Int)=1 from rfl] at a
   rw[a,bd_ret,Out.on_ret]
   exact⟨ys,rfl,b,c⟩
theorem Aj9 (l:List Edg):Srt (We l)∧(∀ e,e∈We l↔e∈l)∧(We l).length=l.length:=by
 refine⟨?_,fun e=>List.mem_mergeSort,List.length_mergeSort ..⟩
 have:=List.pairwise_mergeSort (le:=fun x y=>!decide (Vt y x<0)) (fun a b c h1 h2=>?_) (fun a b=>?_) l
 ·refine this.imp fun {a b} h=>?_
  unfold Lt
  simpa using h
 ·simp only[Bool.not_eq_true',decide_eq_false_iff_not] at *
  rw[C9] at *
  omega
 ·simp only[Bool.or_eq_true,Bool.not_eq_true',decide_eq_false_iff_not]
  rw[C9,C9]
  omega
theorem Aid {l:Lp}{t:Tgt}{e:Edg}{fr to:Nat} (hf:fr<l.body.length) (hn:to<l.body.length) (h1:e.fr=fr) (h2:e.to=to) (hl:LoopOk l):EdgeP l t e↔(UseE l t to e∨MemE l fr to e):=by
 constructor
 ·rintro ⟨u,hu,h | ⟨f,hf',h⟩⟩
  ·have:(u:Int)=to:=by
    obtain⟨r,hr,rfl⟩:=h
    exact h2
   rw[this] at h;exact .inl h
  ·have e1:(u:Int)=to:=by rw[←h2,h.to]
   have e2:(f:Int)=fr:=by rw[←h1,h.fr]
   rw[e1,e2] at h;exact .inr h
 ·rintro (h | h)
  ·exact⟨to,hn,.inl h⟩
  ·exact⟨to,hn,.inr ⟨fr,hf,h⟩⟩
theorem Ang {α β:Type} [Inhabited α] {c:Bool}{x:α}{k:α→Option β}:bdG c (some x) k=k (if c=true then x else default):=by cases c <;> rfl
theorem Ahx {A B:Bool}{x y d:Int}:((A&&B)&&(x==if (A&&B)=true then y else d))=((A&&B)&&(x==y)):=by cases A <;> cases B <;> rfl
theorem tb_or {p q:Prop}:tb (p∨q)=(tb p || tb q):=by
 by_cases h1:p
 ·rw[Cc (.inl h1),Cc h1];rfl
 ·by_cases h2:q
  ·rw[Cc (.inr h2),B0 h1,Cc h2];rfl
  ·rw[B0 (fun h=>h.elim h1 h2),B0 h1,B0 h2];rfl
theorem Ahr {l:Lp} (hl:LoopOk l) (t:Tgt) {fr to:Nat} (h1:fr<l.body.length) (h2:to<l.body.length) {bk wt:Int} (h3:0≤bk) (h4:bk≤32):Abj l t ⟨fr,to,bk,wt⟩=some (tb (UseE l t to ⟨fr,to,bk,wt⟩∨MemE l fr to ⟨fr,to,bk,wt⟩)):=by
 have hul:=J7 (ele l.body (to:Int))
 unfold Abj
 simp only
 rw[Av (by omega) (by unfold ln;omega),Aey,bd_ret]
 have step:∀ i:Nat,0≤i→i<(A3 (ele l.body (to:Int))).length→(¬((ele (A3 (ele l.body (to:Int))) (i:Int)).st=fr∧(ele (A3 (ele l.body (to:Int))) (i:Int)).bk=bk∧wt=Cn t (ele l.body (fr:Int)).op)→M3 l t ⟨fr,to,bk,wt⟩ (A3 (ele l.body (to:Int))) i=some (.next ((i:Int)+1))) ∧
   (¬¬((ele (A3 (ele l.body (to:Int))) (i:Int)).st=fr∧(ele (A3 (ele l.body (to:Int))) (i:Int)).bk=bk∧wt=Cn t (ele l.body (fr:Int)).op)→M3 l t ⟨fr,to,bk,wt⟩ (A3 (ele l.body (to:Int))) i=some (.ret true)):=fun i _ hi=>by
  have hix:IX (i:Int) (ln (A3 (ele l.body (to:Int)))):=⟨by omega,by unfold ln;omega⟩
  have e:M3 l t ⟨fr,to,bk,wt⟩ (A3 (ele l.body (to:Int))) i=br (tb ((ele (A3 (ele l.body (to:Int))) (i:Int)).st=fr∧(ele (A3 (ele l.body (to:Int))) (i:Int)).bk=bk∧wt=Cn t (ele l.body (fr:Int)).op)) (some (.ret true)) (some (.next ((i:Int)+1))):=by
   unfold M3
   simp only
   rw[Bu (by unfold ln;omega),Ao hix,Fb (fun _=>hix),Fb (fun _=>⟨by omega,by unfold ln;omega⟩),Aex]
   rw[Ang,Ahx,Aj (by omega) (by omega)]
   have hb:∀ (x y z:Bool) (p q r:Prop),(x=true↔p)→(y=true↔q)→(z=true↔r)→((x&&y)&&z)=tb (p∧q∧r):=fun x y z p q r h1 h2 h3=>H7 (by rw[Bool.and_eq_true,Bool.and_eq_true,h1,h2,h3,and_assoc])
   rw[hb _ _ _ _ _ _ beq_iff_eq beq_iff_eq beq_iff_eq]
  rw[e]
  exact⟨fun h=>by rw[B0 h];rfl,fun h=>by rw[Cc (Classical.not_not.1 h)];rfl⟩
 have huse:UseE l t to ⟨fr,to,bk,wt⟩↔∃ i:Nat,i<(A3 (ele l.body (to:Int))).length∧((ele (A3 (ele l.body (to:Int))) (i:Int)).st=fr∧(ele (A3 (ele l.body (to:Int))) (i:Int)).bk=bk∧wt=Cn t (ele l.body (fr:Int)).op):=by
  constructor
  ·rintro ⟨r,hr,he⟩
   obtain⟨i,hi,rfl⟩:=Ni hr
   simp only[Edg.mk.injEq] at he
   obtain⟨a1,a2,a3,a4⟩:=he
   exact⟨i,hi,a1.symm,a3.symm,by rw[a4,←a1]⟩
  ·rintro ⟨i,hi,a1,a2,a3⟩
   exact⟨_,Cv hi,by rw[a1,a2,a3]⟩
 rcases O4 (f:=M3 l t ⟨fr,to,bk,wt⟩ (A3 (ele l.body (to:Int)))) (n:=(A3 (ele l.body (to:Int))).length) (fun _=>true) (A3 (ele l.body (to:Int))).length 0 (by omega) step (by unfold M3;exact Bt (by unfold ln;omega)) with ⟨h,e⟩ | ⟨i,_,hi,hh,_,e⟩
 ·rw[show (((0:Nat)):Int)=0 from rfl] at e
  have hnu:¬UseE l t to ⟨fr,to,bk,wt⟩:=fun hu=>by
   obtain⟨i,hi,hc⟩:=huse.1 hu
   exact h i (by omega) hi hc
  rw[e,bd_ret,Out.on_go,tb_or,B0 hnu,Bool.false_or,Av (by omega) (by unfold ln;omega),Av (by omega) (by unfold ln;omega),Afm,bd_ret,Out.on_go]
  unfold Vp
  rw[bd_ret]
  have hC:(((((ele l.body (fr:Int)).op==3 || (ele l.body (fr:Int)).op==4)&&((ele l.body (to:Int)).op==3 || (ele l.body (to:Int)).op==4))&&((ele l.body (fr:Int)).ar==(ele l.body (to:Int)).ar))&&((ele l.body (fr:Int)).op==4 || (ele l.body (to:Int)).op==4))=tb (Ab0 l fr to):=by
   unfold Ab0
   refine H7 ?_
   unfold Rm
   simp[and_assoc]
  rw[hC]
  have hwt:(if ((ele l.body (fr:Int)).op==4)=true then (1:Int) else 0)=if (ele l.body (fr:Int)).op=4 then 1 else 0:=by simp
  rw[hwt]
  by_cases hc:Ab0 l fr to
  ·rw[Cc hc,Bool.not_true,Bool.false_or]
   by_cases hw:wt=if (ele l.body (fr:Int)).op=4 then 1 else 0
   ·obtain⟨n1,x1,g1,g2⟩:=La hl h1 hc.1
    obtain⟨n2,_,_,_⟩:=La hl h2 hc.2.1
    have hk:(ele l.logs (ele l.body (fr:Int)).ar).toNat≤5:=by omega
    obtain⟨p1,p2,p3⟩:=Z6 hk
    have hS:Hl l (ele l.body (fr:Int))=2 ^ (ele l.logs (ele l.body (fr:Int)).ar).toNat:=rfl
    have hle:(if decide ((fr:Int)≥to)=true then (1:Int) else 0)=C3 fr to:=by unfold C3;simp
    have hlb:=Us fr to
    rw[show (wt != if (ele l.body (fr:Int)).op=4 then 1 else 0)=false from by rw[←hw];exact bne_self_eq_false _,br_false,Ao x1,Aap _ g2,bd_ret,Afm,bd_ret,Out.on_go,hle]
    rw[←hS]
    have hm:∀ k:Int,0≤k→k≤32→M7 (ele l.body (fr:Int)) (ele l.body (to:Int)) k (Hl l (ele l.body (fr:Int)))=some (tb (Mr (ele l.body (fr:Int)) (ele l.body (to:Int)) k (Hl l (ele l.body (fr:Int))))):=fun k a b=>Amc n1 n2 a b hk
    rw[hm bk h3 h4,Ka]
    by_cases hr:C3 fr to≤bk∧bk≤Hl l (ele l.body (fr:Int))
    ·rw[show (decide (bk<C3 fr to) || decide (bk>Hl l (ele l.body (fr:Int))))=false from by simp;omega]
     simp only[Bool.not_false,if_true,Bool.false_or]
     by_cases hme:Mr (ele l.body (fr:Int)) (ele l.body (to:Int)) bk (Hl l (ele l.body (fr:Int)))
     ·rw[Cc hme,Bool.not_true,br_false]
      have hbk:((bk.toNat:Nat):Int)=bk:=by omega
      have hlk:(((C3 fr to).toNat:Nat):Int)=C3 fr to:=by omega
      have st2:∀ i:Nat,(C3 fr to).toNat≤i→i<bk.toNat→(¬Mr (ele l.body (fr:Int)) (ele l.body (to:Int)) i (Hl l (ele l.body (fr:Int)))→M1 l ⟨fr,to,bk,wt⟩ (Hl l (ele l.body (fr:Int))) i=some (.next ((i:Int)+1)))∧(¬¬Mr (ele l.body (fr:Int)) (ele l.body (to:Int)) i (Hl l (ele l.body (fr:Int)))→M1 l ⟨fr,to,bk,wt⟩ (Hl l (ele l.body (fr:Int))) i=some (.ret false)):=fun i _ hi=>by
       have e:M1 l ⟨fr,to,bk,wt⟩ (Hl l (ele l.body (fr:Int))) i=br (tb (Mr (ele l.body (fr:Int)) (ele l.body (to:Int)) i (Hl l (ele l.body (fr:Int))))) (some (.ret false)) (some (.next ((i:Int)+1))):=by
        unfold M1
        simp only
        rw[Bu (by omega),hm i (by omega) (by omega),bd_ret,Aj (by omega) (by omega)]
       rw[e]
       exact⟨fun h=>by rw[B0 h];rfl,fun h=>by rw[Cc (Classical.not_not.1 h)];rfl⟩
      rcases O4 (f:=M1 l ⟨fr,to,bk,wt⟩ (Hl l (ele l.body (fr:Int)))) (n:=bk.toNat) (fun _=>false) (bk.toNat - (C3 fr to).toNat) (C3 fr to).toNat (by omega) st2 (by unfold M1;exact Bt (by show ¬((bk.toNat:Int)<bk);omega)) with ⟨ha,e2⟩ | ⟨i,hi0,hi1,hi2,_,e2⟩
      ·rw[hlk] at e2
       rw[e2,bd_ret,Out.on_go,Cc]
       refine⟨hc,rfl,rfl,hw,hr.1,hr.2,hme,fun k hk1 hk2=>?_⟩
       have hk2':k<bk:=hk2
       have hkk:((k.toNat:Nat):Int)=k:=by omega
       have:=ha k.toNat (by omega) (by omega)
       rwa [hkk] at this
      ·rw[hlk] at e2
       rw[e2,bd_ret,Out.on_ret,B0]
       exact fun h=>hi2 (h.first i (by omega) (by show (i:Int)<bk;omega))
     ·rw[B0 hme,Bool.not_false,br_true,B0 fun h=>hme h.meet]
    ·rw[show (decide (bk<C3 fr to) || decide (bk>Hl l (ele l.body (fr:Int))))=true from by simp;omega]
     simp only[Bool.true_or,br_true]
     rw[B0 fun h=>hr ⟨h.lo,h.hi⟩]
   ·rw[show (wt != if (ele l.body (fr:Int)).op=4 then 1 else 0)=true from by simpa using hw,br_true,B0 fun h=>hw h.wt]
  ·rw[B0 hc,Bool.not_false,Bool.true_or,br_true,B0 fun h=>hc h.c]
 ·rw[show (((0:Nat)):Int)=0 from rfl] at e
  rw[e,bd_ret,Out.on_ret,Cc (.inl (huse.2 ⟨i,hi,Classical.not_not.1 hh⟩))]
structure UpTo (l:Lp) (t:Tgt) (p:Edg) (b:Int) (v:List Edg):Prop where
 st:H9 v
 mem:∀ e,e∈v↔EdgeP l t e∧Lt e p
 len:(v.length:Int)≤b
theorem AL32 {n:Nat} (h:n≤100000):AL n 32:=⟨by rw[F4];omega,by omega⟩
theorem Mj {l:Lp}{t:Tgt}{p p':Edg}{b b':Int}{v:List Edg} (h:UpTo l t p b v) (hb:b≤b') (hp:∀ e,EdgeP l t e→(Lt e p↔Lt e p')):UpTo l t p' b' v :=
 ⟨h.st,fun e=>by rw[h.mem];exact⟨fun ⟨a,c⟩=>⟨a,(hp e a).1 c⟩,fun ⟨a,c⟩=>⟨a,(hp e a).2 c⟩⟩,Int.le_trans h.len hb⟩
theorem Aki {l:Lp} (hl:LoopOk l) (t:Tgt):∃ E,Sp l t=some E∧H9 E∧(∀ e,e∈E↔EdgeP l t e)∧E.length≤60000:=by
 have hn16:=hl.2.2.1
 have hin:∀ e,EdgeP l t e→EdgeIn l.body.length e:=fun e h=>h.in hl
 unfold Sp
 have XE:=Kl (f:=Nr l t) (n:=l.body.length) (fun k v=>UpTo l t ⟨k,0,0,0⟩ (k * 3696) v) (fun fr v hfr hv=>?_) (fun g=>by unfold Nr;exact Bt (by unfold ln;omega)) [] ⟨List.Pairwise.nil,fun e=>⟨fun h=>(by cases h),fun ⟨h1,h2⟩=>by
  have:=hin e h1;have:=this.fr;unfold Lt at h2;rw[C9] at h2;have:=(hin e h1).to;have:=(hin e h1).bk;have:=(hin e h1).wt;simp only at h2;omega⟩,by simp⟩
 ·obtain⟨E,e0,hE⟩:=XE
  rw[e0,bd_ret,Out.on_go]
  refine⟨E,rfl,hE.st,fun e=>?_,by have:=hE.len;omega⟩
  rw[hE.mem]
  refine⟨fun h=>h.1,fun h=>⟨h,?_⟩⟩
  have:=(hin e h).fr
  unfold Lt;rw[C9];left;exact this.2
 ·have Xv1:=Kl (f:=Nq l t fr) (n:=l.body.length) (fun k v=>UpTo l t ⟨fr,k,0,0⟩ ((fr:Int) * 3696+k * 231) v) (fun to v hto hv=>?_) (fun g=>by unfold Nq;exact Bt (by unfold ln;omega)) v (Mj hv (by omega) fun e he=>Iff.rfl)
  ·obtain⟨v1,e1,hv1⟩:=Xv1
   refine⟨v1,?_,Mj hv1 (by omega) fun e he=>?_⟩
   ·unfold Nr
    simp only
    rw[Bu (by unfold ln;omega),e1,bd_ret,Out.on_go]
    simp only
    rw[Aj (by omega) (by omega)]
   ·have h1:=(hin e he).to;have h2:=(hin e he).bk;have h3:=(hin e he).wt
    unfold Lt;rw[C9,C9];simp only;omega
  ·have Xv2:=Kl (f:=Np l t fr to) (n:=33) (fun k v=>UpTo l t ⟨fr,to,k,0⟩ ((fr:Int) * 3696+to * 231+k * 7) v) (fun bk v hbk hv=>?_) (fun g=>by unfold Np;exact Bt (by omega)) v (Mj hv (by omega) fun e he=>Iff.rfl)
   ·obtain⟨v2,e2,hv2⟩:=Xv2
    refine⟨v2,?_,Mj hv2 (by omega) fun e he=>?_⟩
    ·unfold Nq
     simp only
     rw[Bu (by unfold ln;omega),e2,bd_ret,Out.on_go]
     simp only
     rw[Aj (by omega) (by omega)]
    ·have h2:=(hin e he).bk;have h3:=(hin e he).wt
     unfold Lt;rw[C9,C9];simp only;omega
   ·have Xv3:=Kl (f:=No l t fr to bk) (n:=7) (fun k v=>UpTo l t ⟨fr,to,bk,k⟩ ((fr:Int) * 3696+to * 231+bk * 7+k) v) (fun wt v hwt hv=>?_) (fun g=>by unfold No;exact Bt (by omega)) v (Mj hv (by omega) fun e he=>Iff.rfl)
    ·obtain⟨v3,e3,hv3⟩:=Xv3
     refine⟨v3,?_,Mj hv3 (by omega) fun e he=>?_⟩
     ·unfold Np
      simp only
      rw[Bu (by omega),e3,bd_ret,Out.on_go]
      simp only
      rw[Aj (by omega) (by omega)]
     ·have h3:=(hin e he).wt
      unfold Lt;rw[C9,C9];simp only;omega
    ·have hlen:=hv.len
     have hiff:=Aid (t:=t) (e:=⟨fr,to,bk,wt⟩) hfr hto rfl rfl hl
     unfold No
     simp only
     rw[Bu (by omega),Ahr hl t hfr hto (by omega) (by omega),bd_ret,Aj (by omega) (by omega)]
     by_cases hE:UseE l t to ⟨fr,to,bk,wt⟩∨MemE l fr to ⟨fr,to,bk,wt⟩
     ·rw[Cc hE,br_true,Ao (AL32 (by rw[List.length_append,List.length_singleton];omega))]
      refine⟨_,rfl,Ql hv.st fun e he=>((hv.mem e).1 he).2,fun e=>?_,by rw[List.length_append,List.length_singleton];omega⟩
      rw[List.mem_append,List.mem_singleton,hv.mem]
      constructor
      ·rintro (⟨a,b⟩ | rfl)
       ·refine⟨a,?_⟩
        unfold Lt at b ⊢;rw[C9] at b ⊢;simp only at b ⊢;omega
       ·exact⟨hiff.2 hE,by unfold Lt;rw[C9];exact .inr ⟨rfl,.inr ⟨rfl,.inr ⟨rfl,by show (wt:Int)<((wt+1:Nat):Int);omega⟩⟩⟩⟩
      ·rintro ⟨a,b⟩
       unfold Lt at b;rw[C9] at b;simp only at b
       by_cases hq:e=⟨fr,to,bk,wt⟩
       ·exact .inr hq
       ·refine .inl ⟨a,?_⟩
        unfold Lt;rw[C9];simp only
        have:¬(e.fr=fr∧e.to=to∧e.bk=bk∧e.wt=wt):=fun ⟨x1,x2,x3,x4⟩=>hq (by cases e;simp only[Edg.mk.injEq] at *;exact⟨x1,x2,x3,x4⟩)
        omega
     ·rw[B0 hE,br_false,Aj (by omega) (by omega)]
      refine⟨v,rfl,hv.st,fun e=>?_,by omega⟩
      rw[hv.mem]
      constructor
      ·rintro ⟨a,b⟩
       refine⟨a,?_⟩
       unfold Lt at b ⊢;rw[C9] at b ⊢;simp only at b ⊢;omega
      ·rintro ⟨a,b⟩
       refine⟨a,?_⟩
       unfold Lt at b ⊢;rw[C9] at b ⊢;simp only at b ⊢
       have:¬(e.fr=fr∧e.to=to∧e.bk=bk∧e.wt=wt):=fun ⟨x1,x2,x3,x4⟩=>hE (hiff.1 (by
        have:e=⟨fr,to,bk,wt⟩:=by cases e;simp only[Edg.mk.injEq] at *;exact⟨x1,x2,x3,x4⟩
        rw[←this];exact a))
       omega
structure Cnt (P:Edg→Prop) (b:Nat) (v:List Edg):Prop where
 mem:∀ e,e∈v↔P e
 len:v.length≤b
theorem Ans {l:Lp} (hl:LoopOk l) (hf:l.Fine) {t:Tgt} (ht:Cu t=true):∃ E,D4 l t=some (E,0)∧H9 E∧(∀ e,e∈E↔EdgeP l t e):=by
 have hn16:=hl.2.2.1
 unfold D4
 rw[Wj l hf,bd_ret,I6,Cc hl,ht]
 simp only[Bool.not_true,Bool.not_false,bdG_t,bd_ret,Bool.or_self,br_false]
 have Xv:=Kl (f:=Jd l t) (n:=l.body.length) (fun k v=>Cnt (fun e=>∃ to:Nat,to<k∧(UseE l t to e∨∃ fr:Nat,fr<l.body.length∧MemE l fr to e)) (k * 18) v) (fun to v hto hv=>?_) (fun g=>by unfold Jd;exact Bt (by unfold ln;omega)) [] ⟨fun e=>⟨fun h=>(by cases h),fun ⟨_,h,_⟩=>(by omega)⟩,Nat.zero_le _⟩
 ·obtain⟨v,e0,hv⟩:=Xv
  rw[e0,bd_ret,Out.on_go]
  simp only
  obtain⟨s1,s2,s3⟩:=Aj9 v
  have hlen:=hv.len
  unfold So
  rw[Ao (by omega),bd_ret]
  obtain⟨ys,c1,c2,c3⟩:=Aig s1 (by omega)
  rw[c1,bd_ret]
  exact⟨ys,rfl,c2,fun e=>by rw[c3,s2,hv.mem];rfl⟩
 ·have hul:=J7 (ele l.body (to:Int))
  have hlen:=hv.len
  have Xv1:=Kl (f:=Jc l t to (A3 (ele l.body (to:Int)))) (n:=(A3 (ele l.body (to:Int))).length) (fun k w=>Cnt (fun e=>e∈v∨∃ j:Nat,j<k∧e=⟨(ele (A3 (ele l.body (to:Int))) (j:Int)).st,to,(ele (A3 (ele l.body (to:Int))) (j:Int)).bk,Cn t (ele l.body (ele (A3 (ele l.body (to:Int))) (j:Int)).st).op⟩) (to * 18+k) w) (fun i w hi hw=>?_) (fun g=>by unfold Jc;exact Bt (by unfold ln;omega)) v ⟨fun e=>⟨.inl,fun h=>h.elim id fun ⟨_,h,_⟩=>(by omega)⟩,by omega⟩
  ·obtain⟨v1,e1,hv1⟩:=Xv1
   have Xv2:=Kl (f:=Jb l to) (n:=l.body.length) (fun k w=>Cnt (fun e=>e∈v1∨∃ fr:Nat,fr<k∧MemE l fr to e) (to * 18+2+k) w) (fun i w hi hw=>?_) (fun g=>by unfold Jb;exact Bt (by unfold ln;omega)) v1 ⟨fun e=>⟨.inl,fun h=>h.elim id fun ⟨_,h,_⟩=>(by omega)⟩,by have:=hv1.len;omega⟩
   ·obtain⟨v2,e2,hv2⟩:=Xv2
    refine⟨v2,?_,fun e=>?_,by have:=hv2.len;omega⟩
    ·unfold Jd
     simp only
     rw[Bu (by unfold ln;omega),Av (by omega) (by unfold ln;omega),Sf,bd_ret,e1,bd_ret,Out.on_go]
     simp only
     rw[e2,bd_ret,Out.on_go]
     simp only
     rw[Aj (by omega) (by omega)]
    ·rw[hv2.mem,hv1.mem,hv.mem]
     constructor
     ·rintro ((⟨u,h1,h2⟩ | ⟨j,h1,rfl⟩) | ⟨fr,h1,h2⟩)
      ·exact⟨u,by omega,h2⟩
      ·exact⟨to,by omega,.inl ⟨_,Cv h1,rfl⟩⟩
      ·exact⟨to,by omega,.inr ⟨fr,h1,h2⟩⟩
     ·rintro ⟨u,h1,h2⟩
      by_cases hu:u=to
      ·subst hu
       rcases h2 with ⟨r,hr,rfl⟩ | ⟨fr,h3,h4⟩
       ·obtain⟨j,hj,rfl⟩:=Ni hr
        exact .inl (.inr ⟨j,hj,rfl⟩)
       ·exact .inr ⟨fr,h3,h4⟩
      ·exact .inl (.inl ⟨u,by omega,h2⟩)
   ·obtain⟨r,q1,q2⟩:=Akq hl hi hto
    have hwl:=hw.len
    unfold Jb
    simp only
    rw[Bu (by unfold ln;omega),q1,bd_ret,Aj (by omega) (by omega)]
    rcases q2 with ⟨q2,q3⟩ | ⟨q2,q3⟩
    ·rw[q2,br_true,Ao (AL32 (by rw[List.length_append,List.length_singleton];omega))]
     refine⟨_,rfl,fun e=>?_,by rw[List.length_append,List.length_singleton];omega⟩
     rw[List.mem_append,List.mem_singleton,hw.mem]
     constructor
     ·rintro ((h | ⟨f,h1,h2⟩) | rfl)
      ·exact .inl h
      ·exact .inr ⟨f,by omega,h2⟩
      ·exact .inr ⟨i,by omega,q3⟩
     ·rintro (h | ⟨f,h1,h2⟩)
      ·exact .inl (.inl h)
      ·by_cases hu:f=i
       ·subst hu;exact .inr (h2.one q3)
       ·exact .inl (.inr ⟨f,by omega,h2⟩)
    ·rw[q2,br_false,Aj (by omega) (by omega)]
     refine⟨w,rfl,fun e=>?_,by omega⟩
     rw[hw.mem]
     constructor
     ·rintro (h | ⟨f,h1,h2⟩)
      ·exact .inl h
      ·exact .inr ⟨f,by omega,h2⟩
     ·rintro (h | ⟨f,h1,h2⟩)
      ·exact .inl h
      ·by_cases hu:f=i
       ·subst hu;exact absurd h2 (q3 e)
       ·exact .inr ⟨f,by omega,h2⟩
  ·have hwl:=hw.len
   have hst:=(S7 hl hto (Cv hi)).st (by omega)
   unfold Jc
   simp only
   rw[Bu (by unfold ln;omega),Av (by omega) (by unfold ln;omega),Av hst.1 (by unfold ln;omega),Jt,bd_ret,Ao (AL32 (by rw[List.length_append,List.length_singleton];omega)),Aj (by omega) (by omega)]
   refine⟨_,rfl,fun e=>?_,by rw[List.length_append,List.length_singleton];omega⟩
   rw[List.mem_append,List.mem_singleton,hw.mem]
   constructor
   ·rintro ((h | ⟨j,h1,h2⟩) | rfl)
    ·exact .inl h
    ·exact .inr ⟨j,by omega,h2⟩
    ·exact .inr ⟨i,by omega,rfl⟩
   ·rintro (h | ⟨j,h1,h2⟩)
    ·exact .inl (.inl h)
    ·by_cases hu:j=i
     ·subst hu;exact .inr h2
     ·exact .inl (.inr ⟨j,by omega,h2⟩)
theorem Sm {l:Lp} (hl:LoopOk l) (hf:l.Fine) {t:Tgt} (ht:Cu t=true):∃ E,D4 l t=some (E,0)∧Sp l t=some E∧H9 E∧(∀ e,e∈E↔EdgeP l t e)∧E.length≤60000:=by
 obtain⟨E,e1,e2,e3⟩:=Ans hl hf ht
 obtain⟨F,f1,f2,f3,f4⟩:=Aki hl t
 have:E=F:=Xj e2 f2 fun e=>by rw[e3,f3]
 subst this
 exact⟨E,e1,f1,e2,e3,f4⟩
theorem Aic {l:Lp} (hf:l.Fine) {t:Tgt} (h:¬(LoopOk l∧Cu t=true)):D4 l t=some ([],2):=by
 unfold D4
 rw[Wj l hf,bd_ret,I6]
 by_cases hl:LoopOk l
 ·have:Cu t=false:=by
   cases hh:Cu t with
   | true=>exact absurd ⟨hl,hh⟩ h
   | false=>rfl
  rw[Cc hl,this];rfl
 ·rw[B0 hl];rfl
noncomputable def Gn (l:Lp) (t:Tgt) (p:Pln):((List ((Int×Int)×Int))×Int)→Option (Stp ((List ((Int×Int)×Int))×Int) (Bool)):=fun (m4n_1,x19_1) =>
 br (decide (x19_1<(ln p.times))) (
 ck (IX x19_1 (ln p.times)) <|
 br ((decide ((ele p.times x19_1)<0)) || (decide ((ele p.times x19_1)>1000))) (
 some (.ret false)) (
 ck (p.pace≠0) <|
 ck (IX x19_1 (ln l.body)) <|
 bd (Dg ((ele l.body x19_1).op)) fun x25 =>
 ck (IR ((Dm m4n_1 ((Int.tmod (ele p.times x19_1) p.pace),x25) 0)+1)) <|
 ck (IX x25 3) <|
 br (decide ((Dm (Es m4n_1 ((Int.tmod (ele p.times x19_1) p.pace),x25) ((Dm m4n_1 ((Int.tmod (ele p.times x19_1) p.pace),x25) 0)+1)) ((Int.tmod (ele p.times x19_1) p.pace),x25) 0)>(Bi t.u0 t.u1 t.u2 x25))) (
 some (.ret false)) (
 ck (IR (x19_1+1)) <|
 some (.next ((Es m4n_1 ((Int.tmod (ele p.times x19_1) p.pace),x25) ((Dm m4n_1 ((Int.tmod (ele p.times x19_1) p.pace),x25) 0)+1)),(x19_1+1)))))) (
 some (.brk (m4n_1,x19_1)))
noncomputable def Gm (p:Pln) (edges:List Edg):Int→Option (Stp (Int) (Bool)):=fun x60_2 =>
 br (decide (x60_2<(ln edges))) (
 ck (IX x60_2 (ln edges)) <|
 ck (IX ((ele edges x60_2).to) (ln p.times)) <|
 ck (IR ((ele edges x60_2).bk * p.pace)) <|
 ck (IR ((ele p.times ((ele edges x60_2).to))+((ele edges x60_2).bk * p.pace))) <|
 ck (IX ((ele edges x60_2).fr) (ln p.times)) <|
 ck (IR ((ele p.times ((ele edges x60_2).fr))+(ele edges x60_2).wt)) <|
 br (decide (((ele p.times ((ele edges x60_2).to))+((ele edges x60_2).bk * p.pace))<((ele p.times ((ele edges x60_2).fr))+(ele edges x60_2).wt))) (
 some (.ret false)) (
 ck (IR (x60_2+1)) <|
 some (.next (x60_2+1)))) (
 some (.brk x60_2))
noncomputable def He (l:Lp) (t:Tgt) (p:Pln) (edges:List Edg):Option (Bool) :=
 bd (lp (Gn l t p) (([]:List ((Int×Int)×Int)),0)) fun o5=>o5.on (fun (m4n_1,x19_1) =>
 bd (lp (Gm p edges) 0) fun o10=>o10.on (fun x60_2 =>
 some true) (fun r=>some r)) (fun r=>some r)
noncomputable def Hq (l:Lp) (t:Tgt) (p:Pln):Option (Bool) :=
 bd (D4 l t) fun x4 =>
 bdG ((((x4.2==0)&&(decide (p.pace≥1)))&&(decide (p.pace≤200)))&&((ln p.times)==(ln l.body))) (He l t p x4.1) fun x8 =>
 some (((((x4.2==0)&&(decide (p.pace≥1)))&&(decide (p.pace≤200)))&&((ln p.times)==(ln l.body)))&&x8)
def E9 (l:Lp) (p:Pln) (i:Nat):Int×Int:=(Int.tmod (ele p.times (i:Int)) p.pace,Fl (ele l.body (i:Int)).op)
def Jn (l:Lp) (p:Pln) (k:Nat) (κ:Int×Int):Nat:=(List.range k).countP fun j=>decide (E9 l p j=κ)
def Dt (t:Tgt) (c:Int):Int:=Bi t.u0 t.u1 t.u2 c
theorem Ho (l:Lp) (p:Pln) (k:Nat) (κ:Int×Int):Jn l p (k+1) κ=Jn l p k κ+if E9 l p k=κ then 1 else 0:=by
 unfold Jn
 rw[List.range_succ,List.countP_append,List.countP_singleton]
 by_cases h:E9 l p k=κ <;> simp[h]
theorem Ahw (l : Lp) (p : Pln) {κ : Int × Int} {i j : Nat} (h : i ≤ j) : Jn l p i κ ≤ Jn l p j κ := by
  induction j with
  | zero => have : i = 0 := by omega
            subst this; exact Nat.le_refl _
  | succ j ih =>
    by_cases e : i = j + 1
    · subst e; exact Nat.le_refl _
    · rw [Ho]; have := ih (by omega); omega
theorem Abd (l:Lp) (p:Pln) (κ:Int×Int):∀ k,Jn l p k κ≤k
 | 0=>Nat.le_refl _
 | k+1=>by rw[Ho];have:=Abd l p κ k;split <;> omega
theorem N8 {t:Tgt} (ht:Cu t=true) (c:Int):1≤Dt t c∧Dt t c≤4:=by
 rw[Dj] at ht
 exact S8 ⟨ht.1.1,ht.1.2.1⟩ ⟨ht.2.1.1,ht.2.1.2.1⟩ ⟨ht.2.2.1.1,ht.2.2.1.2.1⟩
theorem Agd {l:Lp}{p:Pln}{t:Tgt} (ht:Cu t=true) {n:Nat}:(∀ k,k<n→(Jn l p (k+1) (E9 l p k):Int)≤Dt t (E9 l p k).2)↔(∀ i,i<n→(Jn l p n (E9 l p i):Int)≤Dt t (E9 l p i).2):=by
 constructor
 ·intro h
  have key:∀ k,k≤n→∀ κ,(Jn l p k κ:Int)≤Dt t κ.2:=by
   intro k
   induction k with
   | zero=>intro _ κ;have:=(N8 ht κ.2).1;show ((0:Nat):Int)≤_;omega
   | succ k ih =>
    intro hk κ
    by_cases e:E9 l p k=κ
    ·have:=h k (by omega);rw[e] at this;exact this
    ·rw[Ho,if_neg e];exact ih (by omega) κ
  exact fun i _=>key n (Nat.le_refl _) _
 ·intro h k hk
  have:=h k hk
  have:=Ahw l p (κ:=E9 l p k) (show k+1≤n from hk)
  omega
def Pr (p:Pln) (i:Nat):Prop:=0≤ele p.times (i:Int)∧ele p.times (i:Int)≤1000
def Vd (p:Pln) (e:Edg):Prop:=ele p.times e.fr+e.wt≤ele p.times e.to+e.bk * p.pace
structure LegalP (l:Lp) (t:Tgt) (p:Pln):Prop where
 loop:LoopOk l
 tgt:Cu t=true
 pace:1≤p.pace∧p.pace≤200
 len:p.times.length=l.body.length
 rng:∀ i,i<l.body.length→Pr p i
 units:∀ i,i<l.body.length→(Jn l p l.body.length (E9 l p i):Int)≤Dt t (E9 l p i).2
 edge:∀ e,EdgeP l t e→Vd p e
def Agw (l:Lp) (t:Tgt) (p:Pln):Prop:=((∀ i,i<l.body.length→Pr p i)∧(∀ i,i<l.body.length→(Jn l p l.body.length (E9 l p i):Int)≤Dt t (E9 l p i).2))∧∀ e,EdgeP l t e→Vd p e
theorem Ae7 {l:Lp}{p:Pln} (hl:LoopOk l) (hp:1≤p.pace∧p.pace≤200) (hlen:p.times.length=l.body.length) (hr:∀ i,i<l.body.length→Pr p i) {t:Tgt}{e:Edg} (he:EdgeP l t e) :
  IX e.to (ln p.times)∧IX e.fr (ln p.times)∧(0≤e.bk * p.pace∧e.bk * p.pace≤6400)∧(0≤ele p.times e.to∧ele p.times e.to≤1000)∧(0≤ele p.times e.fr∧ele p.times e.fr≤1000)∧(0≤e.wt∧e.wt≤6):=by
 obtain⟨a1,a2,a3,a4,_⟩:=he.in hl
 have m1:=Ms (a:=e.bk) (A:=32) (b:=p.pace) (B:=200) (by omega) (by omega) (by omega) (by omega)
 have m2:0≤e.bk * p.pace:=Int.mul_nonneg a3.1 (by omega)
 have q1:=hr e.to.toNat (by omega)
 have q2:=hr e.fr.toNat (by omega)
 unfold Pr at q1 q2
 rw[show ((e.to.toNat:Nat):Int)=e.to from by omega] at q1
 rw[show ((e.fr.toNat:Nat):Int)=e.fr from by omega] at q2
 exact⟨⟨a2.1,by unfold ln;omega⟩,⟨a1.1,by unfold ln;omega⟩,⟨m2,by omega⟩,q1,q2,a4⟩
theorem Uy {l:Lp}{t:Tgt}{E:List Edg} (hE:∀ e,e∈E↔EdgeP l t e) {q:Edg→Prop}:(∀ i:Nat,i<E.length→q (ele E (i:Int)))↔∀ e,EdgeP l t e→q e:=by
 constructor
 ·intro h e he
  obtain⟨i,hi,rfl⟩:=Ni ((hE e).2 he)
  exact h i hi
 ·exact fun h i hi=>h _ ((hE _).1 (Cv hi))
theorem Ajn {l:Lp}{t:Tgt}{p:Pln} (hl:LoopOk l) (ht:Cu t=true) (hp:1≤p.pace∧p.pace≤200) (hlen:p.times.length=l.body.length) {E:List Edg} (hE:∀ e,e∈E↔EdgeP l t e) (hEl:E.length≤60000):He l t p E=some (tb (Agw l t p)):=by
 have hn16:=hl.2.2.1
 unfold He
 rcases Aae (f:=Gn l t p) (n:=p.times.length) (r0:=false) (fun i=>Pr p i∧(Jn l p (i+1) (E9 l p i):Int)≤Dt t (E9 l p i).2) (fun k m=>∀ κ,Dm m κ 0=(Jn l p k κ:Int)) (fun i m hi hm=>by
   have hc:=Fp (ele l.body (i:Int)).op
   have hcl:=Abd l p (E9 l p i) i
   have hmg:Dm m (E9 l p i) 0=(Jn l p i (E9 l p i):Int):=hm _
   have hk:E9 l p i=(Int.tmod (ele p.times (i:Int)) p.pace,Fl (ele l.body (i:Int)).op):=rfl
   have hnew:Dm (Es m (E9 l p i) (Dm m (E9 l p i) 0+1)) (E9 l p i) 0=(Jn l p (i+1) (E9 l p i):Int):=by rw[J8,if_pos rfl,hmg,Ho,if_pos rfl];rfl
   have e:Gn l t p (m,(i:Int))=br (!tb (Pr p i)) (some (.ret false)) (br (decide ((Jn l p (i+1) (E9 l p i):Int)>Dt t (E9 l p i).2)) (some (.ret false)) (some (.next (Es m (E9 l p i) (Dm m (E9 l p i) 0+1),(i:Int)+1)))):=by
    unfold Gn
    simp only
    rw[Bu (by unfold ln;omega),Av (by omega) (by unfold ln;omega)]
    have hb:(decide (ele p.times (i:Int)<0) || decide (ele p.times (i:Int)>1000))=!tb (Pr p i):=by
     have:(!(decide (ele p.times (i:Int)<0) || decide (ele p.times (i:Int)>1000)))=tb (Pr p i):=H7 (by unfold Pr;simp)
     rw[←this,Bool.not_not]
    rw[hb,Ao (by omega),Av (by omega) (by unfold ln;omega),Kf,bd_ret,←hk,Aj (by omega) (by omega),Av hc.1 hc.2,hnew,Aj (by omega) (by omega)]
    rfl
   rw[e]
   by_cases h1:Pr p i
   ·rw[Cc h1,Bool.not_true,br_false]
    by_cases h2:(Jn l p (i+1) (E9 l p i):Int)>Dt t (E9 l p i).2
    ·rw[Bu h2];exact .inr ⟨fun h=>by omega,rfl⟩
    ·rw[Bt h2]
     refine .inl ⟨⟨h1,by omega⟩,_,rfl,fun κ=>?_⟩
     rw[J8,Ho]
     by_cases hq:E9 l p i=κ
     ·rw[if_pos hq,if_pos hq,hmg,hq];rfl
     ·rw[if_neg hq,if_neg hq,hm];rfl
   ·rw[B0 h1];exact .inr ⟨fun h=>h1 h.1,rfl⟩) (fun g=>by unfold Gn;exact Bt (by unfold ln;omega)) [] (fun κ=>rfl) with ⟨h1,m,e1,_⟩ | ⟨h1,e1⟩
 ·rw[e1,bd_ret,Out.on_go]
  simp only
  have hrng:∀ i,i<l.body.length→Pr p i:=fun i hi=>(h1 i (by omega)).1
  have hcnt:=(Agd (l:=l) (p:=p) ht (n:=l.body.length)).1 fun i hi=>(h1 i (by omega)).2
  rcases Mt (f:=Gm p E) (n:=E.length) (p:=fun i=>Vd p (ele E (i:Int))) (fun i hi _=>by
    obtain⟨x1,x2,x3,x4,x5,x6⟩:=Ae7 hl hp hlen hrng ((hE _).1 (Cv hi))
    have e:Gm p E i=br (!tb (Vd p (ele E (i:Int)))) (some (.ret false)) (some (.next ((i:Int)+1))):=by
     unfold Gm
     rw[Bu (by unfold ln;omega),Av (by omega) (by unfold ln;omega),Ao x1,Aj (by omega) (by omega),Aj (by omega) (by omega),Ao x2,Aj (by omega) (by omega),Aj (by omega) (by omega)]
     congr 1
     have:(!decide (ele p.times (ele E (i:Int)).to+(ele E (i:Int)).bk * p.pace<ele p.times (ele E (i:Int)).fr+(ele E (i:Int)).wt))=tb (Vd p (ele E (i:Int))):=H7 (by unfold Vd;simp)
     rw[←this,Bool.not_not]
    rw[e]
    exact⟨fun h=>by rw[Cc h];rfl,fun h=>by rw[B0 h];rfl⟩) (by unfold Gm;exact Bt (by unfold ln;omega)) with ⟨h2,e2⟩ | ⟨h2,e2⟩
  ·rw[e2,bd_ret,Out.on_go,Cc ⟨⟨hrng,hcnt⟩,(Uy hE).1 h2⟩]
  ·rw[e2,bd_ret,Out.on_ret,B0 fun h=>h2 ((Uy hE).2 h.2)]
 ·rw[e1,bd_ret,Out.on_ret,B0 fun h=>h1 fun i hi=>⟨h.1.1 i (by omega),(Agd ht).2 h.1.2 i (by omega)⟩]
theorem Ur {l:Lp}{t:Tgt}{p:Pln}:LegalP l t p↔(LoopOk l∧Cu t=true)∧(1≤p.pace∧p.pace≤200)∧p.times.length=l.body.length∧Agw l t p :=
 ⟨fun h=>⟨⟨h.loop,h.tgt⟩,h.pace,h.len,⟨h.rng,h.units⟩,h.edge⟩,fun ⟨h1,h2,h3,h4⟩=>⟨h1.1,h1.2,h2,h3,h4.1.1,h4.1.2,h4.2⟩⟩
theorem Agn {l:Lp} (hf:l.Fine) (t:Tgt) (p:Pln):Hq l t p=some (tb (LegalP l t p)):=by
 unfold Hq
 by_cases h:LoopOk l∧Cu t=true
 ·obtain⟨E,e1,e2,e3,e4,e5⟩:=Sm h.1 hf h.2
  rw[e1,bd_ret]
  simp only
  by_cases h2:(1≤p.pace∧p.pace≤200)∧p.times.length=l.body.length
  ·have hc:((((0:Int)==0)&&(decide (p.pace≥1)))&&(decide (p.pace≤200))&&((ln p.times)==(ln l.body)))=true:=by
    unfold ln
    simp only[Bool.and_eq_true,decide_eq_true_eq,beq_iff_eq]
    exact⟨⟨⟨trivial,by omega⟩,by omega⟩,by omega⟩
   rw[hc,Ajn h.1 h.2 h2.1 h2.2 e4 e5,bdG_t,bd_ret,Bool.true_and]
   congr 1
   exact E7 ⟨fun hh=>Ur.2 ⟨h,h2.1,h2.2,hh⟩,fun hh=>(Ur.1 hh).2.2.2⟩
  ·have hc:((((0:Int)==0)&&(decide (p.pace≥1)))&&(decide (p.pace≤200))&&((ln p.times)==(ln l.body)))=false:=by
    cases hq:((((0:Int)==0)&&(decide (p.pace≥1)))&&(decide (p.pace≤200))&&((ln p.times)==(ln l.body))) with
    | false=>rfl
    | true =>
     unfold ln at hq
     simp only[Bool.and_eq_true,decide_eq_true_eq,beq_iff_eq] at hq
     exact absurd ⟨⟨by omega,by omega⟩,by omega⟩ h2
   rw[hc,bdG_f,Bool.false_and,B0 fun hh=>h2 ⟨hh.pace,hh.len⟩]
 ·rw[Aic hf h,bd_ret,B0 fun hh=>h ⟨hh.loop,hh.tgt⟩]
  rfl
end Go.Rd
end