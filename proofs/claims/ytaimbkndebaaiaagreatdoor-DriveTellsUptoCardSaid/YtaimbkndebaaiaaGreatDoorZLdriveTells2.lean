/- Texts for the law, 2. -/
import Derived.Test.YtaimbkndebaaiaaGreatDoorZLdriveTells1
import Derived.Laws.OwnMore
import Derived.MapKept
import Derived.ChangeMaps5
import Derived.Lib.AppendStr
import Derived.Lib.UnsafeStr
import Derived.Lib.LaidTab
import Derived.Shelf.Strings.Builder1
import Derived.Shelf.Strings.Fields
import Derived.Shelf.Strconv.Itoa4
import Derived.KernelRfl
import Derived.Shelf.Strings.Split
import Derived.Shelf.Strings.Cut
import Derived.Shelf.Strings.Prefix
import Derived.Shelf.Small.Wraps
import Derived.Shelf.Strconv.ParseIntPublic10
import Derived.Shelf.Strconv.RangeError
set_option linter.unusedVariables false
set_option linter.unusedSimpArgs false
set_option maxRecDepth 8000
set_option linter.defProp false
open Go renaming World→Ak,Value→Al,Program→Bz,Operand→En
open Decidable renaming decide→Ap
open Bool renaming false→Az
open Go.Value renaming cells→Ea,string→Ada
open Go.Lib renaming itoa→Fe,decDigits→L5,hasPrefix→P4,trimPrefix→Sj,parseIntB→Sq,parseUintM→T7,split→Vq
open ByteArray renaming mk→N1
open Go.Oper renaming wp→Ii
open Go.Result renaming andThen→Rk
open Go.Sem renaming run→Jg
open Go.Instr renaming sureAddr→Rb,findNow→Aar,findAsking→Ag2,keyThatStays→Alw,checkKey→Agw
open UInt8 renaming ofNat→Qd
open Go.Addr renaming add→Ma
open Go.Op renaming equalIn→T3
open Go.Deferred renaming ofValue→Adg
section
namespace Go.Rd
open Go.RowKit
theorem Ae9 {α:Type}{c:α→Al}{enc:α→List Al} (a:∀ u,enc u=[c u]):∀ xs:List α,(xs.map enc).flatten=xs.map c
 | []=>rfl
 | x::xs=>by simp[a,Ae9 a xs]
theorem A2s {α β:Type}{f:α→β}{xs:List α}{i:Int}{z:α}:(upd xs i z).map f=(xs.map f).set i.toNat (f z):=by unfold upd;rw[List.map_set]
theorem El {α:Type}{xs:List α}{i:Int}{z:α}:(upd xs i z).length=xs.length:=by simp[upd]
theorem Aws {b n c:Nat}{i:Int}{p:Addr} (h:Lw (.slice (some ⟨b,0,none⟩) n c) i 1 p):p=⟨b,i.toNat,none⟩:=by
 obtain⟨a,j,e,d,f,g,rfl⟩:=h;simp only[Jh,Gs] at d;obtain⟨rfl,_,_⟩:=d;rw[Tg];simp
theorem Aja {P:Bz}{w:Ak}{p:Addr}{v u:Al} (h:w.cell? p=some v) (b:w.frozen? p=Az) (a:u.oneCell'=true):(store p u).run P w=.ok () (w.setCell p u):=by
 cases u <;> simp_all [store,Jg,Value.oneCell']
theorem Ahl {P:Bz}{α:Type}{c:α→Al}{enc:α→List Al} (l:∀ u,enc u=[c u]) {w:Ak}{v:Al}{E:TypeId}{xs:List α}{i:Int}{p:Addr}{z:α} (h:(vec v E 1 (xs.map enc)).holds w) (e:Lw v i 1 p) (t:(c z).oneCell'=true) :
  ∃ b,(∃ n k,v=.slice (some ⟨b,0,none⟩) n k)∧p=⟨b,i.toNat,none⟩∧(store p (c z)).run P w=.ok () (w.setCell p (c z))∧(vec v E 1 ((upd xs i z).map enc)).holds (w.setCell p (c z)) ∧
   (∀ j,j≠b→(w.setCell p (c z)).heap[j]?=w.heap[j]?):=by
 obtain⟨o,K⟩:=h;rcases o.2 with ⟨rfl,_⟩ | ⟨b,cap,g,rfl,H,m,L,I,x,M⟩
 ·obtain⟨a,n,s,d,_⟩:=e;simp at d
 ·have B:=Aws e
  subst B;obtain⟨a,N,s,d,G,hi,_⟩:=e;simp only[Jh,Gs] at d;obtain⟨_,rfl,rfl⟩:=d
  have F:i.toNat<g.size:=by rw[x];omega
  have Sm:w.cell? ⟨b,i.toNat,none⟩=some g[i.toNat]:=by simp[World.cell?,m,F]
  have y:w.frozen? ⟨b,i.toNat,none⟩=Az:=by simp[World.frozen?,m]
  obtain⟨q,J⟩:=World.ownsRow.stored o i.toNat (c z);refine⟨b,⟨_,_,rfl⟩,rfl,Aja Sm y t,⟨?_,?_⟩,fun j A=>Below.heap_setCell _ _ _ _ A⟩
  ·rw[Ae9 l] at q ⊢
   rw[A2s (f:=c)];simpa[El] using q
  ·intro r C
   obtain⟨u,_,rfl⟩:=I7.1 C;simp[l]
section
variable {P : Bz} {n : Nat} {σ : Env} {M : Nat → Prop} {w0 : Ak} {H : List Res} {d : Option Tmp} {T U E E2 S T2 : TypeId} {pos : String} {after : Array Edge} {gd : Option (Nat × Bool)} {x y : En} {g g' : Bool} {v : Al}
 {K:Act→Ak→Prop}{Q:Exit→Act→Ak→Prop}
theorem Vh {α:Type}{c:α→Al}{enc:α→List Al} (k:Nat) (z:α) {xs:List α}{i:Int}{p:Addr} (t:∀ u,enc u=[c u]) (N:σ.ev x=some (g,.pointer (some p))) (A:g=true) (O:σ.ev y=some (g',c z)) (B:g'=true)
  (h:H[k]?=some (vec v E 1 (xs.map enc))) (G:Lw v i 1 p) (o:(c z).oneCell'=true) (L:(c z).cells=[c z].toArray) (hs:Dt P T 1)
  (kk:WK n K σ (Own M w0 (H.set k (vec v E 1 ((upd xs i z).map enc))))):EV P n ⟨none,.store T x y,U,pos,after,gd⟩ σ (Own M w0 H) K Q:=fun a w f j=>by
 refine .inl ?_;obtain⟨b,⟨X,V,rfl⟩,rfl,q,r,s⟩:=Ahl (P:=P) t (z:=z) (j.at k h) G o;obtain⟨R,hi,J⟩:=K7.1 hs
 have I:(execOp a.eval ⟨none,.store T x y,U,pos,after,gd⟩).run P w=.ok .skip (w.setCell ⟨b,i.toNat,none⟩ (c z)):=by
  simp[execOp,f.ev N A,f.ev O B,Instr.storeAt,Rb,storeVar,L,sizeOf,typeInfo,hi,J,storeCells,q,Ma]
 unfold Ii;rw[I];show K (a.put none undef) _;have C:b<w.heap.size:=Ff (j.at k h) b ⟨_,_,rfl⟩;refine kk a _ f (j.upd k h rfl rfl ⟨rfl,Co _⟩ (by simp[World.setCell]) (fun c l F=>s c fun e=>F (by subst e;exact⟨_,_,rfl⟩)) r fun c l=>?_);obtain⟨Y,W,m⟩:=l;simp only[Jh,Gs,Pj] at m;obtain⟨⟨rfl,_⟩,_⟩:=m;exact⟨.inl ⟨_,_,rfl⟩,by simpa[World.setCell] using C⟩
theorem EV.makeSlice {α:Type}{enc:α→List Al} (z:α) {dd sz bytes:Nat}{m:Int} (a8:dd<n) (a0:Xj P T E sz bytes) (b4:ZeroT P E (enc z)) (b3:σ.ev x=some (g,.int .i64 m)) (a3:g=true) (V:0≤m) (f:(enc z).length=sz) (t:AL m.toNat bytes)
  (kk:∀ u,SliceLen u (List.replicate m.toNat z).length→WK n K ((dd,(true,u))::σ) (Own M w0 (vec u E sz ((List.replicate m.toNat z).map enc)::H))):EV P n ⟨some dd,.makeSlice T x x,U,pos,after,gd⟩ σ (Own M w0 H) K Q:=fun a w A b2=>by
 refine .inl ?_;obtain⟨Y,hi,b1⟩:=a0;obtain⟨i,hi,o⟩:=K7.1 hi;simp only[T8] at o;obtain⟨b7,a6,a5⟩:=o;obtain⟨J,L,s,W,X⟩:=b4.out
 have:J=i:=by rw[hi] at s;cases s;rfl
 subst this;have a7:(m.toNat:Int)=m:=Aep V;obtain⟨w',c,I,k⟩:=run_make_full (P:=P) w w.heap.size T E J L sz Y hi W a6 .i64 .i64 m.toNat (by rw[a5];have:=t.2;rw[Rc];omega) t.1 (Co _);rw[a7] at c
 have b0:(execOp a.eval ⟨some dd,.makeSlice T x x,U,pos,after,gd⟩).run P w=.ok (.value (.slice (some ⟨w.heap.size,0,none⟩) m.toNat m.toNat)) w':=by
  simp[execOp,A.ev b3 a3,c,Rk]
 unfold Ii;rw[b0];show K (a.put (some dd) _) _
 have a9:(madeCells L.cells (m.toNat * sz)).toList=((List.replicate m.toNat z).map enc).flatten:=by
  rw[X];apply Xq;intro j
  have a2:((List.replicate m.toNat z).map enc).flatten.length=m.toNat * sz:=by
   rw[Dm (sz:=sz) (by intro r c;obtain⟨u,e,rfl⟩:=I7.1 c;rw[Adl] at e;rw[e.2,f])];simp
  by_cases p:j<m.toNat * sz
  ·have o:j / sz<m.toNat:=Aly (by rwa [Rc] at p)
   have a1:=Jw (sz:=sz) (rows:=(List.replicate m.toNat z).map enc) (i:=j / sz) (r:=enc z) (by intro r c;obtain⟨u,e,rfl⟩:=I7.1 c;rw[Adl] at e;rw[e.2,f]) (by simp[o]);have G:j % sz<sz:=Nat.mod_lt _ b1
   have O:((List.replicate m.toNat z).map enc).flatten[j]?=(enc z)[j % sz]?:=by
    have:(enc z)[j % sz]?=((((List.replicate m.toNat z).map enc).flatten.drop (j / sz * sz)).take (enc z).length)[j % sz]?:=by rw[a1]
    rw[this,Rp,f,Bj G,Ya,Rc,Agx]
   rw[O]
   have q:j % sz<(enc z).length:=by rw[f];exact G
   simp[madeCells,p,f,E7 q]
  ·have F:=Aas p
   rw[Q1 (by rw[Aaw,size_madeCells];exact F),Q1 (by rw[a2];exact F)]
 have C:(vec (.slice (some ⟨w.heap.size,0,none⟩) m.toNat m.toNat) E sz ((List.replicate m.toNat z).map enc)).holds w':=by
  refine⟨?_,fun r c=>?_⟩
  ·rw[←a9]
   have:((List.replicate m.toNat z).map enc).length=m.toNat:=Bf;rw[this];refine⟨I.1,?_⟩;rcases I.2 with h | ⟨R,c2,N,b5,c0,b6⟩
   ·exact .inl h
   ·exact .inr ⟨R,c2,N,b5,Aaq _,b6⟩
  ·obtain⟨u,e,rfl⟩:=I7.1 c
   rw[Adl] at e;rw[e.2,f]
 have a4:Grow w w':=⟨k.os,k.tape,⟨k.output,Va _ _ c⟩,k.size,fun b l=>k.block b l Bf⟩;refine kk _ ?_ _ _ (A.put a8 true _) (b2.push a4 _ C fun b l=>?_)
 ·exact⟨some ⟨w.heap.size,0,none⟩,m.toNat,Bf,fun _=>rfl,Bf⟩
 ·have q:=Ff C b l
  obtain⟨b9,b8,B⟩:=l;simp only[Jh,Gs,Pj] at B;obtain⟨⟨rfl,_⟩,_⟩:=B;exact⟨Co _,q⟩
def Ael:=@EV.makeSlice
end
theorem U3:∀ u:Int,Ar u=[Dv u]:=fun _=>rfl
end Go.Rd
end
section
namespace Go.Rd
open Go.RowKit
def Sm (h:Al):List Al:=[h]
theorem A0v:∀ u:Al,Sm u=[id u]:=fun _=>rfl
def L3:Al:=.slice none 0 0
def hat (hs:List Al) (i:Int):Al:=hs.getD i.toNat L3
def Rt (h:Al) (b:Nat):Prop:=∃ n c,h=.slice (some ⟨b,0,none⟩) n c
def updG (xss:List (List Int)) (i j:Int) (z:Int):List (List Int):=upd xss i (upd (ele xss i) j z)
def GL (hs:List Al) (xss:List (List Int)):Prop:=hs.length=xss.length∧∀ i:Nat,SliceLen (hs.getD i L3) (xss.getD i []).length
def Jb (v:Al) (hs:List Al) (E1 E2:TypeId) (xss:List (List Int)):Res where
 foot:=fun b=>Rt v b∨∃ i:Nat,i<hs.length∧Rt (hs.getD i L3) b
 holds:=fun w=>(vec v E1 1 (hs.map Sm)).holds w∧hs.length=xss.length∧(∀ i:Nat,i<hs.length→(vec (hs.getD i L3) E2 1 ((xss.getD i []).map Ar)).holds w) ∧
  (∀ i j:Nat,i<hs.length→j<hs.length→i≠j→∀ b,Rt (hs.getD i L3) b→¬Rt (hs.getD j L3) b)∧∀ i:Nat,i<hs.length→∀ b,Rt (hs.getD i L3) b→¬Rt v b
 stable:=fun w w' ⟨d,e,f,g,h⟩ c=>⟨(vec v E1 1 (hs.map Sm)).stable w w' d fun b a=>c b (.inl a),e,fun i hi=>(vec _ E2 1 _).stable w w' (f i hi) fun b a=>c b (.inr ⟨i,hi,a⟩),g,h⟩
section
variable {w : Ak} {v : Al} {hs : List Al} {E1 E2 : TypeId} {xss : List (List Int)} {i j : Int} {p : Addr}
theorem getD_some {α:Type}{l:List α}{d:α}{i:Nat} (h:i<l.length):l[i]?=some (l.getD i d):=by
 rw[Ec,E7 h];rfl
theorem A00 (xss:List (List Int)) (i:Int):ele xss i=xss.getD i.toNat []:=rfl
theorem Azl {v:Al}{E sz:Nat}{rows:List (List Al)} (h:(vec v E sz rows).holds w):SliceLen v rows.length:=(Cj h).len
theorem GL.ix (h:GL hs xss) (i:Int):SliceLen (hat hs i) (ele xss i).length:=h.2 i.toNat
theorem Iq {α:Type}{v:Al}{xs:List α}{i:Int}{z:α} (h:SliceLen v xs.length):SliceLen v (upd xs i z).length:=by rw[El];exact h
theorem U9 {v:Al}{xss:List (List Int)}{i j z:Int} (h:SliceLen v xss.length):SliceLen v (Rd.updG xss i j z).length:=by unfold Rd.updG;rw[El];exact h
theorem Uw {v:Al}{B:List (Al×List Int)}{xss:List (List Int)} (h:B.map (·.2)=xss) (hs:SliceLen v B.length):SliceLen v xss.length:=by subst h;rwa [Gl]
theorem GL.nil:GL [] []:=⟨rfl,fun _=>Gq⟩
theorem GL.snoc {u:Al}{xs:List Int} (h:GL hs xss) (c:SliceLen u xs.length):GL (hs++[u]) (xss++[xs]):=by
 refine⟨by simp[h.1],fun i=>?_⟩;rcases Nat.lt_trichotomy i hs.length with hi | hi | hi
 ·have a:(hs++[u]).getD i L3=hs.getD i L3:=by simp[Ec,Abx hi]
  have b:(xss++[xs]).getD i []=xss.getD i []:=by simp[Ec,Abx (h.1▸hi)]
  rw[a,b];exact h.2 i
 ·subst hi
  have a:(hs++[u]).getD hs.length L3=u:=by simp[Ec]
  have b:(xss++[xs]).getD hs.length []=xs:=by rw[h.1];simp[Ec]
  rw[a,b];exact c
 ·have a:(hs++[u]).getD i L3=L3:=by rw[Ec,Q1 (by simp;omega)];rfl
  have b:(xss++[xs]).getD i []=[]:=by rw[Ec,Q1 (by simp;have:=h.1;omega)];rfl
  rw[a,b];exact Gq
theorem N4 {α:Type}{l:List α}{d z:α}{k:Nat}{i:Int}:(upd l i z).getD k d=if i.toNat=k∧k<l.length then z else l.getD k d:=by
 unfold upd;rw[Ec,Aat,Ec];by_cases h:i.toNat=k
 ·subst h
  by_cases a:i.toNat<l.length
  ·simp[a]
  ·simp[a,Q1 (Aas a)]
 ·simp[h]
theorem GL.upd {u:Al}{xs:List Int} (h:GL hs xss) (a:SliceLen u xs.length) (i:Int):GL (upd hs i u) (upd xss i xs):=by
 refine⟨by simp[El,h.1],fun k=>?_⟩;rw[N4,N4,h.1];split
 ·exact a
 ·exact h.2 k
theorem GL.updG (h:GL hs xss) (i j z:Int):GL hs (updG xss i j z):=by
 refine⟨by simp[Rd.updG,El,h.1],fun k=>?_⟩;unfold Rd.updG;rw[N4];split
 ·rename_i a
  obtain⟨rfl,_⟩:=a;rw[El];exact h.2 i.toNat
 ·exact h.2 k
theorem A6z (n:Nat):GL (List.replicate n L3) (List.replicate n []):=by
 refine⟨Bf,fun i=>?_⟩
 have a:(List.replicate n L3).getD i L3=L3:=by simp only[Ec,Abv];split <;> rfl
 have b:(List.replicate n ([]:List Int)).getD i []=[]:=by simp only[Ec,Abv];split <;> rfl
 rw[a,b];exact Gq
theorem Aea (h:(Jb v hs E1 E2 xss).holds w):RowsA w v xss:=by
 obtain⟨c,l,d,m,n⟩:=h;refine⟨hs.zip xss,by rw[List.map_snd_zip Aa],?_,fun q g=>?_⟩
 ·have:=Cj c
  have e:(hs.zip xss).map Hy=hs.map Sm:=by
   have:(hs.zip xss).map Hy=((hs.zip xss).map (·.1)).map Sm:=by rw[List.map_map];rfl
   rw[this,List.map_fst_zip Aa]
  rw[e];exact this
 ·obtain⟨k,a,rfl⟩:=List.mem_iff_getElem.1 g
  have b:k<hs.length:=by simp at a;omega
  have f:k<xss.length:=by simp at a;omega
  have:=Cj (d k b);rw[Ec,E7 b,Ec,E7 f] at this;simpa using this
theorem A0x (h:(Jb v hs E1 E2 xss).holds w) (d:Lw v i 1 p) (hi:IX i (ln xss)):w.cell? p=some (hat hs i):=by
 obtain⟨a,c,_⟩:=h
 have b:i.toNat<hs.length:=by have:=hi.1;have:=hi.2;unfold ln at this;omega
 have:=(Cj a).row i.toNat [hs.getD i.toNat L3] p (by rw[Zz,getD_some b];rfl) (by rwa [Aep hi.1]);have h:=this.1;simpa[Ma,hat,Ec] using h
theorem A0y (h:(Jb v hs E1 E2 xss).holds w) (hi:IX i (ln xss)):Arr w (hat hs i) 1 ((ele xss i).map Ar):=by
 obtain⟨c,d,a,_⟩:=h
 have b:i.toNat<hs.length:=by have:=hi.1;have:=hi.2;unfold ln at this;omega
 exact Cj (a i.toNat b)
theorem Us {w w':Ak}{h:Al}{E sz:Nat}{rows:List (List Al)} (c:(vec h E sz rows).holds w) (a:∀ b,Rt h b→w'.heap[b]?=w.heap[b]?):(vec h E sz rows).holds w':=(vec h E sz rows).stable w w' c a
theorem A3a (h:(Jb v hs E1 E2 xss).holds w):∀ b,(Jb v hs E1 E2 xss).foot b→b<w.heap.size:=fun b a=>by
 rcases a with a | ⟨i,hi,a⟩
 ·exact Ff h.1 b a
 ·exact Ff (h.2.2.1 i hi) b a
end
section
variable {M : Nat → Prop} {w0 : Ak} {H : List Res} {v : Al} {hs : List Al} {E1 E2 : TypeId} {xss : List (List Int)} {i j : Int} {p : Addr}
theorem Fj (k:Nat) (a:H[k]?=some (Jb v hs E1 E2 xss)) (b:Lw v i 1 p) (hi:IX i (ln xss)):∀ w,Own M w0 H w→w.cell? p=some (hat hs i):=fun w c=>A0x (c.at k a) b hi
theorem Jq (k:Nat) (a:H[k]?=some (Jb v hs E1 E2 xss)) (hi:IX i (ln xss)):∀ w,Own M w0 H w→Arr w (hat hs i) 1 ((ele xss i).map Ar):=fun w b=>A0y (b.at k a) hi
theorem Own.gridNil {w:Ak} (h:Own M w0 H w) {E1 E2:TypeId}:Own M w0 (Jb L3 [] E1 E2 []::H) w:=by
 refine⟨h.1,⟨⟨Afq (α:=Al) (enc:=Sm),rfl,fun i hi=>absurd hi (Rn _),fun i j hi=>absurd hi (Rn _),fun i hi=>absurd hi (Rn _)⟩,fun b a=>?_,fun s _ b a=>?_⟩,h.2⟩
 ·rcases a with ⟨_,_,a⟩ | ⟨i,hi,_⟩
  ·simp[L3] at a
  ·exact absurd hi (Rn _)
 ·rcases a with ⟨_,_,a⟩ | ⟨i,hi,_⟩
  ·simp[L3] at a
  ·exact absurd hi (Rn _)
theorem Own.gridRep {w:Ak}{n:Nat} (h:Own M w0 (vec v E1 1 ((List.replicate n L3).map Sm)::H) w) (E2:TypeId):Own M w0 (Jb v (List.replicate n L3) E1 E2 (List.replicate n [])::H) w:=by
 obtain⟨e,⟨f,g,k⟩,l⟩:=h
 have d:∀ i:Nat,(List.replicate n L3).getD i L3=L3:=fun i=>by simp only[Ec,Abv];split <;> rfl
 have m:∀ i:Nat,(List.replicate n ([]:List Int)).getD i []=[]:=fun i=>by simp only[Ec,Abv];split <;> rfl
 have c:∀ i b,¬Rt ((List.replicate n L3).getD i L3) b:=fun i b ⟨_,_,a⟩=>by rw[d] at a;simp[L3] at a
 refine⟨e,⟨⟨f,Bf,fun i hi=>?_,fun i j _ _ _ b a=>absurd a (c i b),fun i _ b a=>absurd a (c i b)⟩,fun b a=>?_,fun s hs b a=>?_⟩,l⟩
 ·rw[d,m];exact Afq (α:=Int) (enc:=Ar)
 ·rcases a with a | ⟨i,_,a⟩
  ·exact g b a
  ·exact absurd a (c i b)
 ·rcases a with a | ⟨i,_,a⟩
  ·exact k s hs b a
  ·exact absurd a (c i b)
end
section
variable {P : Bz} {n : Nat} {σ : Env} {M : Nat → Prop} {w0 : Ak} {H : List Res} {d : Option Tmp} {T U E E1 E2 : TypeId} {pos : String} {after : Array Edge} {gd : Option (Nat × Bool)} {x y : En} {g g' : Bool} {v u yv : Al} {hs : List Al} {xss : List (List Int)} {xs : List Int}
 {K:Act→Ak→Prop}{Q:Exit→Act→Ak→Prop}{i j:Int}{p:Addr}{w:Ak}
theorem A0w (h:(Jb v hs E1 E2 xss).holds w) (hi:IX i (ln xss)) (F:Lw (hat hs i) j 1 p) (z:Int) :
  ∃ b,(Jb v hs E1 E2 xss).foot b∧(store p (Dv z)).run P w=.ok () (w.setCell p (Dv z))∧(Jb v hs E1 E2 (updG xss i j z)).holds (w.setCell p (Dv z))∧(∀ k,k≠b→(w.setCell p (Dv z)).heap[k]?=w.heap[k]?):=by
 obtain⟨t,A,o,q,r⟩:=h
 have a:i.toNat<hs.length:=by have:=hi.1;have:=hi.2;unfold ln at this;omega
 obtain⟨b,⟨K,J,B⟩,rfl,G,I,m⟩:=Ahl (P:=P) (c:=Dv) U3 (z:=z) (o i.toNat a) F rfl;have f:Rt (hs.getD i.toNat L3) b:=⟨K,J,B⟩;refine⟨b,.inr ⟨_,a,f⟩,G,⟨Us t fun c l=>m c fun e=>r _ a b f (e▸l),by simp[updG,El,A],fun k s=>?_,q,r⟩,m⟩;unfold updG;rw[N4];split
 ·rename_i e
  obtain⟨rfl,_⟩:=e;exact I
 ·rename_i e
  have C:¬i.toNat=k:=fun e'=>e ⟨e',Aa⟩;exact Us (o k s) fun c l=>m c fun e'=>q i.toNat k a s C b f (e'▸l)
theorem Vi (k:Nat) (z:Int) (O:σ.ev x=some (g,.pointer (some p))) (A:g=true) (R:σ.ev y=some (g',.int .i64 z)) (B:g'=true) (l:H[k]?=some (Jb v hs E1 E2 xss)) (hi:IX i (ln xss)) (I:Lw (hat hs i) j 1 p) (L:Dt P T 1)
  (kk:WK n K σ (Own M w0 (H.set k (Jb v hs E1 E2 (updG xss i j z))))):EV P n ⟨none,.store T x y,U,pos,after,gd⟩ σ (Own M w0 H) K Q:=fun a w f m=>by
 refine .inl ?_;obtain⟨b,t,o,r,s⟩:=A0w (P:=P) (m.at k l) hi I z;obtain⟨S,C,N⟩:=K7.1 L
 have J:(execOp a.eval ⟨none,.store T x y,U,pos,after,gd⟩).run P w=.ok .skip (w.setCell p (Dv z)):=by
  have q:(Go.store (p.add 0) (.int .i64 z)).run P w=.ok () (w.setCell p (Dv z)):=by simpa[Ma,Dv] using o
  simp[execOp,f.ev O A,f.ev R B,Instr.storeAt,Rb,storeVar,Ea,sizeOf,typeInfo,C,N,storeCells,q]
 unfold Ii;rw[J];show K (a.put none undef) _;have F:=A3a (m.at k l);exact kk a _ f (m.upd k l rfl rfl ⟨rfl,Co _⟩ (by simp[World.setCell]) (fun c h G=>s c fun e=>G (e▸t)) r fun c h=>⟨.inl h,by simpa[World.setCell] using F c h⟩)
theorem Own.two {r s:Res}{w:Ak} (h:Own M w0 (r::s::H) w):r.holds w∧s.holds w∧(∀ b,r.foot b→¬s.foot b):=⟨h.2.1.1,h.2.2.1.1,fun b a=>h.2.1.2.2 s Bf b a⟩
theorem Own.merge {r s t:Res}{w w':Ak} (h:Own M w0 (r::s::H) w) (C:w'.os=w.os) (I:w'.tape=w.tape) (F:w'.output=w.output∧w.drawn≤w'.drawn) (o:w.heap.size≤w'.heap.size)
  (m:∀ b,b<w.heap.size→¬r.foot b→¬s.foot b→w'.heap[b]?=w.heap[b]?) (G:t.holds w') (i:∀ b,t.foot b→(r.foot b∨s.foot b∨w.heap.size≤b)∧b<w'.heap.size):Own M w0 (t::H) w':=by
 obtain⟨k,⟨r1,p,z⟩,⟨J,A,B⟩,f⟩:=h;refine⟨k.trans ⟨C,I,F,o,fun b e l=>m b e (fun j=>l (p b j).1) fun hs=>l (A b hs).1⟩,⟨G,fun b e=>⟨?_,(i b e).2⟩,fun q a b e c=>?_⟩,?_⟩
 ·rcases (i b e).1 with h | h | h
  ·exact(p b h).1
  ·exact(A b h).1
  ·exact .inr (Nl k.size h)
 ·rcases (i b e).1 with h | h | h
  ·exact z q (Z3 _ a) b h c
  ·exact B q a b h c
  ·have:=(f.lt q a b c).2;omega
 ·exact f.change o fun q a b c=>m b (f.lt q a b c).2 (fun j=>z q (Z3 _ a) b j c) fun hs=>B q a b hs c
theorem Aqp (b2:σ.ev x=some (g,.pointer (some p))) (Y:g=true) (b3:σ.ev y=some (g',u)) (a0:g'=true) (a4:Lw v i 1 p) (hi:IX i (ln xss)) (I:SliceLen u xs.length) (a7:Dt P T 1)
  (kk:WK n K σ (Own M w0 (Jb v (upd hs i u) E1 E2 (upd xss i xs)::H))):EV P n ⟨none,.store T x y,U,pos,after,gd⟩ σ (Own M w0 (Jb v hs E1 E2 xss::vec u E2 1 (xs.map Ar)::H)) K Q:=fun a w m N=>by
 refine .inl ?_;obtain⟨⟨t,A,B,X,C⟩,L,o⟩:=N.two
 have b4:i.toNat<hs.length:=by have:=hi.1;have:=hi.2;unfold ln at this;omega
 have a3:(id u).oneCell'=true:=I.one;obtain⟨b,⟨R,O,rfl⟩,rfl,b0,a8,r⟩:=Ahl (P:=P) (c:=id) A0v (z:=u) t a4 a3;obtain⟨b5,a1,b1⟩:=K7.1 a7
 have a6:(execOp a.eval ⟨none,.store T x y,U,pos,after,gd⟩).run P w=.ok .skip (w.setCell ⟨b,i.toNat,none⟩ (id u)):=by
  have W:(Go.store ((⟨b,i.toNat,none⟩:Addr).add 0) u).run P w=.ok () (w.setCell ⟨b,i.toNat,none⟩ (id u)):=by simpa[Ma] using b0
  simp[execOp,m.ev b2 Y,m.ev b3 a0,Instr.storeAt,Rb,storeVar,I.cells,sizeOf,typeInfo,a1,b1,storeCells,W]
 unfold Ii;rw[a6];show K (a.put none undef) _;have s:Rt (.slice (some ⟨b,0,none⟩) R O) b:=⟨_,_,rfl⟩
 have a2:∀ c,Rt (.slice (some ⟨b,0,none⟩) R O) c→c=b:=fun c ⟨_,_,F⟩=>by simp at F;exact F.1.symm
 have J:∀ c,Rt u c→c≠b:=fun c f e=>o b (.inl s) (e▸f);refine kk a _ m (N.merge rfl rfl ⟨rfl,Co _⟩ (by simp[World.setCell]) (fun c f a5 hs=>r c fun e=>a5 (by subst e;exact .inl s)) ⟨a8,by simp[El,A],fun k h=>?_,fun k l h q G c f j=>?_,fun k h c f j=>?_⟩ fun c f=>?_)
 ·rw[El] at h
  rw[N4,N4,←A];split
  ·exact Us L fun c f=>r c (J c f)
  ·exact Us (B k h) fun c f=>r c fun e=>C k h c f (e▸s)
 ·rw[El] at h q
  rw[N4] at f j;split at f <;> split at j
  ·rename_i S V;exact G (S.1.symm.trans V.1)
  ·exact o c (.inr ⟨l,q,j⟩) f
  ·exact o c (.inr ⟨k,h,f⟩) j
  ·exact X k l h q G c f j
 ·rw[El] at h
  rw[N4] at f;split at f
  ·exact J c f (a2 c j)
  ·exact C k h c f j
 ·have a9:(w.setCell ⟨b,i.toNat,none⟩ (id u)).heap.size=w.heap.size:=by simp[World.setCell]
  rw[a9];rcases f with f | ⟨k,h,f⟩
  ·exact⟨.inl (.inl f),Ff t c f⟩
  ·rw[El] at h
   rw[N4] at f;split at f
   ·exact⟨.inr (.inl f),Ff L c f⟩
   ·exact⟨.inl (.inr ⟨k,h,f⟩),Ff (B k h) c f⟩
theorem Atb {dd bytes:Nat} (a9:dd<n) (a4:Xj P U E1 1 bytes) (b7:σ.ev x=some (g,v)) (a5:g=true) (b8:σ.ev y=some (g',yv)) (a6:g'=true) (b5:SliceLen u xs.length)
  (b1:∀ w,Own M w0 (Jb v hs E1 E2 xss::vec u E2 1 (xs.map Ar)::H) w→Arr w yv 1 [[u]]) (R:AL (xss++[xs]).length bytes) (b9:GL hs xss)
  (kk:∀ p,SliceLen p (xss++[xs]).length→WK n K ((dd,(true,p))::σ) (Own M w0 (Jb p (hs++[u]) E1 E2 (xss++[xs])::H))) :
  EV P n ⟨some dd,.call ⟨.builtin .append,#[x,y],#[U,U]⟩,T,pos,after,gd⟩ σ (Own M w0 (Jb v hs E1 E2 xss::vec u E2 1 (xs.map Ar)::H)) K Q:=fun a w G J=>by
 refine .inl ?_;obtain⟨⟨a2,s,z,a3,O⟩,B,A⟩:=J.two
 have X:(hs.map Sm).length=xss.length:=by simp[s]
 have S:=R.1;have V:=R.2;simp only[Ca,Lv] at S V;obtain⟨p,w',o,g1,a1,g3,g4,C,g6,F⟩:=Ta (T:=T) a4 a2 (b1 w J) (fun r o=>by simp at o;subst o;rfl) (fun r o c W=>by simp at o;subst o;simp at W;subst W;exact b5.one) (by rw[X];simpa using S) (by rw[X];simpa using V)
 have b3:(execOp a.eval ⟨some dd,.call ⟨.builtin .append,#[x,y],#[U,U]⟩,T,pos,after,gd⟩).run P w=.ok (.value p) w':=by
  simp[execOp,resolve,invoke,builtin,G.ev b7 a5,G.ev b8 a6,o,Rk]
 unfold Ii;rw[b3];show K (a.put (some dd) _) _
 have a8:hs.map Sm++[[u]]=(hs++[u]).map Sm:=by simp[Sm]
 rw[a8] at g1 F;have b2:∀ k,k<hs.length→∀ b,Rt (hs.getD k L3) b→w'.heap[b]?=w.heap[b]?:=fun k j b f=>g6 b (Ff (z k j) b f) (O k j b f);have b6:∀ b,Rt u b→w'.heap[b]?=w.heap[b]?:=fun b f=>g6 b (Ff B b f) fun I=>A b (.inl I) f
 have t:∀ k,k<(hs++[u]).length→(k<hs.length∧(hs++[u]).getD k L3=hs.getD k L3∧(xss++[xs]).getD k []=xss.getD k [])∨(k=hs.length∧(hs++[u]).getD k L3=u∧(xss++[xs]).getD k []=xs):=fun k j=>by
  rcases Vt k hs.length with h | h
  ·exact .inl ⟨h,by simp[Ec,Abx h],by simp[Ec,Abx (s▸h)]⟩
  ·have e:k=hs.length:=by simp at j;omega
   subst e;exact .inr ⟨rfl,by simp[Ec],by rw[s];simp[Ec]⟩
 have Y:∀ b,Rt p b→Rt v b∨w.heap.size≤b:=fun b f=>(F b f).1
 have b4:SliceLen p (xss++[xs]).length:=by
  have:=Azl g1;rw[Gl] at this;rwa [show (xss++[xs]).length=(hs++[u]).length from by simp[s]]
 refine kk p b4 _ _ (G.put a9 true _) (J.merge a1 g3 g4 C (fun b f o c0=>g6 b f fun I=>o (.inl I)) ⟨g1,by simp[s],fun k j=>?_,fun k l j a7 b0 b f q=>?_,fun k j b f q=>?_⟩ fun b f=>?_)
 ·rcases t k j with ⟨i,m,L⟩ | ⟨i,m,L⟩
  ·rw[m,L];exact Us (z k i) (b2 k i)
  ·rw[m,L];exact Us B b6
 ·rcases t k j with ⟨i,m,_⟩ | ⟨i,m,_⟩ <;> rcases t l a7 with ⟨r1,a0,_⟩ | ⟨r1,a0,_⟩ <;> rw[m] at f <;> rw[a0] at q
  ·exact a3 k l i r1 b0 b f q
  ·exact A b (.inr ⟨k,i,f⟩) q
  ·exact A b (.inr ⟨l,r1,q⟩) f
  ·omega
 ·rcases t k j with ⟨i,m,_⟩ | ⟨i,m,_⟩ <;> rw[m] at f
  ·rcases Y b q with h | h
   ·exact O k i b f h
   ·have:=Ff (z k i) b f;omega
  ·rcases Y b q with h | h
   ·exact A b (.inl h) f
   ·have:=Ff B b f;omega
 ·rcases f with f | ⟨k,j,f⟩
  ·rcases F b f with ⟨h | h,N⟩
   ·exact⟨.inl (.inl h),N⟩
   ·exact⟨.inr (.inr h),N⟩
  ·rcases t k j with ⟨i,m,_⟩ | ⟨i,m,_⟩ <;> rw[m] at f
   ·exact⟨.inl (.inr ⟨k,i,f⟩),Abu (Ff (z k i) b f) C⟩
   ·exact⟨.inr (.inl f),Abu (Ff B b f) C⟩
end
end Go.Rd
end
section
namespace Go.Rd
open Go.RowKit
theorem Ys {b off:Nat}{i:Int} (h:0≤i):(((⟨b,0,none⟩:Addr).add off).add (i.toNat * 1))=⟨b,((off:Int)+i).toNat,none⟩:=by
 rw[Hu];congr 1;omega
theorem Ve {b:Nat}{i:Int}:((⟨b,0,none⟩:Addr).add (i.toNat * 1))=⟨b,i.toNat,none⟩:=A3u b i.toNat
theorem U5 {b:Nat} (j:Nat):((⟨b,0,none⟩:Addr).add j)=⟨b,(j:Int).toNat,none⟩:=by
 rw[Tg];simp
section
variable {P : Bz} {n : Nat} {σ : Env} {C : Ak → Prop} {M : Nat → Prop} {w0 : Ak} {H : List Res} {d : Option Tmp} {T U E D : TypeId} {pos : String} {after : Array Edge} {gd : Option (Nat × Bool)} {x y : En} {g g' : Bool} {v : Al}
 {K:Act→Ak→Prop}{Q:Exit→Act→Ak→Prop}{α:Type}{c:α→Al}{xs:List α}{b:Nat}{i:Int}{q:Addr}
theorem Aej [Inhabited α] (k:Nat) (e:H[k]?=some (blk b (xs.map c) T)) (hi:IX i (ln xs)) (f:q=⟨b,i.toNat,none⟩):∀ w,Own M w0 H w→w.cell? q=some (c (ele xs i)):=fun w h=>by
 subst f
 have a:i.toNat<xs.length:=by have:=hi.1;have:=hi.2;unfold ln at this;omega
 refine Aq k e ?_ w h;rw[Zz,E7 a];simp[ele,Ec,E7 a]
theorem S8 {cs:List Al} (k:Nat) (e:H[k]?=some (blk b (xs.map c) T)) (a:xs.map c=cs):∀ w,Own M w0 H w→CellsAt w ⟨b,0,none⟩ cs 0:=a▸Ac k e
theorem Vj (k:Nat) (i:Int) (z:α) (o:σ.ev x=some (g,.pointer (some q))) (e:g=true) (p:σ.ev y=some (g',c z)) (f:g'=true) (h:H[k]?=some (blk b (xs.map c) E)) (l:q=⟨b,i.toNat,none⟩) (hi:IX i (ln xs))
  (m:(c z).cells=[c z].toArray) (j:(c z).oneCell'=true) (hs:Dt P T 1) (kk:WK n K σ (Own M w0 (H.set k (blk b ((upd xs i z).map c) E)))):EV P n ⟨none,.store T x y,U,pos,after,gd⟩ σ (Own M w0 H) K Q:=by
 have r:i.toNat<xs.length:=by have:=hi.1;have:=hi.2;unfold ln at this;omega
 refine EV.store k (vs:=[c z]) o e p f h l m hs (by simp;omega) (fun u a=>by simp at a;subst a;exact j) ?_;rw[show Nz (xs.map c) i.toNat [c z]=(upd xs i z).map c from by simp[Nz,upd,List.map_set]];exact kk
theorem A6o {α:Type} [Inhabited α] {l:List α}{i:Int} (h:IX i (ln l)):l[i.toNat]?=some (ele l i):=by
 have a:i.toNat<l.length:=by have:=h.1;have:=h.2;unfold ln at this;omega
 simp[ele,Ec,E7 a]
theorem Ks {k:IntKind}{s:List UInt8} (j:P.underlying U=some .string) (p:σ.ev x=some (g,B5 s)) (l:g=true) (q:σ.ev y=some (g',.int k i)) (m:g'=true) (hi:IX i (ln s)) :
  QV P ⟨d,.index U x y,T,pos,after,gd⟩ σ C (.int .u8 ((ele s i).toNat:Int)):=.of_run fun n a b w r=>by
 have f:=hi.1
 have o:(N1 s.toArray)[i.toNat]?=some (ele s i):=by
  have c:i.toNat<s.length:=by have:=hi.2;unfold ln at this;omega
  have h:i.toNat<(N1 s.toArray).size:=by simpa[ByteArray.size] using c
  have:=A6o hi;rw[E7 c] at this;rw[getElem?_pos (N1 s.toArray) i.toNat h]
  have e:(N1 s.toArray)[i.toNat]=s[i.toNat]:=by
   show (s.toArray)[i.toNat]'_=_;simp
  rw[e,this]
 simp[execOp,b.ev p l,b.ev q m,Instr.index,asIntOf,E5 j,f,B5,o]
end
theorem Az0 {u:Al}:∀ r∈[[u]],r.length=1:=fun r a=>by simp at a;subst a;rfl
def Acg (xs:List Int):Option (List Int):=ck (AL xs.length 8) (some xs)
def Z7 (ns:List Int):Opr:=⟨ns.getD 0 0,ns.getD 1 0,ns.getD 2 0,ns.getD 3 0,ns.getD 4 0,ns.getD 5 0,ns.getD 6 0,ns.getD 7 0,ns.getD 8 0,ns.getD 9 0⟩
theorem Aqc {ns:List Int} (h:ns.length=10):ns.map Dv=(Z7 ns).cells:=by
 match ns,h with
 | [_,_,_,_,_,_,_,_,_,_],_=>rfl
def Xb (ns:List Int):Tgt:=⟨ns.getD 0 0,ns.getD 1 0,ns.getD 2 0,ns.getD 3 0,ns.getD 4 0,ns.getD 5 0,ns.getD 6 0⟩
theorem Ae3 {ns:List Int} (h:ns.length=7):ns.map Dv=(Xb ns).cells:=by
 match ns,h with
 | [_,_,_,_,_,_,_],_=>rfl
end Go.Rd
end
section
namespace Go.Rd
theorem Ck {α:Type}{p:Prop} [Decidable p] {a b:α} (h:p):br (decide p) a b=a:=by rw[Ls h];rfl
theorem Cn {α:Type}{p:Prop} [Decidable p] {a b:α} (h:¬p):br (decide p) a b=b:=by rw[W7 h];rfl
theorem Aaa {α:Type}{c:Bool}{a b:α}:br c a b=if c=true then a else b:=by cases c <;> rfl
theorem Ay {α:Type}{n:Int}{x:Option α} (a:-9223372036854775808≤n) (b:n≤9223372036854775807):ck (IR n) x=x:=Ax ⟨a,b⟩
theorem A8 {α:Type}{i n:Int}{x:Option α} (a:0≤i) (b:i<n):ck (IX i n) x=x:=Ax ⟨a,b⟩
theorem Rz {α:Type}{i j n:Int}{x:Option α} (a:0≤i) (b:i≤j) (c:j≤n):ck (SX i j n) x=x:=Ax ⟨a,b,c⟩
theorem Z9 {α:Type}{n b:Nat}{x:Option α} (a:n≤9223372036854775807) (c:n * b≤140737488355328):ck (AL n b) x=x:=Ax ⟨a,c⟩
theorem A45 {α:Type}{l:List UInt8}{x:Option α} (a:l.length≤9223372036854775807):ck (SL l) x=x:=Ax a
theorem Fv {α:Type}{c:Bool}{p:Prop} [Decidable p] {x:Option α} (h:c=true→p):ck (c=true→p) x=x:=Ax h
@[simp] theorem bd_some' {α β:Type}{x:α}{k:α→Option β}:bd (some x) k=k x:=rfl
@[simp] theorem bdG_t {α β:Type} [Inhabited α] {m:Option α}{k:α→Option β}:bdG true m k=bd m k:=rfl
@[simp] theorem bdG_f {α β:Type} [Inhabited α] {m:Option α}{k:α→Option β}:bdG Az m k=k default:=rfl
theorem Dj {α:Type} [Inhabited α] (xs:List α) (i:Nat):ele xs (i:Int)=xs.getD i default:=rfl
theorem Awh {α:Type} (xs:List α):0≤ln xs:=by unfold ln;omega
theorem B4 {γ ρ:Type}{f:γ→Option (Stp γ ρ)}{g g':γ}{o:Out γ ρ} (h:f g=some (.next g')) (k:lp f g'=some o):lp f g=some o:=(Ly h).trans k
theorem Wf {α:Type} [Inhabited α] {p:α→Prop}{l:List α} (h:∀ x∈l,p x) {i:Nat} (hi:i<l.length):p (ele l i):=by
 have:ele l i=l[i]:=by simp[Rd.ele,Ec,E7 hi]
 rw[this];exact h _ (Vy hi)
theorem O4 {α:Type} (c b:Bool) (k:Bool→Option α):bdG c (some b) k=k (if c=true then b else Az):=by cases c <;> rfl
theorem V3 {f:Int→Option (Stp Int Bool)}{n:Nat}{p:Nat→Prop} (step:∀ i:Nat,i<n→(∀ j,j<i→p j)→(p i→f i=some (.next ((i:Int)+1)))∧(¬p i→f i=some (.ret Az))) (l:f n=some (.brk n)) :
  ((∀ i,i<n→p i)∧lp f 0=some (.go (n:Int)))∨(¬(∀ i,i<n→p i)∧lp f 0=some (.ret Az)):=by
 have key:∀ (m i:Nat),i+m=n→(∀ j,j<i→p j)→((∀ i,i<n→p i)∧lp f i=some (.go (n:Int)))∨(¬(∀ i,i<n→p i)∧lp f i=some (.ret Az)):=by
  intro m
  induction m with
  | zero =>
   intro i h d;have hi:i=n:=Aa;subst hi;exact .inl ⟨d,Db l⟩
  | succ m o =>
   intro i h d;obtain⟨e,k⟩:=step i Aa d;by_cases c:p i
   ·have hs:∀ j,j<i+1→p j:=fun j g=>by
     rcases Vt j i with h | h
     ·exact d j h
     ·have:j=i:=by omega
      subst this;exact c
    rcases o (i+1) Aa hs with ⟨a,b⟩ | ⟨a,b⟩
    ·exact .inl ⟨a,(Ly (e c)).trans b⟩
    ·exact .inr ⟨a,(Ly (e c)).trans b⟩
   ·exact .inr ⟨fun h=>c (h i Aa),Hw (k c)⟩
 exact key n 0 Aa (fun j g=>absurd g (Rn _))
theorem Kg {α:Type} [Inhabited α] {xs:List α}{i:Nat} (h:i<xs.length):xs.take (i+1)=xs.take i++[ele xs i]:=by
 rw[Ag4,E7 h,Option.toList_some];simp[ele,Ec,E7 h]
theorem Acp {α ρ:Type}{f:List α×Int→Option (Stp (List α×Int) ρ)}{n:Nat}{h:Nat→α} (step:∀ i:Nat,i<n→f ((List.range i).map h,(i:Int))=some (.next ((List.range i).map h++[h i],(i:Int)+1)))
  (a:f ((List.range n).map h,(n:Int))=some (.brk ((List.range n).map h,(n:Int)))):lp f ([],0)=some (.go ((List.range n).map h,(n:Int))):=by
 have key:∀ m i:Nat,i+m=n→lp f ((List.range i).map h,(i:Int))=some (.go ((List.range n).map h,(n:Int))):=by
  intro m
  induction m with
  | zero =>
   intro i hi;have:i=n:=Aa;subst this;exact Db a
  | succ m b =>
   intro i hi;refine B4 (step i Aa) ?_;have:=b (i+1) Aa;rw[Vx,Q0] at this;exact this
 exact key n 0 Aa
theorem Ad5 {α:Type} [Inhabited α] (l:List α):(List.range l.length).map (fun i:Nat=>ele l (i:Int))=l:=by
 apply Xq;intro i;by_cases h:i<l.length
 ·simp[h,Dj,Ec]
 ·simp[Q1 (Aas h),h]
theorem Aik {α β:Type} [Inhabited α] (l:List α) (g:α→β):(List.range l.length).map (fun i:Nat=>g (ele l (i:Int)))=l.map g:=by
 conv=>rhs;rw[←Ad5 l]
 rw[List.map_map];rfl
theorem Tl {ρ:Type}{f:Int→Option (Stp Int ρ)}{n:Nat}{p:Nat→Prop} (q:Nat→ρ):∀ (m s:Nat),s+m=n→(step:∀ i:Nat,s≤i→i<n→(p i→f i=some (.next ((i:Int)+1)))∧(¬p i→f i=some (.ret (q i))))→(l:f n=some (.brk n)) →
  ((∀ i,s≤i→i<n→p i)∧lp f s=some (.go (n:Int)))∨(∃ i,s≤i∧i<n∧¬p i∧(∀ j,s≤j→j<i→p j)∧lp f s=some (.ret (q i)))
 | 0,s,h,step,l=>by
  have:s=n:=Aa;subst this;exact .inl ⟨fun i o r=>Aa,Db l⟩
 | m+1,s,h,step,l=>by
  obtain⟨o,r⟩:=step s (Co _) Aa;by_cases g:p s
  ·rcases Tl q m (s+1) Aa (fun i a b=>step i Aa b) l with ⟨a,b⟩ | ⟨i,a,b,c,d,e⟩
   ·refine .inl ⟨fun i t k=>?_,(Ly (o g)).trans b⟩
    by_cases e:i=s
    ·subst e;exact g
    ·exact a i Aa k
   ·refine .inr ⟨i,Aa,b,c,fun j t k=>?_,(Ly (o g)).trans e⟩
    by_cases e:j=s
    ·subst e;exact g
    ·exact d j Aa k
  ·exact .inr ⟨s,Co _,Aa,g,fun j t k=>Aa,Hw (r g)⟩
theorem Pl {α ρ:Type}{f:α×Int→Option (Stp (α×Int) ρ)}{n:Nat} (Inv:Nat→α→Prop) (step:∀ (i:Nat) g,i<n→Inv i g→∃ g',f (g,(i:Int))=some (.next (g',(i:Int)+1))∧Inv (i+1) g') (k:∀ g,f (g,(n:Int))=some (.brk (g,(n:Int)))) (g0:α) (c:Inv 0 g0) :
  ∃ g,lp f (g0,0)=some (.go (g,(n:Int)))∧Inv n g:=by
 have key:∀ m i:Nat,i+m=n→∀ g,Inv i g→∃ g',lp f (g,(i:Int))=some (.go (g',(n:Int)))∧Inv n g':=by
  intro m
  induction m with
  | zero =>
   intro i hi g a;have:i=n:=Aa;subst this;exact⟨g,Db (k g),a⟩
  | succ m l =>
   intro i hi g a;obtain⟨g',d,e⟩:=step i g Aa a;obtain⟨b,h,j⟩:=l (i+1) Aa g' e;exact⟨b,B4 d h,j⟩
 exact key n 0 Aa g0 c
theorem Atm {α ρ:Type}{c:Bool}{a b:α}:br c (some (Out.go a:Out α ρ)) (some (Out.go b))=some (.go (if c=true then a else b)):=by cases c <;> rfl
theorem D9 {α:Type} [Inhabited α] {l:List α}{i:Nat} (h:i<l.length):ele l (i:Int)∈l:=by
 rw[Dj,Ec,E7 h];exact Vy h
theorem Qv {α:Type} [Inhabited α] {l:List α}{x:α} (h:x∈l):∃ i:Nat,i<l.length∧ele l (i:Int)=x:=by
 obtain⟨i,hi,rfl⟩:=Adm h;exact⟨i,hi,by rw[Dj,Ec,E7 hi];rfl⟩
theorem A2b {α:Type} (l:List α) (i:Int) (a b:α):upd (upd l i a) i b=upd l i b:=by unfold upd;rw[List.set_set]
theorem Aca {α:Type} [Inhabited α] {l:List α}{i:Int}{a:α} (h:IX i (ln l)):ele (upd l i a) i=a:=by
 have:i.toNat<l.length:=by have:=h.1;have:=h.2;unfold ln at this;omega
 unfold ele upd;rw[Ec,Aat];simp[this]
theorem Wq {α:Type} [Inhabited α] {l:List α}{i j:Int}{a:α} (h:i.toNat≠j.toNat):ele (upd l i a) j=ele l j:=by
 unfold ele upd;rw[Ec,Aat,Bg h,←Ec]
theorem Amd {α ρ:Type}{f:α×Int→Option (Stp (α×Int) ρ)}{n:Nat}{r0:ρ} (p:Nat→Prop) (Inv:Nat→α→Prop) (step:∀ (i:Nat) g,i<n→Inv i g→(p i∧∃ g',f (g,(i:Int))=some (.next (g',(i:Int)+1))∧Inv (i+1) g')∨(¬p i∧f (g,(i:Int))=some (.ret r0)))
  (u:∀ g,f (g,(n:Int))=some (.brk (g,(n:Int)))) (g0:α) (s:Inv 0 g0):((∀ i,i<n→p i)∧∃ g,lp f (g0,0)=some (.go (g,(n:Int)))∧Inv n g)∨(¬(∀ i,i<n→p i)∧lp f (g0,0)=some (.ret r0)):=by
 have key:∀ m i:Nat,i+m=n→(∀ j,j<i→p j)→∀ g,Inv i g→((∀ i,i<n→p i)∧∃ g',lp f (g,(i:Int))=some (.go (g',(n:Int)))∧Inv n g')∨(¬(∀ i,i<n→p i)∧lp f (g,(i:Int))=some (.ret r0)):=by
  intro m
  induction m with
  | zero =>
   intro i hi o g l;have:i=n:=Aa;subst this;exact .inl ⟨o,g,Db (u g),l⟩
  | succ m w =>
   intro i hi o g l;rcases step i g Aa l with ⟨k,g',d,t⟩ | ⟨k,d⟩
   ·have v:∀ j,j<i+1→p j:=fun j q=>by
     by_cases e:j=i
     ·subst e;exact k
     ·exact o j Aa
    rcases w (i+1) Aa v g' t with ⟨a,r,b,c⟩ | ⟨a,b⟩
    ·exact .inl ⟨a,r,(Ly d).trans b,c⟩
    ·exact .inr ⟨a,(Ly d).trans b⟩
   ·exact .inr ⟨fun h=>k (h i Aa),Hw d⟩
 exact key n 0 Aa (fun j q=>absurd q (Rn _)) g0 s
end Go.Rd
end
section
namespace Go.Rd
open Go.RowKit
section
variable {P : Bz} {n : Nat} {ops : Array Oper} {σ : Env} {C S : Ak → Prop}
def Z8 (R:Act→Ak→Prop) (Q:Exit→Act→Ak→Prop):Exit→Act→Ak→Prop
 | .normal=>R
 | e=>Q e
variable {Q : Exit → Act → Ak → Prop} {R : Act → Ak → Prop}
theorem Aah (h:LetsOut (Z8 R Q)):LetsOut Q:=let ⟨a,w,x⟩:=h;⟨a,w,x⟩
theorem Azk {o:Oper}{a:Act}{w:Ak}{K K':Act→Ak→Prop} (h:∀ a w,K a w→K' a w) (b:o.wp P a w K (Z8 R Q)):o.wp P a w K' Q:=by
 unfold Ii at *;generalize (execOp a.eval o).run P w=r at *
 cases r with
 | ok n w' =>
  cases n <;> simp only[Oper.upon] at b ⊢ <;>
   first
    | exact h _ _ b
    | exact Calls.mono b (fun e d c=>by cases e <;> first | exact h _ _ c | exact c | exact Aah c)
    | exact Rows.mono b (fun _ _ c=>h _ _ c)
 | halt x w'=>cases x <;> simp only[Oper.upon] at b ⊢ <;> exact b
theorem Ah9 {i:Nat}{a:Act}{w:Ak}{K K':Act→Ak→Prop} (h:∀ a w,K a w→K' a w) (b:wpOp P ops (Z8 R Q) i K a w):wpOp P ops Q i K' a w:=by
 unfold Go.wpOp at *;split
 ·exact h _ _ (by simpa[*] using b)
 ·rename_i o d
  simp only[d] at b;split
  ·rename_i c
   simp only[c,Nt] at b;exact b.imp (Azk h) fun ⟨x,y⟩=>⟨x,Aah y⟩
  ·rename_i c;simp only[c] at b;exact h _ _ b
theorem Ae2 {e:Region.Mode} (d:∀ a w,R a w→Q .normal a w):∀ (b:Nat) (c:Array Bool) (a:Act) (w:Ak),wpAny P e ops (Z8 R Q) b c a w→wpAny P e ops Q b c a w
 | 0,c,a,w,h=>⟨h.1,d a w h.2⟩
 | b+1,c,a,w,h=>⟨fun f=>d a w (h.1 f),fun i hi=>Ah9 (fun a w=>Ae2 d b _ a w) (h.2 i hi)⟩
theorem Wu {j:Region.Mode} (d:∀ a w,R a w→Q .normal a w):∀ (c:Nat) (S:Ak→Prop) (e:Array Bool) (C:Ak→Prop) (a:Act),Nu P j ops (Z8 R Q) S c e C a→Nu P j ops Q S c e C a
 | 0,S,e,C,a,h=>⟨h.1,fun w b=>d a w (h.2 w b)⟩
 | c+1,S,e,C,a,h=>by
  intro k;rcases h k with ⟨f,g⟩ | ⟨f,g⟩
  ·refine .inl ⟨fun m w b=>d a w (f m w b),fun i hi w b=>Ah9 (fun a w l=>?_) (g i hi w b)⟩
   obtain⟨C',S',o,p,q,r,x5⟩:=l;exact⟨C',S',o,p,q,r,Wu d c S' _ C' a x5⟩
  ·exact .inr ⟨f,fun w b=>Ae2 d _ _ a w (g w b)⟩
theorem Af1 {X:Type} (F:X→Prop) (c:Nat→X→Env) (b:Nat→X→Ak→Prop) {d:Nat}{e:Array Bool} (l:∀ g0 x,F x→WK n (Q .normal) (c g0 x) (b g0 x))
  (h:WD P n ops (Z8 (fun a w=>∃ g0 x,F x∧Has n a (c g0 x)∧b g0 x w) Q) S d e σ C):WD P n ops Q S d e σ C:=fun j a k =>
 Wu (fun a w ⟨g0,x,f,g,i⟩=>l g0 x f a w g i) _ _ _ _ _ (h j a k)
theorem Md {X:Type}{F:X→Prop}{c:Nat→X→Env}{b:Nat→X→Ak→Prop} (g0:Nat) (x:X) (d:F x) (hs:Sub σ (c g0 x)) (f:∀ w,C w→b g0 x w):WK n (Z8 (fun a w=>∃ g0 x,F x∧Has n a (c g0 x)∧b g0 x w) Q .normal) σ C:=fun a w e g=>⟨g0,x,d,e.sub hs,f w g⟩
theorem Aux (c:Nat→Nat→Env) (b:Nat→Nat→Ak→Prop) {d:Nat}{e:Array Bool} (k:∀ g0 g1,WK n (Q .normal) (c g0 g1) (b g0 g1))
  (h:WD P n ops (Z8 (fun a w=>∃ g0 g1,Has n a (c g0 g1)∧b g0 g1 w) Q) S d e σ C):WD P n ops Q S d e σ C:=fun i a j =>
 Wu (fun a w ⟨g0,g1,f,g⟩=>k g0 g1 a w f g) _ _ _ _ _ (h i a j)
theorem Ws {c:Nat→Nat→Env}{b:Nat→Nat→Ak→Prop} (g0 g1:Nat) (hs:Sub σ (c g0 g1)) (e:∀ w,C w→b g0 g1 w):WK n (Z8 (fun a w=>∃ g0 g1,Has n a (c g0 g1)∧b g0 g1 w) Q .normal) σ C:=fun a w d f=>⟨g0,g1,d.sub hs,e w f⟩
instance {R:Act→Ak→Prop}{Q:Exit→Act→Ak→Prop} [h:POk Q]:POk (Z8 R Q):=⟨h.ok⟩
variable {M : Nat → Prop} {w0 : Ak} {H : List Res}
def Anf (ops:Array Oper) (a:List Nat) (m k:Nat):Bool:=Region.ready .any ops (lst m k)==a&&!a.isEmpty
theorem WD.each (e:List Nat) (k:Nat) {m c:Nat} (b:Anf ops e m k=true)
  (h:∀ i∈e,∃ oi k',ops[i]?=some oi∧oi.guard=none∧(lst m k).setIfInBounds i true=lst m k' ∧
   EV P n oi σ (Own M w0 H) (fun f w'=>∃ C' S':Ak→Prop,Im C'∧(∀ x,C' x→S' x)∧(∀ x,S' x→S x)∧C' w'∧Nu P .any ops Q S' c (lst m k') C' f) Q):WD P n ops Q S (c+1) (lst m k) σ (Own M w0 H):=fun t a r=>by
 unfold Anf at b;simp only[Fa,Dk,Alr,List.isEmpty_eq_false_iff] at b;intro _;refine .inl ⟨fun g=>absurd (b.1.symm.trans g) b.2,fun j d w s=>?_⟩;rw[b.1] at d;obtain⟨oi,k',l,o,p,q⟩:=h j d;rw[p];unfold Go.wpOp;simp only[l];rw[Bj (by simp[Region.wanted,o])];exact q a w r s
def Amy (ops:Array Oper) (i m k k':Nat):Bool:=(lst m k).setIfInBounds i true==lst m k'
theorem WD.two {b c:Oper} (a i2 k f g:Nat) {m e:Nat} (s:Anf ops [a,i2] m k=true) (q:ops[a]?=some b) (r:ops[i2]?=some c) (g1:b.guard=none) (p:c.guard=none) (h:Amy ops a m k f=true) (j:Amy ops i2 m k g=true)
  (l:EV P n b σ (Own M w0 H) (fun d w'=>∃ C' S':Ak→Prop,Im C'∧(∀ x,C' x→S' x)∧(∀ x,S' x→S x)∧C' w'∧Nu P .any ops Q S' e (lst m f) C' d) Q)
  (o:EV P n c σ (Own M w0 H) (fun d w'=>∃ C' S':Ak→Prop,Im C'∧(∀ x,C' x→S' x)∧(∀ x,S' x→S x)∧C' w'∧Nu P .any ops Q S' e (lst m g) C' d) Q):WD P n ops Q S (e+1) (lst m k) σ (Own M w0 H) :=
 WD.each [a,i2] k s fun i hi=>by
  simp only[Gw,Agz,or_false] at hi;unfold Amy at h j;rcases hi with rfl | rfl
  ·exact⟨b,f,q,g1,Dk.1 h,l⟩
  ·exact⟨c,g,r,p,Dk.1 j,o⟩
end
end Go.Rd
end
section
namespace Go.Rd
open Go.RowKit Go.MapKept
section
variable {κ β : Type} [DecidableEq κ]
def Axm (m:List (κ×β)) (k:κ):Bool:=m.any fun p=>Ap (p.1=k)
def Fz (m:List (κ×β)) (k:κ) (d:β):β:=match m.find? (fun p=>Ap (p.1=k)) with
 | some p=>p.2
 | none=>d
def Oi (m:List (κ×β)) (k:κ) (v:β):List (κ×β):=match m with
 | []=>[(k,v)]
 | p::r=>if p.1=k then (k,v)::r else p::Oi r k v
theorem A0i {k:κ}{d:β}:Fz ([]:List (κ×β)) k d=d:=rfl
theorem O3 {p:κ×β}{m:List (κ×β)}{k:κ}{d:β}:Fz (p::m) k d=if p.1=k then p.2 else Fz m k d:=by
 unfold Fz;rw[List.find?_cons];by_cases h:p.1=k <;> simp[h]
theorem O2 {m:List (κ×β)}{k k':κ}{v d:β}:Fz (Oi m k v) k' d=if k=k' then v else Fz m k' d:=by
 induction m with
 | nil=>unfold Oi;rw[O3]
 | cons p m b =>
  unfold Oi;by_cases h:p.1=k
  ·rw[Bj h,O3,O3]
   subst h;by_cases a:p.1=k' <;> simp[a]
  ·rw[Bg h,O3,O3,b]
   by_cases a:p.1=k'
   ·have:¬k=k':=fun e=>h (a.trans e.symm)
    simp[a,this]
   ·simp[a]
end
def kI (n:Int):Al:=.int .i64 n
def kP (p:Int×Int):Al:=.agg #[.int .i64 p.1,.int .i64 p.2]
def bv (b:Bool):Al:=.bool b
structure KeyT (P:Bz) {κ:Type} [DecidableEq κ] (K:TypeId) (ke:κ→Al):Prop where
 check:∀ k w b,(Agw b 10000 K (ke k)).run P w=.ok () w
 find:∀ (k:κ) w (es:List MapEntry) (ks:List κ),es.map (·.key)=ks.map ke→∃ r,(Instr.findKey K (ke k) es).run P w=.ok r w ∧
  ((r=none∧∀ j∈ks,j≠k)∨(∃ i e,r=some (i,e.val)∧es[i]?=some e∧ks[i]?=some k∧∀ j<i,ks[j]?≠some k))
 same:∀ k,Instr.sameBits 10000 (ke k) (ke k)=true
theorem Afa {P:Bz}{κ:Type} [DecidableEq κ] {K:TypeId}{ke:κ→Al} (l:∀ a b w,(Op.equal K (ke a) (ke b)).run P w=.ok (Ap (b=a)) w) (k:κ) (w:Ak):∀ (es:List MapEntry) (ks:List κ) (n:Nat),es.map (·.key)=ks.map ke →
  ∃ r,(Ag2 K (ke k) es n).run P w=.ok r w∧((r=none∧∀ j∈ks,j≠k)∨(∃ i e,r=some (n+i,e.val)∧es[i]?=some e∧ks[i]?=some k∧∀ j<i,ks[j]?≠some k))
 | [],[],n,_=>⟨none,by simp[Ag2],.inl ⟨rfl,fun j f=>by cases f⟩⟩
 | [],_::_,n,h=>by simp at h
 | _::_,[],n,h=>by simp at h
 | e::es,k'::ks,n,h=>by
  simp only[Vv,List.cons.injEq] at h;have m:=l k k' w;by_cases g:k'=k
  ·subst g
   refine⟨some (n,e.val),?_,.inr ⟨0,e,rfl,rfl,rfl,fun j f=>Aa⟩⟩;simp[Ag2,h.1,m]
  ·obtain⟨r,p,o⟩:=Afa l k w es ks (n+1) h.2
   refine⟨r,?_,?_⟩
   ·simp[Ag2,h.1,m,g,p]
   ·rcases o with ⟨a,b⟩ | ⟨i,e',a,b,c,d⟩
    ·exact .inl ⟨a,fun j f=>by rcases Gw.1 f with rfl | f;exact g;exact b j f⟩
    ·refine .inr ⟨i+1,e',by rw[a];congr 2;omega,by simpa using b,by simpa using c,fun j f=>?_⟩
     cases j with
     | zero=>simpa using g
     | succ j=>simpa using d j Aa
theorem Apn {P:Bz}{K:TypeId}{t:IntKind} (k:Int):∀ (es:List MapEntry) (ks:List Int) (n:Nat),es.map (·.key)=ks.map kI →
  ∃ r,Aar (.int t) (kI k) es n=some r∧((r=none∧∀ j∈ks,j≠k)∨(∃ i e,r=some (n+i,e.val)∧es[i]?=some e∧ks[i]?=some k∧∀ j<i,ks[j]?≠some k))
 | [],[],n,_=>⟨none,by simp[Aar],.inl ⟨rfl,fun j f=>by cases f⟩⟩
 | [],_::_,n,h=>by simp at h
 | _::_,[],n,h=>by simp at h
 | e::es,k'::ks,n,h=>by
  simp only[Vv,List.cons.injEq] at h;by_cases g:k'=k
  ·subst g
   exact⟨some (n,e.val),by simp[Aar,h.1,kI,Instr.sameNow],.inr ⟨0,e,rfl,rfl,rfl,fun j f=>Aa⟩⟩
  ·obtain⟨r,l,m⟩:=Apn (P:=P) (K:=K) (t:=t) k es ks (n+1) h.2
   refine⟨r,?_,?_⟩
   ·have o:(k==k')=Az:=by simp;exact fun e=>g e.symm
    unfold kI at l;simp[Aar,h.1,kI,Instr.sameNow,o,l]
   ·rcases m with ⟨a,b⟩ | ⟨i,e',a,b,c,d⟩
    ·exact .inl ⟨a,fun j f=>by rcases Gw.1 f with rfl | f;exact g;exact b j f⟩
    ·refine .inr ⟨i+1,e',by rw[a];congr 2;omega,by simpa using b,by simpa using c,fun j f=>?_⟩
     cases j with
     | zero=>simpa using g
     | succ j=>simpa using d j Aa
theorem KeyT.int {P:Bz}{K:TypeId} (h:P.underlying K=some (.int .i64)):KeyT P K kI where
 check:=fun k w b=>by rw[show (10000:Nat)=9999+1 from rfl,Agw];simp[E5 h,kI]
 find:=fun k w es ks d=>by
  obtain⟨r,a,c⟩:=Apn (P:=P) (K:=K) (t:=.i64) k es ks 0 d;refine⟨r,by rw[run_findKey h a],?_⟩;simpa using c
 same:=fun k=>by simp[kI,Instr.sameBits]
theorem Axd {P:Bz}{K I:TypeId} (h:P.underlying K=some (.array 2 I)) (f:P.underlying I=some (.int .i64)) (hs:(P.info? I).map (·.size)=some 1):KeyT P K kP where
 check:=fun k w b=>by
  have g:(isAgg I).run P w=.ok Az w:=by simp[isAgg,E5 f]
  have i:=S0 (w:=w) hs
  have m:∀ n:Int,(Agw b 9999 I (.int .i64 n)).run P w=.ok () w:=fun n=>by rw[show (9999:Nat)=9998+1 from rfl,Agw];simp[E5 f]
  rw[show (10000:Nat)=9999+1 from rfl,Agw];simp only[Uk,E5 h,Um,kP,Ayd,Std.Legacy.Range.size,Nat.sub_zero,Nat.add_one_sub_one,Nat.div_one];simp[List.range',i,part,g,m]
 find:=fun k w es ks o=>by
  have p:∀ a b w,(Op.equal K (kP a) (kP b)).run P w=.ok (Ap (b=a)) w:=fun a b w=>by
   have g:(isAgg I).run P w=.ok Az w:=by simp[isAgg,E5 f]
   have i:=S0 (w:=w) hs;have l:∀ x y:Int,(T3 9999 I (.int .i64 x) (.int .i64 y)).run P w=.ok (x==y) w:=fun x y=>run_equalIn_int (P:=P) (w:=w) 9998 I .i64 .i64 x y f;obtain⟨j,a2⟩:=a;obtain⟨b1,b2⟩:=b;simp only[Op.equal,Op.maxDepth,kP];rw[T3];simp only[Uk,E5 h,Um,Ayd,Std.Legacy.Range.size,Nat.sub_zero,Nat.add_one_sub_one,Nat.div_one];simp[List.range',i,part,g,l];by_cases c:j=b1
   ·subst c
    by_cases d:a2=b2
    ·subst d;simp
    ·have:¬b2=a2:=fun e=>d e.symm
     simp[d,this]
   ·have:¬b1=j:=fun e=>c e.symm
    simp[c,this]
  obtain⟨r,c,d⟩:=Afa p k w es ks 0 o
  have s:∀ es:List MapEntry,es≠[]→Aar (.array 2 I) (kP k) es 0=none:=fun es q=>by
   cases es with
   | nil=>exact absurd rfl q
   | cons e es=>simp[Aar,Instr.sameNow]
  refine⟨r,?_,by simpa using d⟩
  cases es with
  | nil =>
   have:r=none:=by simpa[Ag2] using c.symm
   subst this;simp[Instr.findKey,E5 h,Aar]
  | cons e es=>simp[Instr.findKey,E5 h,s (e::es) Bf,c]
 same:=fun k=>by simp[kP,Instr.sameBits]
end Go.Rd
namespace Go.Rd
open Go.RowKit Go.MapKept
section
variable {κ β : Type} {ke : κ → Al} {ve : β → Al}
structure MapOk (ke:κ→Al) (ve:β→Al) (es:Array MapEntry) (c:Nat) (L:List (κ×β)):Prop where
 size:es.size=L.length
 ent:∀ (i:Nat) (p:κ×β),L[i]?=some p→∃ n,es[i]?=some (MapEntry.mk (ke p.1) (ve p.2) n)∧n<c
 born:∀ (i j:Nat) (e e':MapEntry),es[i]?=some e→es[j]?=some e'→e.born=e'.born→i=j
theorem MapOk.nil:MapOk ke ve #[] 0 ([]:List (κ×β)):=⟨rfl,fun i p h=>by simp at h,fun i j e e' h=>by simp at h⟩
theorem MapOk.keys {es:Array MapEntry}{c:Nat}{L:List (κ×β)} (h:MapOk ke ve es c L):es.toList.map (·.key)=(L.map (·.1)).map ke:=by
 apply Xq;intro i;simp only[Zz,Aeq]
 cases a:L[i]? with
 | none =>
  have:es[i]?=none:=by
   rw[Array.getElem?_eq_none_iff,h.size];exact List.getElem?_eq_none_iff.1 a
  simp[this]
 | some p =>
  obtain⟨n,b,_⟩:=h.ent i p a;simp[b]
theorem MapOk.setVal {es:Array MapEntry}{c:Nat}{L:List (κ×β)} (h:MapOk ke ve es c L) {i:Nat}{k:κ}{v:β} (t:∃ p:κ×β,L[i]?=some p∧p.1=k):MapOk ke ve (es.modify i fun e=>{ e with val:=ve v }) c (L.set i (k,v)):=by
 obtain⟨p,w,rfl⟩:=t;refine⟨by simp[h.size],fun j q d=>?_,fun a b e e' g l r=>?_⟩
 ·rw[Aat] at d
  rw[Aer];by_cases m:i=j
  ·subst m
   obtain⟨n,u,s⟩:=h.ent i p w;split at d
   ·split at d
    ·cases d;exact⟨n,by simp[u],s⟩
    ·cases d
   ·contradiction
  ·rw[Bg m] at d ⊢
   exact h.ent j q d
 ·rw[Aer] at g l
  have key:∀ a e,(if i=a then Option.map (fun e:MapEntry=>{ e with val:=ve v }) es[a]? else es[a]?)=some e→∃ f,es[a]?=some f∧f.born=e.born:=fun a e h=>by
   split at h
   ·cases d:es[a]? with
    | none=>simp[d] at h
    | some f=>simp[d] at h;exact⟨f,rfl,by rw[←h]⟩
   ·exact⟨e,h,rfl⟩
  obtain⟨f,x,y⟩:=key a e g;obtain⟨o,z,A⟩:=key b e' l;exact h.born a b f o x z (by rw[y,A,r])
theorem MapOk.push {es:Array MapEntry}{c:Nat}{L:List (κ×β)} (h:MapOk ke ve es c L) (k:κ) (v:β):MapOk ke ve (es.push { key:=ke k,val:=ve v,born:=c }) (c+1) (L++[(k,v)]):=by
 have old:∀ (i:Nat) (e:MapEntry),es[i]?=some e→e.born<c:=fun i e p=>by
  have o:i<L.length:=by rw[←h.size];exact(Rs.1 p).1
  obtain⟨n,d,f⟩:=h.ent i L[i] (E7 o);rw[p] at d;cases d;exact f
 refine⟨by simp[h.size],fun j q g=>?_,fun a b e e' d f m=>?_⟩
 ·rw[Array.getElem?_push]
  by_cases l:j=es.size
  ·rw[Bj l]
   have:q=(k,v):=by
    rw[l,h.size] at g;simpa using g.symm
   subst this;exact⟨c,rfl,Aa⟩
  ·rw[Bg l]
   have o:j<L.length:=by
    have:=(Abw.1 g).1;simp at this;rw[h.size] at l;omega
   rw[Abx o] at g;obtain⟨n,r,s⟩:=h.ent j q g;exact⟨n,r,Aa⟩
 ·rw[Array.getElem?_push] at d f
  split at d <;> split at f
  ·omega
  ·cases d;have:=old b e' f;simp only at m;omega
  ·cases f;have:=old a e d;simp only at m;omega
  ·exact h.born a b e e' d f m
def Xi (b:Nat) (ke:κ→Al) (ve:β→Al) (L:List (κ×β)):Res where
 foot:=fun x=>x=b
 holds:=fun w=>∃ es c,w.heap[b]?=some (.map es c)∧MapOk ke ve es c L
 stable:=fun w w' ⟨es,c,h,a⟩ d=>⟨es,c,(d b rfl).trans h,a⟩
theorem MapOk.find {es:Array MapEntry}{c:Nat}{L:List (κ×β)} (h:MapOk ke ve es c L) {i:Nat}{e:MapEntry} (b:es[i]?=some e):es.findIdx? (fun x=>(x.born:Int)==(e.born:Int))=some i:=by
 obtain⟨hi,rfl⟩:=Rs.1 b;rw[Array.findIdx?_eq_some_iff_getElem];refine⟨hi,Bf,fun j f a=>?_⟩;have d:j<es.size:=Aa;have:=h.born j i _ _ (Adr d) (Adr hi) (by simp at a;omega);omega
variable [DecidableEq κ]
theorem Afu {k:κ}{d:β}:∀ {L:List (κ×β)}{i:Nat},(L.map (·.1))[i]?=some k→(∀ j<i,(L.map (·.1))[j]?≠some k)→∃ p:κ×β,L[i]?=some p∧p.1=k∧Fz L k d=p.2
 | [],i,h,_=>by simp at h
 | p::L,0,h,_=>by
  simp at h;exact⟨p,rfl,h,by rw[O3,Bj h]⟩
 | p::L,i+1,h,hj=>by
  have a:¬p.1=k:=by simpa using hj 0 Aa
  obtain⟨q,b,c,e⟩:=Afu (k:=k) (d:=d) (L:=L) (i:=i) (by simpa using h) (fun j f=>by simpa using hj (j+1) Aa);exact⟨q,by simpa using b,c,by rw[O3,Bg a,e]⟩
theorem Ahx {k:κ}{d:β}:∀ {L:List (κ×β)},(∀ j∈L.map (·.1),j≠k)→Fz L k d=d
 | [],_=>rfl
 | p::L,h=>by
  rw[O3,Bg (h p.1 Bf),Ahx fun j a=>h j (by simp at a ⊢;exact .inr a)]
theorem Am4 {k:κ}{v:β}:∀ {L:List (κ×β)}{i:Nat},(L.map (·.1))[i]?=some k→(∀ j<i,(L.map (·.1))[j]?≠some k)→Oi L k v=L.set i (k,v)
 | [],i,h,_=>by simp at h
 | p::L,0,h,_=>by
  simp at h;simp[Oi,h]
 | p::L,i+1,h,hj=>by
  have a:¬p.1=k:=by simpa using hj 0 Aa
  unfold Oi;rw[Bg a,List.set_cons_succ,Am4 (L:=L) (i:=i) (by simpa using h) (fun j b=>by simpa using hj (j+1) Aa)]
theorem Aco {k:κ}{v:β}:∀ {L:List (κ×β)},(∀ j∈L.map (·.1),j≠k)→Oi L k v=L++[(k,v)]
 | [],_=>rfl
 | p::L,h=>by
  unfold Oi;rw[Bg (h p.1 Bf),Aco fun j a=>h j (by simp at a ⊢;exact .inr a)];rfl
def Alc (b:Nat) (ke:κ→Al) (ve:β→Al) (a:β) (L:List (κ×β)):Res where
 foot:=fun x=>x=b
 holds:=fun w=>∃ L',(Xi b ke ve L').holds w∧∀ key,Fz L' key a=Fz L key a
 stable:=fun w w' ⟨L',h,c⟩ d=>⟨L',(Xi b ke ve L').stable w w' h d,c⟩
def Arv (b:Nat) (ke:κ→Al) (ve:β→Al) (a:β) (L:List (κ×β)) (k:κ) (s:Nat):Res where
 foot:=fun x=>x=b
 holds:=fun w=>∃ es c i,w.heap[b]?=some (.map es c)∧(∃ L',MapOk ke ve es c L'∧∀ key,Fz L' key a=Fz L key a)∧es.findIdx? (fun e=>(e.born:Int)==(s:Int))=some i∧∀ v,MapOk ke ve (es.modify i fun e=>{ e with val:=ve v }) c (Oi L k v)
 stable:=fun w w' ⟨es,c,i,h,d⟩ f=>⟨es,c,i,(f b rfl).trans h,d⟩
end
section
variable {P : Bz} {n : Nat} {σ : Env} {M : Nat → Prop} {w0 : Ak} {H : List Res} {d : Option Tmp} {T U E Kt : TypeId} {pos : String} {after : Array Edge} {gd : Option (Nat × Bool)} {x y z : En} {g g' g'' : Bool} {v : Al}
 {K:Act→Ak→Prop}{Q:Exit→Act→Ak→Prop}{κ β:Type}{ke:κ→Al}{ve:β→Al}{L:List (κ×β)}{b:Nat}
def Aq1 (P:Bz) (U Kt E:TypeId):Prop:=P.underlying U=some (.map Kt E)
def Ale (P:Bz) (E:TypeId) (v:Al):Prop:=((P.info? E).map fun i=>i.zero)=some (some v)
theorem Aj8 {w:Ak} (h:Ale P E v):(zeroValue E).run P w=.ok v w:=by
 obtain⟨i,hi,a⟩:=K7.1 h;simp[zeroValue,typeInfo,hi,a]
theorem EV.makeMap {dd:Nat} (f:dd<n) (kk:∀ b,WK n K ((dd,(true,.map (some b)))::σ) (Own M w0 (Xi b ke ve ([]:List (κ×β))::H))):EV P n ⟨some dd,.makeMap U none,T,pos,after,gd⟩ σ (Own M w0 H) K Q:=fun a w c i=>by
 refine .inl ?_
 have h:(execOp a.eval ⟨some dd,.makeMap U none,T,pos,after,gd⟩).run P w=.ok (.value (.map (some w.heap.size))) (w.alloc (.map #[] 0)):=by
  simp[execOp,Instr.makeMap,newObj,Jg,Rk]
 unfold Ii;rw[h];show K (a.put (some dd) _) _;refine kk w.heap.size _ _ (c.put f true _) (i.push (w':=w.alloc (.map #[] 0)) ?_ (Xi w.heap.size ke ve []) ⟨#[],0,Adh w _,MapOk.nil⟩ ?_)
 ·exact Aqq _
 ·intro b e
  cases e
  simp
def An4:=@EV.makeMap
variable [DecidableEq κ]
theorem Aij {w:Ak}{k:κ}{a:β}{ok:Bool} (q:Aq1 P U Kt E) (l:KeyT P Kt ke) (N:Ale P E (ve a)) (h:(Xi b ke ve L).holds w):(Instr.lookup U (.map (some b)) (ke k) ok).run P w=.ok (if ok then .tuple #[ve (Fz L k a),.bool (Axm L k)] else ve (Fz L k a)) w:=by
 obtain⟨es,c,G,o⟩:=h;obtain⟨r,j,F⟩:=l.find k w es.toList (L.map (·.1)) o.keys
 have u:(getObj b).run P w=.ok (.map es c) w:=by simp[getObj,Jg,G]
 have s:=l.check k w es.isEmpty;unfold Instr.lookup;rcases F with ⟨rfl,A⟩ | ⟨i,e,rfl,t,J,I⟩
 ·have C:Fz L k a=a:=Ahx A
  have f:Axm L k=Az:=by
   unfold Axm;rw[List.any_eq_false];intro p K;simpa using A p.1 (Ag7 K)
  simp[E5 q,u,s,j,Aj8 N,C,f]
 ·obtain⟨p,B,O,Q⟩:=Afu (d:=a) J I
  obtain⟨m,R,_⟩:=o.ent i p B
  have:e.val=ve p.2:=by rw[Aeq,R] at t;cases t;rfl
  have f:Axm L k=true:=by
   unfold Axm;rw[List.any_eq_true];exact⟨p,Xs B,by simpa using O⟩
  simp[E5 q,u,s,j,Q,this,f]
theorem QV.lookup {k:κ} (j:Nat) (c:β) (h:Aq1 P U Kt E) (f:KeyT P Kt ke) (r:Ale P E (ve c)) (p:σ.ev x=some (g,.map (some b))) (i:g=true) (q:σ.ev y=some (g',ke k)) (l:g'=true) (m:H[j]?=some (Xi b ke ve L)) :
  QV P ⟨d,.lookup U x y Az,T,pos,after,gd⟩ σ (Own M w0 H) (ve (Fz L k c)):=.of_run fun n a e w o=>by
 have:=Aij (k:=k) (ok:=Az) h f r (o.at j m);simp only[execOp,e.ev p i,e.ev q l,Uk,this,Um,T6];rfl
theorem Yp {w:Ak}{o:Obj}{c:Res}{j:Nat}{r:Res} (q:Own M w0 H w) (k:H[j]?=some r) (h:∀ x,r.foot x↔x=b) (i:∀ x,c.foot x↔x=b) {s:Obj} (f:w.heap[b]?=some s) (p:c.holds { w with heap:=w.heap.setIfInBounds b o }) :
  Own M w0 (H.set j c) { w with heap:=w.heap.setIfInBounds b o }:=by
 have l:b<w.heap.size:=(Rs.1 f).1;refine q.upd j k rfl rfl ⟨rfl,Co _⟩ Bf (fun x a m=>?_) p fun x a=>?_
 ·exact(heap_set f).2 x fun e=>m ((h x).2 e)
 ·exact⟨.inl ((h x).2 ((i x).1 a)),by rw[(i x).1 a];simpa using l⟩
theorem EV.mapEntry {dd:Nat} (a0:dd<n) (k:κ) (j:Nat) (f:β) (N:Aq1 P U Kt E) (u:KeyT P Kt ke) (a9:Ale P E (ve f)) (a1:σ.ev x=some (g,.map (some b))) (S:g=true) (a2:σ.ev y=some (g',ke k)) (V:g'=true) (B:H[j]?=some (Xi b ke ve L))
  (kk:∀ s:Nat,WK n K ((dd,(true,.tuple #[ve (Fz L k f),.int .i64 s]))::σ) (Own M w0 (H.set j (Arv b ke ve f L k s)))):EV P n ⟨some dd,.mapEntry U x y,T,pos,after,gd⟩ σ (Own M w0 H) K Q:=fun a w o G=>by
 refine .inl ?_;obtain⟨es,c,l,h⟩:=G.at j B;obtain⟨r,J,a4⟩:=u.find k w es.toList (L.map (·.1)) h.keys
 have W:(getObj b).run P w=.ok (.map es c) w:=by simp[getObj,Jg,l]
 have O:=u.check k w Az;rcases a4 with ⟨rfl,C⟩ | ⟨i,e,rfl,R,Y,X⟩
 ·have I:Fz L k f=f:=Ahx C
  have F:(execOp a.eval ⟨some dd,.mapEntry U x y,T,pos,after,gd⟩).run P w=.ok (.value (.tuple #[ve (Fz L k f),.int .i64 c])) { w with heap:=w.heap.setIfInBounds b (.map (es.push { key:=ke k,val:=ve f,born:=c }) (c+1)) }:=by
   simp[execOp,Instr.mapEntry,o.ev a1 S,o.ev a2 V,E5 N,W,O,J,Aj8 a9,run_setObj_map _ l,I,goInt,Rk]
  unfold Ii;rw[F];show K (a.put (some dd) _) _;have A:=h.push k f;refine kk c _ _ (o.put a0 true _) (Yp G B (fun _=>Om) (fun _=>Om) l ⟨_,_,es.size,(heap_set l).1,⟨_,A,fun key=>?_⟩,?_,fun v=>?_⟩)
  ·rw[←Aco (v:=f) C,O2]
   split
   ·rename_i e;subst e;exact I.symm
   ·rfl
  ·exact A.find (e:={ key:=ke k,val:=ve f,born:=c }) Bf
  ·have:=A.setVal (i:=es.size) (k:=k) (v:=v) ⟨(k,f),by rw[h.size];simp,rfl⟩
   rw[Aco C];rw[h.size] at this ⊢;simpa using this
 ·obtain⟨p,a3,b0,b1⟩:=Afu (d:=f) Y X
  obtain⟨m,t,b2⟩:=h.ent i p a3
  have a5:e=⟨ke p.1,ve p.2,m⟩:=by rw[Aeq,t] at R;cases R;rfl
  subst a5;subst b0
  have a8:(Alw (ke p.1) (ke p.1)).run P w=.ok (ke p.1) w:=by simp[Alw,u.same]
  have a6:(es.modify i fun e=>{ e with key:=ke p.1 })=es:=by
   apply Alx;intro q;rw[Aer];split
   ·rename_i a7;subst a7;rw[t];rfl
   ·rfl
  have F:(execOp a.eval ⟨some dd,.mapEntry U x y,T,pos,after,gd⟩).run P w=.ok (.value (.tuple #[ve (Fz L p.1 f),.int .i64 m])) { w with heap:=w.heap.setIfInBounds b (.map es c) }:=by
   simp[execOp,Instr.mapEntry,o.ev a1 S,o.ev a2 V,E5 N,W,O,J,t,a8,a6,run_setObj_map _ l,b1,goInt,Rk]
  unfold Ii;rw[F];show K (a.put (some dd) _) _;refine kk m _ _ (o.put a0 true _) (Yp G B (fun _=>Om) (fun _=>Om) l ⟨_,_,i,(heap_set l).1,⟨_,h,fun _=>rfl⟩,h.find t,fun v=>?_⟩);rw[Am4 Y X];exact h.setVal ⟨p,a3,rfl⟩
theorem EV.entryStore (k:κ) (j:Nat) (u:β) (s:Nat) (F:σ.ev x=some (g,.map (some b))) (r:g=true) (G:σ.ev y=some (g',.int .i64 s)) (t:g'=true) (I:σ.ev z=some (g'',ve u)) (A:g''=true) {o:β} (l:H[j]?=some (Arv b ke ve o L k s))
  (kk:WK n K σ (Own M w0 (H.set j (Xi b ke ve (Oi L k u))))):EV P n ⟨none,.entryStore U x y z,T,pos,after,gd⟩ σ (Own M w0 H) K Q:=fun a w f m=>by
 refine .inl ?_;obtain⟨es,c,i,h,_,q,p⟩:=m.at j l
 have B:(getObj b).run P w=.ok (.map es c) w:=by simp[getObj,Jg,h]
 have C:(execOp a.eval ⟨none,.entryStore U x y z,T,pos,after,gd⟩).run P w=.ok .skip { w with heap:=w.heap.setIfInBounds b (.map (es.modify i fun e=>{ e with val:=ve u }) c) }:=by
  simp[execOp,Instr.entryStore,f.ev F r,f.ev G t,f.ev I A,B,q,asInt,asIntOf,run_setObj_map _ h,Rk]
 unfold Ii;rw[C];show K (a.put none undef) _;exact kk a _ f (Yp m l (fun _=>Om) (fun _=>Om) h ⟨_,_,(heap_set h).1,p u⟩)
theorem EV.mapUpdate (k:κ) (j:Nat) (u:β) (F:Aq1 P U Kt E) (o:KeyT P Kt ke) (W:σ.ev x=some (g,.map (some b))) (J:g=true) (X:σ.ev y=some (g',ke k)) (N:g'=true) (Y:σ.ev z=some (g'',ve u)) (O:g''=true) (s:H[j]?=some (Xi b ke ve L))
  (kk:WK n K σ (Own M w0 (H.set j (Xi b ke ve (Oi L k u))))):EV P n ⟨none,.mapUpdate U x y z,T,pos,after,gd⟩ σ (Own M w0 H) K Q:=fun a w f A=>by
 refine .inl ?_;obtain⟨es,c,h,l⟩:=A.at j s;obtain⟨r,C,a1⟩:=o.find k w es.toList (L.map (·.1)) l.keys
 have R:(getObj b).run P w=.ok (.map es c) w:=by simp[getObj,Jg,h]
 have G:=o.check k w Az;rcases a1 with ⟨rfl,a4⟩ | ⟨i,e,rfl,I,V,S⟩
 ·have t:(execOp a.eval ⟨none,.mapUpdate U x y z,T,pos,after,gd⟩).run P w=.ok .skip { w with heap:=w.heap.setIfInBounds b (.map (es.push { key:=ke k,val:=ve u,born:=c }) (c+1)) }:=by
   simp[execOp,Instr.mapUpdate,f.ev W J,f.ev X N,f.ev Y O,E5 F,R,G,C,run_setObj_map _ h,Rk]
  unfold Ii;rw[t];show K (a.put none undef) _;refine kk a _ f (Yp A s (fun _=>Om) (fun _=>Om) h ⟨_,_,(heap_set h).1,?_⟩);rw[Aco a4];exact l.push k u
 ·obtain⟨p,a0,a7,a8⟩:=Afu (d:=u) V S
  obtain⟨m,B,a9⟩:=l.ent i p a0
  have a2:e=⟨ke p.1,ve p.2,m⟩:=by rw[Aeq,B] at I;cases I;rfl
  subst a2;subst a7
  have a6:(Alw (ke p.1) (ke p.1)).run P w=.ok (ke p.1) w:=by simp[Alw,o.same]
  have a3:(es.modify i fun e=>{ e with key:=ke p.1,val:=ve u })=(es.modify i fun e=>{ e with val:=ve u }):=by
   apply Alx;intro q;rw[Aer,Aer];split
   ·rename_i a5;subst a5;rw[B];rfl
   ·rfl
  have t:(execOp a.eval ⟨none,.mapUpdate U x y z,T,pos,after,gd⟩).run P w=.ok .skip { w with heap:=w.heap.setIfInBounds b (.map (es.modify i fun e=>{ e with val:=ve u }) c) }:=by
   simp[execOp,Instr.mapUpdate,f.ev W J,f.ev X N,f.ev Y O,E5 F,R,G,C,B,a6,a3,run_setObj_map _ h,Rk]
  unfold Ii;rw[t];show K (a.put none undef) _;refine kk a _ f (Yp A s (fun _=>Om) (fun _=>Om) h ⟨_,_,(heap_set h).1,?_⟩);rw[Am4 V S];exact l.setVal ⟨p,a0,rfl⟩
theorem Own.weak {r c:Res}{w:Ak} (k:Nat) (a:H[k]?=some r) (i:r.holds w→c.holds w) (f:∀ x,c.foot x→r.foot x) (h:Own M w0 H w):Own M w0 (H.set k c) w :=
 h.upd k a rfl rfl ⟨rfl,Co _⟩ (Co _) (fun _ _ _=>rfl) (i (h.at k a)) fun b e=>⟨.inl (f b e),(h.2.lt r (Xs a) b (f b e)).2⟩
theorem Y5 {w:Ak} (k:Nat) (a:β) (c:H[k]?=some (Xi b ke ve L)) (h:Own M w0 H w):Own M w0 (H.set k (Alc b ke ve a L)) w :=
 h.weak k c (fun x=>⟨L,x,fun _=>rfl⟩) fun _ x=>x
theorem Y4 {w:Ak} (k:Nat) {a:β}{key:κ}{s:Nat} (l:H[k]?=some (Arv b ke ve a L key s)) (h:Own M w0 H w):Own M w0 (H.set k (Alc b ke ve a L)) w :=
 h.weak k l (fun ⟨es,c,i,e,⟨L',f,j⟩,_⟩=>⟨L',⟨es,c,e,f⟩,j⟩) fun _ x=>x
theorem Abh {k:κ} (j:Nat) (c:β) (l:Aq1 P U Kt E) (i:KeyT P Kt ke) (t:Ale P E (ve c)) (r:σ.ev x=some (g,.map (some b))) (m:g=true) (s:σ.ev y=some (g',ke k)) (o:g'=true) (p:H[j]?=some (Alc b ke ve c L)) :
  QV P ⟨d,.lookup U x y Az,T,pos,after,gd⟩ σ (Own M w0 H) (ve (Fz L k c)):=.of_run fun n a e w q=>by
 obtain⟨L',f,h⟩:=q.at j p;have:=Aij (k:=k) (ok:=Az) l i t f;rw[h] at this;simp only[execOp,e.ev r m,e.ev s o,Uk,this,Um,T6];rfl
end
end Go.Rd
end
section
namespace Go.Rd
open Go.RowKit
theorem Pa:∀ (vs a c:List Al) (off:Nat),off+vs.length≤a.length→Nz (a++c) off vs=Nz a off vs++c
 | [],a,c,off,_=>rfl
 | v::vs,a,c,off,h=>by
  simp only[Ef] at h;unfold Nz;rw[List.set_append_left _ _ Aa,Pa vs (a.set off v) c (off+1) (by simp;omega)]
theorem Wn:∀ (vs a c:List Al) (off:Nat),Nz (a++c) (a.length+off) vs=a++Nz c off vs
 | [],a,c,off=>rfl
 | v::vs,a,c,off=>by
  unfold Nz;rw[List.set_append_right _ _ Aa,Nat.add_sub_cancel_left,Nat.add_assoc,Wn vs a (c.set off v) (off+1)]
theorem Ww {sz:Nat}{vs:List Al}{off:Nat} (b:off+vs.length≤sz):∀ {rows:List (List Al)}{i:Nat},(∀ r∈rows,r.length=sz)→i<rows.length→Nz rows.flatten (i * sz+off) vs=(rows.set i (Nz (rows.getD i []) off vs)).flatten
 | [],i,_,h=>by simp at h
 | r::rows,0,hr,_=>by
  have:=hr r Bf;simp[Pa vs r rows.flatten off Aa]
 | r::rows,i+1,hr,h=>by
  have a:=hr r Bf;have d:=Ww (vs:=vs) (off:=off) b (rows:=rows) (i:=i) (fun q c=>hr q (by simp[c])) (by simpa using h);rw[Z0,show (i+1) * sz+off=r.length+(i * sz+off) from by rw[a,Xy];omega,Wn,d];simp
theorem Acz {α:Type} [Inhabited α] {enc:α→List Al}{xs:List α}{i:Nat}{z:α}{off:Nat}{vs:List Al} (hi:i<xs.length) (a:enc z=Nz (enc (xs.getD i default)) off vs):(xs.map enc).set i (Nz ((xs.map enc).getD i []) off vs)=(xs.set i z).map enc:=by
 have:(xs.map enc).getD i []=enc (xs.getD i default):=by simp[Ec,E7 hi]
 rw[this,←a,List.map_set]
section
variable {P : Bz} {n : Nat} {σ : Env} {M : Nat → Prop} {w0 : Ak} {H : List Res} {d : Option Tmp} {T U E S T2 : TypeId} {pos : String} {after : Array Edge} {gd : Option (Nat × Bool)} {x y z : En} {g g' g'' : Bool} {v yv : Al}
 {K:Act→Ak→Prop}{Q:Exit→Act→Ak→Prop}
theorem Axh {α:Type} [Inhabited α] {enc:α→List Al}{sz:Nat} (k:Nat) (u:α) {xs:List α}{i:Int}{p q:Addr}{off:Nat}{vs:List Al} (c1:σ.ev x=some (g,.pointer (some q))) (a2:g=true) (c2:σ.ev y=some (g',yv)) (a3:g'=true)
  (J:H[k]?=some (vec v E sz (xs.map enc))) (N:Lw v i sz p) (hi:IX i (ln xs)) (b2:q=p.add off) (b9:yv.cells=vs.toArray) (hs:Dt P T vs.length) (a6:off+vs.length≤sz) (b1:∀ u∈vs,u.oneCell'=true) (F:enc u=Nz (enc (ele xs i)) off vs)
  (kk:WK n K σ (Own M w0 (H.set k (vec v E sz ((upd xs i u).map enc))))):EV P n ⟨none,.store T x y,U,pos,after,gd⟩ σ (Own M w0 H) K Q:=fun a w o R=>by
 refine .inl ?_;have c0:=R.at k J;obtain⟨⟨X,Y⟩,h⟩:=c0;rcases Y with ⟨rfl,_⟩ | ⟨b,cap,f,rfl,a0,I,L,a1,C,b8⟩
 ·obtain⟨a,n,V,j,_⟩:=N;simp at j
 obtain⟨c9,d7,V,j,d0,d3,rfl⟩:=N;simp only[Jh,Gs] at j;obtain⟨rfl,d4,rfl⟩:=j
 have m:i.toNat<xs.length:=by have:=hi.2;unfold ln at this;omega
 have A:(xs.map enc).length=xs.length:=Gl _
 have b3:q=⟨b,i.toNat * sz+off,none⟩:=by rw[b2,Ng,Tg];simp
 subst b3
 have d2:f.toList.length=cap * sz:=by simpa using C
 have a7:(i.toNat+1) * sz≤cap * sz:=Z1 _ (by rw[A] at L;omega);rw[Xy] at a7;obtain⟨w',c3,c4,c5,d9,c6,c7,c8⟩:=Gv (P:=P) vs ⟨b,i.toNat * sz+off,none⟩ 0 (i.toNat * sz+off) f.toList w (by simpa using I) (by simp[Ma]) Aa b1;obtain⟨d5,a5,b7⟩:=K7.1 hs
 have b5:(execOp a.eval ⟨none,.store T x y,U,pos,after,gd⟩).run P w=.ok .skip w':=by
  simp[execOp,o.ev c1 a2,o.ev c2 a3,Instr.storeAt,Rb,storeVar,b9,sizeOf,typeInfo,a5,b7,c3]
 unfold Ii;rw[b5];show K (a.put none undef) w';have d1:b<w.heap.size:=(Rs.1 I).1;have t:=Dm h
 have O:((upd xs i u).map enc).flatten=Nz (xs.map enc).flatten (i.toNat * sz+off) vs:=by
  rw[Ww a6 h (by rw[A];exact m),Acz m F];rfl
 have l:((upd xs i u).map enc).length=(xs.map enc).length:=by simp[upd]
 have a4:(vec (.slice (some ⟨b,0,none⟩) (xs.map enc).length cap) E sz ((upd xs i u).map enc)).holds w':=by
  refine⟨⟨by rw[O,Gm,l];exact X,.inr ⟨b,cap,(Nz f.toList (i.toNat * sz+off) vs).toArray,by rw[l],a0,c4,by rw[l];exact L,a1,by simp[Gm,C],?_⟩⟩,fun r b4=>?_⟩
  ·rw[O]
   have W:f.toList=(xs.map enc).flatten++f.toList.drop ((xs.map enc).length * sz):=by
    conv=>lhs;rw[←Lu ((xs.map enc).length * sz) f.toList]
    rw[b8]
   have a9:(i.toNat+1) * sz≤(xs.map enc).length * sz:=Z1 _ (by rw[A];omega);rw[Xy] at a9;rw[W,Pa vs _ _ _ (by rw[t];omega),l,Aro (by rw[Gm,t];exact Co _),W9 (by rw[Gm,t];exact Co _)]
  ·obtain⟨s,b6,rfl⟩:=I7.1 b4
   rcases Ahb b6 with a8 | rfl
   ·exact h _ (Ag7 a8)
   ·rw[F,Gm]
    have:=h (enc (ele xs i)) (Ag7 (by unfold ele;rw[Ec,E7 m];exact Vy m));exact this
 refine kk a w' o (R.upd k J c6 c7 c8 Aa (fun c B b0=>c5 c fun e=>b0 (by subst e;exact⟨_,_,rfl⟩)) a4 fun c B=>?_);obtain⟨d8,d6,G⟩:=B;simp only[Jh,Gs,Pj] at G;obtain⟨⟨rfl,_⟩,_⟩:=G;exact⟨.inl ⟨_,_,rfl⟩,Aa⟩
theorem A31 {f:Array TypeId}{k:IntKind}{i j m:Int} (p:σ.ev x=some (g,.int k i)) (h:g=true) (q:σ.ev y=some (g',.int k j)) (l:g'=true) (r:σ.ev z=some (g'',.int k m)) (o:g''=true) {C:Ak→Prop} :
  QV P ⟨d,.call ⟨.builtin .max,#[x,y,z],f⟩,T,pos,after,gd⟩ σ C (.int k (max (max i j) m)):=.of_run fun n s c w t=>by
 have e:∀ a b:Int,(if b>a then b else a)=max a b:=fun a b=>by split <;> omega
 simp[execOp,resolve,invoke,builtin,c.ev p h,c.ev q l,c.ev r o,Builtin.max_,Builtin.max2,List.foldlM,e,Int.max_assoc]
theorem Og {fn:Func}{R:Ending→Ak→Prop}{C:Ak→Prop}{t u s:Nat}{v1 v2 v3:Al} (j:fn.results=#[.tmp t,.tmp u,.tmp s]) (e:σ.look t=some (true,v1)) (f:σ.look u=some (true,v2)) (i:σ.look s=some (true,v3)) (h:∀ w,C w→R (.returned (.tuple #[v1,v2,v3])) w) :
  WK n (bodyPost P fn R .ret) σ C:=fun a w b k=>by
 refine⟨b.defers,_,?_,h w k⟩;have c:=b.look t true v1 e;have a2:=b.look u true v2 f;have a3:=b.look s true v3 i;simp at c a2 a3;simp[results,j,c,a2,a3]
theorem Kk {fn:Func}{R:Ending→Ak→Prop}{C:Ak→Prop}{ty:TypeId}{p u s sz:Nat}{q:Addr}{cs:List Al}{v2 v3:Al} (o:fn.results=#[.cell p ty,.tmp u,.tmp s]) (j:Sg P ty sz) (l:cs.length=sz) (m:σ.look p=some (true,.pointer (some q)))
  (f:σ.look u=some (true,v2)) (i:σ.look s=some (true,v3)) (k:∀ w,C w→CellsAt w q cs 0) (h:∀ w,C w→R (.returned (.tuple #[.agg cs.toArray,v2,v3])) w):WK n (bodyPost P fn R .ret) σ C:=fun a w b e=>by
 refine⟨b.defers,_,?_,h w e⟩;have c:=b.look p true _ m;have a2:=b.look u true v2 f;have a3:=b.look s true v3 i;simp at c a2 a3;have:=J1 (P:=P) j l (k w e);simp[results,o,c,asAddr,this,a2,a3]
def Ars (b off m:Nat):List Al:=(List.range m).map fun j=>.pointer (some ⟨b,off+j,none⟩)
theorem Ajj {b m off:Nat}{k:IntKind}{i:Int}{C:Ak→Prop} (o:P.underlying U=some (.array m E)) (l:N3 P E) (hs:Dt P E 1) (A:σ.ev x=some (g,.agg (Ars b off m).toArray)) (p:g=true) (B:σ.ev y=some (g',.int k i)) (q:g'=true) (hi:IX i m) :
  QV P ⟨d,.index U x y,T,pos,after,gd⟩ σ C (.pointer (some (((⟨b,0,none⟩:Addr).add off).add (i.toNat * 1)))):=.of_run fun n a c w F=>by
 obtain⟨G,s,u⟩:=K7.1 hs;have f:=hi.1;have h:=hi.2;have t:i.toNat<m:=Aa;have j:=Rh l w
 have e:(((⟨b,0,none⟩:Addr).add off).add (i.toNat * 1))=⟨b,off+i.toNat,none⟩:=by rw[Nat.mul_one,Tg,Tg,Tf]
 have r:(Ars b off m)[i.toNat]?=some (.pointer (some ⟨b,off+i.toNat,none⟩)):=by simp[Ars,t]
 rw[e];simp[execOp,c.ev A p,c.ev B q,Instr.index,asIntOf,E5 o,f,h,sizeOf,typeInfo,s,u,part,j,r]
theorem Ak6 {xs:List Int}{m:Nat}{k:IntKind}{i:Int}{C:Ak→Prop} (l:P.underlying U=some (.array m E)) (j:N3 P E) (hs:Dt P E 1) (u:σ.ev x=some (g,.agg (xs.map Dv).toArray)) (o:g=true) (A:σ.ev y=some (g',.int k i)) (p:g'=true) (B:xs.length=m) (hi:IX i m) :
  QV P ⟨d,.index U x y,T,pos,after,gd⟩ σ C (.int .i64 (ele xs i)):=.of_run fun n a b w F=>by
 obtain⟨G,s,t⟩:=K7.1 hs;have e:=hi.1;have f:=hi.2;have c:i.toNat<xs.length:=Aa;have h:=Rh j w
 have q:(xs.map Dv)[i.toNat]?=some (.int .i64 (ele xs i)):=by
  rw[Zz,E7 c];simp[ele,Ec,E7 c,Dv]
 have r:(List.map Dv xs).toArray[i.toNat]?=some (.int .i64 (ele xs i)):=by simpa using q
 simp[execOp,b.ev u o,b.ev A p,Instr.index,asIntOf,E5 l,e,f,sizeOf,typeInfo,s,t,part,h,-List.map_toArray,-List.getElem?_toArray,r]
end
end Go.Rd
end
section
namespace Go.Rd
open Go.RowKit
theorem Amx {α:Type}{xs:List α}{i j:Int} (h:SX i j (ln xs)):(sub xs i j).length=(j - i).toNat:=by
 obtain⟨a,b,c⟩:=h;unfold sub ln at *;rw[I8,Nn];omega
theorem U8 {α:Type}{xs:List α}{v:Al}{sz:Nat}{i j:Int} (b:SliceLen v xs.length) (h:SX i j (ln xs)):SliceLen (Np v sz i.toNat j.toNat) (sub xs i j).length:=by
 rw[Amx h];obtain⟨c,d,a⟩:=h;unfold ln at a;have:=Aoz (sz:=sz) b (l:=i.toNat) (h:=j.toNat) Aa Aa;rwa [show (j - i).toNat=j.toNat - i.toNat from Aa]
section
variable {P : Bz} {n : Nat} {σ : Env} {M : Nat → Prop} {w0 : Ak} {H : List Res} {d : Option Tmp} {T U E : TypeId} {pos : String} {after : Array Edge} {gd : Option (Nat × Bool)} {x y : En} {g g' : Bool} {v : Al}
 {K:Act→Ak→Prop}{Q:Exit→Act→Ak→Prop}
theorem Ar3 {α:Type}{enc:α→List Al}{z:α}{sz m:Nat} (a:(enc z).length=sz) (l:0<sz):(Builtin.zeroCells (enc z).toArray m).toList=((List.replicate m z).map enc).flatten:=by
 apply Xq;intro j
 have c:∀ r∈(List.replicate m z).map enc,r.length=sz:=by intro r t;obtain⟨u,h,rfl⟩:=I7.1 t;rw[Adl] at h;rw[h.2,a]
 have p:((List.replicate m z).map enc).flatten.length=m * sz:=by rw[Dm c];simp
 have hs:(enc z).toArray.size=sz:=by simpa using a
 by_cases b:j<m * sz
 ·have s:j / sz<m:=Aly (by rwa [Rc] at b)
  have o:=Jw (sz:=sz) (rows:=(List.replicate m z).map enc) (i:=j / sz) (r:=enc z) c (by simp[s]);have f:j % sz<sz:=Nat.mod_lt _ l
  have k:((List.replicate m z).map enc).flatten[j]?=(enc z)[j % sz]?:=by
   have:(enc z)[j % sz]?=((((List.replicate m z).map enc).flatten.drop (j / sz * sz)).take (enc z).length)[j % sz]?:=by rw[o]
   rw[this,Rp,a,Bj f,Ya,Rc,Agx]
  rw[k]
  have q:j % sz<(enc z).length:=by rw[a];exact f
  simp[Builtin.zeroCells,b,a,E7 q]
 ·have e:=Aas b
  rw[Q1 (by rw[Aaw,size_zeroCells,hs];exact e),Q1 (by rw[p];exact e)]
def clr {α:Type} (xs:List α) (i:Int) (z:α):List α:=xs.take i.toNat++List.replicate (xs.length - i.toNat) z
theorem M1 (p:Addr):p=p.add 0:=(by cases p;simp[Ma])
theorem Anh {α:Type}{xs:List α}{i:Int}{z:α} (h:i≤ln xs):(clr xs i z).length=xs.length:=by
 unfold clr ln at *;rw[Ca,I8,Ado];omega
theorem Ahs:∀ (vs a:List Al) (off:Nat),off+vs.length=a.length→Nz a off vs=a.take off++vs
 | [],a,off,h=>by simp only[E6,Nat.add_zero] at h;subst h;simp[Nz]
 | v::vs,a,off,h=>by
  simp only[Ef] at h;unfold Nz;rw[Ahs vs (a.set off v) (off+1) (by simp;omega)]
  have:(a.set off v).take (off+1)=a.take off++[v]:=by
   rw[Ag4,List.take_set_of_le (Co _),Al4 Aa];rfl
  rw[this,G6];rfl
theorem Ac2 {sz:Nat}:∀ {rows:List (List Al)} (i:Nat),(∀ r∈rows,r.length=sz)→(rows.take i).flatten=rows.flatten.take (i * sz)
 | [],i,_=>Bf
 | r::rows,0,_=>Bf
 | r::rows,i+1,h=>by
  have a:=h r Bf;rw[List.take_succ_cons,Z0,Z0,Ac2 i (fun q b=>h q (by simp[b])),show (i+1) * sz=r.length+i * sz from by rw[a,Xy];omega,List.take_length_add_append]
theorem EV.clear {α:Type}{enc:α→List Al}{sz:Nat} (k:Nat) (z:α) {xs:List α}{lo hi:Int} (b6:Je P U E sz) (c5:ZeroT P E (enc z)) (a6:∀ u,(enc u).length=sz) (b3:0<sz) (b4:∀ c∈enc z,c.oneCell'=true)
  (V:σ.ev x=some (g,Np v sz lo.toNat hi.toNat)) (L:g=true) (f:H[k]?=some (vec v E sz (xs.map enc))) (b5:SX lo hi (ln xs)) (C:hi=ln xs) {dd:Nat} (I:d=some dd∧dd<n∨d=none)
  (kk:WK n K σ (Own M w0 (H.set k (vec v E sz ((clr xs lo z).map enc))))) (c7:∀ dd,d=some dd→WK n K ((dd,(true,.tuple #[]))::σ) (Own M w0 (H.set k (vec v E sz ((clr xs lo z).map enc))))) :
  EV P n ⟨d,.call ⟨.builtin .clear,#[x],#[U]⟩,T,pos,after,gd⟩ σ (Own M w0 H) K Q:=fun a w l F=>by
 refine .inl ?_;obtain⟨e6,d5,b1⟩:=b5;subst C;obtain⟨⟨c8,c9⟩,Y⟩:=F.at k f;obtain⟨G,d9⟩:=b6;obtain⟨e2,d7,d6,z2,z3⟩:=c5.out;have s:(xs.map enc).length=xs.length:=Gl _
 have a4:(ln xs).toNat=xs.length:=by unfold ln;omega
 have J:∀ w',(vec v E sz ((clr xs lo z).map enc)).holds w'→Own M w0 (H.set k (vec v E sz ((clr xs lo z).map enc))) w'→K (a.put d (.tuple #[])) w':=fun w' _ a8=>by
  cases d with
  | none=>exact kk a w' l a8
  | some d8 =>
   rcases I with ⟨b9,c0⟩ | I
   ·cases b9;exact c7 _ rfl _ w' (l.put c0 true _) a8
   ·cases I
 rcases c9 with ⟨rfl,O⟩ | ⟨b,cap,i,rfl,b7,C,R,b8,a1,c3⟩
 ·have c4:xs=[]:=Z5.1 (by rw[←s];exact O)
  subst c4
  have O:lo=0:=by unfold ln at b1;simp at b1;omega
  subst O
  have t:(execOp a.eval ⟨d,.call ⟨.builtin .clear,#[x],#[U]⟩,T,pos,after,gd⟩).run P w=.ok (.value (.tuple #[])) w:=by
   simp[execOp,resolve,invoke,builtin,l.ev V L,Builtin.clear_,E5 G,Np,ln,Rk]
  unfold Ii;rw[t];have e:clr ([]:List α) 0 z=[]:=rfl
  have es:H.set k (vec (.slice none 0 0) E sz (([]:List α).map enc))=H:=by
   apply Xq;intro j;rw[Aat];split
   ·rename_i N;subst N
    split
    ·exact f.symm
    ·rw[Q1 Aa] at f;cases f
   ·rfl
  have p:Own M w0 (H.set k (vec (.slice none 0 0) E sz ((clr ([]:List α) 0 z).map enc))) w:=by rw[e,es];exact F
  exact J w (p.at k (by rw[Al4 (Abw.1 f).1])) p
 ·by_cases a7:xs.length - lo.toNat=0
  ·have e:clr xs lo z=xs:=by unfold clr;rw[a7,List.replicate_zero,N2,W9 Aa]
   have es:H.set k (vec (.slice (some ⟨b,0,none⟩) (xs.map enc).length cap) E sz (xs.map enc))=H:=by
    apply Xq;intro j;rw[Aat];split
    ·rename_i N;subst N
     split
     ·exact f.symm
     ·rw[Q1 Aa] at f;cases f
    ·rfl
   have t:(execOp a.eval ⟨d,.call ⟨.builtin .clear,#[x],#[U]⟩,T,pos,after,gd⟩).run P w=.ok (.value (.tuple #[])) w:=by
    have ex:=l.ev V L;simp only[Np,a4,a7] at ex;split at ex <;> simp[execOp,resolve,invoke,builtin,ex,Builtin.clear_,E5 G,Rk]
   unfold Ii;rw[t]
   have p:Own M w0 (H.set k (vec (.slice (some ⟨b,0,none⟩) (xs.map enc).length cap) E sz ((clr xs lo z).map enc))) w:=by rw[e,es];exact F
   exact J w (p.at k (by rw[Al4 (Abw.1 f).1])) p
  ·have S:¬cap=lo.toNat:=by rw[s] at R;omega
   have b0:(enc z).length=sz:=a6 z;have W:=Ar3 (enc:=enc) (z:=z) (m:=xs.length - lo.toNat) b0 b3;have B:=Dm (sz:=sz) (rows:=(List.replicate (xs.length - lo.toNat) z).map enc) (by intro r q;obtain⟨u,h,rfl⟩:=I7.1 q;rw[Adl] at h;rw[h.2,b0]);rw[Gl,Ado] at B
   have e1:i.toList.length=cap * sz:=by simpa using a1
   have c2:(lo.toNat+(xs.length - lo.toNat)) * sz≤cap * sz:=Z1 _ (by rw[s] at R;omega);rw[Ra] at c2
   obtain⟨w',X,d0,d1,e5,d2,d3,d4⟩:=Gv (P:=P) ((List.replicate (xs.length - lo.toNat) z).map enc).flatten ⟨b,lo.toNat * sz,none⟩ 0 (lo.toNat * sz) i.toList w (by simpa using C) (by simp[Ma]) (by rw[B];omega)
    (fun u h=>by obtain⟨r,q,h⟩:=List.mem_flatten.1 h;obtain⟨v,a9,rfl⟩:=I7.1 q;rw[Adl] at a9;rw[a9.2] at h;exact b4 u h)
   have t:(execOp a.eval ⟨d,.call ⟨.builtin .clear,#[x],#[U]⟩,T,pos,after,gd⟩).run P w=.ok (.value (.tuple #[])) w':=by
    have ex:=l.ev V L;simp only[Np,a4,Bg S,Aln,Tg,Tf] at ex;obtain⟨m',c1⟩:∃ m',xs.length - lo.toNat=m'+1:=⟨xs.length - lo.toNat - 1,Aa⟩;rw[c1] at ex W X;rw[List.map_replicate] at W X
    have c6:(zeroValue E).run P w=.ok d7 w:=by simp[zeroValue,typeInfo,d6,z2]
    simp[execOp,resolve,invoke,builtin,ex,Builtin.clear_,E5 G,Rk,c6,z3,W,X]
   unfold Ii;rw[t];have e0:b<w.heap.size:=(Rs.1 C).1
   have A:((clr xs lo z).map enc).length=(xs.map enc).length:=by rw[Gl,Gl,Anh d5]
   have a3:((clr xs lo z).map enc).flatten=Nz (xs.map enc).flatten (lo.toNat * sz) ((List.replicate (xs.length - lo.toNat) z).map enc).flatten:=by
    have o:=Dm Y;rw[Ahs _ _ _ (by rw[B,o,s,←Ra];congr 1;omega),←Ac2 _ Y];unfold clr;rw[Q0,Aeo,Agu]
   have a5:(vec (.slice (some ⟨b,0,none⟩) (xs.map enc).length cap) E sz ((clr xs lo z).map enc)).holds w':=by
    refine⟨⟨by rw[a3,Gm,A];exact c8,.inr ⟨b,cap,(Nz i.toList (lo.toNat * sz) ((List.replicate (xs.length - lo.toNat) z).map enc).flatten).toArray,by rw[A],b7,d0,by rw[A];exact R,b8,by simp[Gm,a1],?_⟩⟩,fun r q=>?_⟩
    ·have b2:i.toList=(xs.map enc).flatten++i.toList.drop ((xs.map enc).length * sz):=by
      conv=>lhs;rw[←Lu ((xs.map enc).length * sz) i.toList]
      rw[c3]
     have o:=Dm Y;rw[a3,b2,Pa _ _ _ _ (by rw[B,o,s,←Ra];exact Z1 _ Aa),A,Aro (by rw[Gm,o];exact Co _),W9 (by rw[Gm,o];exact Co _)]
    ·obtain⟨u,h,rfl⟩:=I7.1 q
     exact a6 u
   refine J w' a5 (F.upd k f d2 d3 d4 Aa (fun c a0 S=>d1 c fun e=>S (by subst e;exact⟨_,_,rfl⟩)) a5 fun c a0=>?_);obtain⟨e4,e3,a2⟩:=a0;simp only[Jh,Gs,Pj] at a2;obtain⟨⟨rfl,_⟩,_⟩:=a2;exact⟨.inl ⟨_,_,rfl⟩,Aa⟩
end
def Afj (a b:Edg):Int:=if a.fr<b.fr then -1 else if b.fr<a.fr then 1 else if a.tO<b.tO then -1 else if b.tO<a.tO then 1 else if a.bk<b.bk then -1 else if b.bk<a.bk then 1 else if a.wt<b.wt then -1 else if b.wt<a.wt then 1 else 0
def Agi (xs:List Edg):List Edg:=xs.mergeSort fun x y=>!Ap (Afj y x<0)
def Abe (xs:List Edg):Option (List Edg):=ck (xs.length<4611686018427387904) (some (Agi xs))
def Abq {α β:Type} (o:Option α) (a:Option β) (f:α→Option β):Option β:=match o with | none=>a | some y=>f y
theorem Zp {α β:Type}{o:Option α}{a:Option β}{f:α→Option β}{r:β} (h:o=none) (b:Abq o a f=some r):a=some r:=by subst h;exact b
theorem Zo {α β:Type}{o:Option α}{a:Option β}{f:α→Option β}{r:β}{y:α} (h:o=some y) (b:Abq o a f=some r):f y=some r:=by subst h;exact b
abbrev Q9:Type:=List Int×List Stm×List Int×Int×Int×List Int×List Int×List Int
def LayAt (K:Ak) (v:Al):Option Q9→Prop
 | none=>v=.pointer none
 | some y=>∃ p a b c d e f,v=.pointer (some p)∧CellsAt K p [a,b,c,.int .i64 y.2.2.2.1,.int .i64 y.2.2.2.2.1,d,e,f] 0∧Arr K a 1 (y.1.map Ar)∧Arr K b 9 (y.2.1.map Stm.cells)∧Arr K c 1 (y.2.2.1.map Ar)∧Arr K d 1 (y.2.2.2.2.2.1.map Ar)∧Arr K e 1 (y.2.2.2.2.2.2.1.map Ar)∧Arr K f 1 (y.2.2.2.2.2.2.2.map Ar)
theorem LayAt.none {K:Ak}:LayAt K (.pointer none) Option.none:=rfl
def Agc:=@LayAt.none
theorem LayAt.mk {K:Ak}{p:Addr}{i j k l m n:Al}{a c f g h:List Int}{b:List Stm}{d e:Int} (r:CellsAt K p [i,j,k,.int .i64 d,.int .i64 e,l,m,n] 0) (o:Arr K i 1 (a.map Ar)) (a2:Arr K j 9 (b.map Stm.cells)) (a3:Arr K k 1 (c.map Ar)) (a4:Arr K l 1 (f.map Ar)) (a5:Arr K m 1 (g.map Ar)) (q:Arr K n 1 (h.map Ar)) :
  LayAt K (.pointer (some p)) (some (a,b,c,d,e,f,g,h)):=⟨p,i,j,k,l,m,n,rfl,r,o,a2,a3,a4,a5,q⟩
theorem LayAt.nil {K:Ak}{v:Al}{o:Option Q9} (h:LayAt K v o) (e:o=Option.none):v=.pointer Option.none:=by subst e;exact h
theorem LayAt.at {K:Ak}{v:Al}{o:Option Q9}{y:Q9} (h:LayAt K v o) (e:o=some y):∃ p a b c d f g,v=.pointer (some p)∧CellsAt K p [a,b,c,.int .i64 y.2.2.2.1,.int .i64 y.2.2.2.2.1,d,f,g] 0∧Arr K a 1 (y.1.map Ar)∧Arr K b 9 (y.2.1.map Stm.cells)∧Arr K c 1 (y.2.2.1.map Ar)∧Arr K d 1 (y.2.2.2.2.2.1.map Ar)∧Arr K f 1 (y.2.2.2.2.2.2.1.map Ar)∧Arr K g 1 (y.2.2.2.2.2.2.2.map Ar):=by subst e;exact h
end Go.Rd
end
section
namespace Go.Rd
noncomputable def Mp (a:Int):Option (Bool) :=
 some ((Ap (a≥(-64)))&&(Ap (a≤64)))
noncomputable def Mg (step plus a log:Int):Option (Int) :=
 bdG (!((Ap (log<0)) || (Ap (log>5)))) (Mp step) fun b =>
 bdG (!(((Ap (log<0)) || (Ap (log>5))) || (!b))) (Mp plus) fun c =>
 br ((((((Ap (log<0)) || (Ap (log>5))) || (!b)) || (!c)) || (Ap (a<0))) || (Ap (a>200))) (
 some 0) (
 ck (IR (step * a)) <|
 ck (IR ((step * a)+plus)) <|
 ck (0≤log) <|
 ck (IR ((shlD 1 log) - 1)) <|
 some (Su ((step * a)+plus) ((shlD 1 log) - 1)))
noncomputable def Q3 (a:Bool):Option (Int) :=
 br a (
 some 1) (
 some 0)
noncomputable def Uz (op a b:Int):Option (Int) :=
 br (op==1) (
 some (IntKind.i64.wrap (a+b))) (
 br (op==2) (
 some (IntKind.i64.wrap (a - b))) (
 br (op==3) (
 some (IntKind.i64.wrap (a * b))) (
 br (op==4) (
 some (Su a b)) (
 br (op==5) (
 some (bitOr a b)) (
 br (op==6) (
 some (A6u a b)) (
 br (op==7) (
 bd (Q3 (Ap (a<b))) fun c =>
 some c) (
 br (op==8) (
 bd (Q3 (a==b)) fun d =>
 some d) (
 some 0))))))))
noncomputable def Fg (op:Int):Option (Int) :=
 br (op==3) (
 br (op==3) (
 some 2) (
 br (op==13) (
 some 1) (
 some 0))) (
 br (op==4) (
 some 2) (
 br (op==13) (
 some 1) (
 some 0)))
noncomputable def Abg (op:Int):Option (Int) :=
 br ((op==3) || (op==4)) (
 some 2) (
 br (op==13) (
 some 1) (
 some 0))
noncomputable def Qq (log:Int):(Int×Int)→Option (Stp (Int×Int) (Empty)):=fun (a,b) =>
 br (Ap (b<log)) (
 ck (IR (a+a)) <|
 ck (IR (b+1)) <|
 some (.next ((a+a),(b+1)))) (
 some (.brk (a,b)))
noncomputable def Sc (log:Int):Option (Int) :=
 bd (lp (Qq log) (1,0)) fun b=>b.on (fun (a,c) =>
 some a) (fun r=>r.elim)
noncomputable def Zs (a b:Int):Option (Int) :=
 ck (b≠0) <|
 br (Ap ((Int.tmod a b)<0)) (
 ck (IR ((Int.tmod a b)+b)) <|
 some ((Int.tmod a b)+b)) (
 some (Int.tmod a b))
theorem Yy (step plus a log:Int):Mg step plus a log=some (idx step plus a log):=by
 unfold Mg Mp bdG idx;simp only[bd_ret,Aaa];by_cases h:Agp step plus a log
 ·have e:=h
  unfold Agp at e;obtain⟨f,i,c,d,j,k,l,m⟩:=e;have o:=My log.toNat Aa;have p:=Aj3 c d l m;have n:=A6l h;have hs:shlD 1 log=2 ^ log.toNat:=Afr log f i;simp only[show ¬log<0 from Aa,show ¬log>5 from Aa,show step≥-64 from c,d,show plus≥-64 from j,k,show ¬a<0 from Aa,show ¬a>200 from Aa,decide_false,decide_true,Si,Adf,F9,Kc,Nt,Bool.or_false,Bool.false_eq_true,if_false,Bj h,hs];rw[Ay Aa Aa,Ay Aa Aa,Ax Aa,Ay Aa Aa];congr 1;unfold Su;rw[Ah4 _ _ Aa,Jl]
  ·have:=Ro (step * a+plus) (show (2:Int) ^ log.toNat≠0 from Aa)
   omega
  ·have:=Rq (step * a+plus) (show (0:Int)<2 ^ log.toNat from Aa)
   omega
 ·rw[Bg h]
  unfold Agp at h;by_cases g1:log<0∨log>5
  ·rcases g1 with g | g <;> simp[g]
  ·by_cases b:step≥-64∧step≤64
   ·by_cases g3:plus≥-64∧plus≤64
    ·by_cases g4:a<0∨a>200
     ·rcases g4 with g | g <;> simp[g,show ¬log<0 from Aa,show ¬log>5 from Aa,b.1,b.2,g3.1,g3.2]
     ·exact absurd ⟨Aa,Aa,Aa,Aa,Aa,Aa,Aa,Aa⟩ h
    ·have:(Ap (plus≥-64)&&Ap (plus≤64))=Az:=by simp;omega
     simp[this,show ¬log<0 from Aa,show ¬log>5 from Aa,b.1,b.2]
   ·have:(Ap (step≥-64)&&Ap (step≤64))=Az:=by simp;omega
    simp[this,show ¬log<0 from Aa,show ¬log>5 from Aa]
theorem Ao9 (op a b:Int):Uz op a b=some (opV op a b):=by
 unfold Uz Q3 opV;simp only[Aaa,Dk];(repeat' split) <;> (try simp_all) <;> (try rfl)
theorem Pb (op:Int):Fg op=some (Kn op):=by
 unfold Fg Kn;simp only[Aaa,Dk];(repeat' split) <;> simp_all
theorem Aqb (op:Int):Abg op=some (Kn op):=by
 unfold Abg Kn;simp only[Aaa,W8,Dk];(repeat' split) <;> simp_all
theorem Ak5 (log:Int) (a:log≤5):∀ (m i:Nat),i+m=log.toNat→lp (Qq log) (2 ^ i,i)=some (.go (2 ^ log.toNat,(log.toNat:Int)))
 | 0,i,h=>by
  have hi:i=log.toNat:=Aa;subst hi;refine Db ?_;unfold Qq;exact Cn Aa
 | m+1,i,h=>by
  have b:=My i Aa;refine B4 ?_ (Ak5 log a m (i+1) Aa);unfold Qq;simp only;rw[Ck Aa,Ay Aa Aa,Ay Aa Aa,Az8];rfl
theorem Azd (log:Int) (a:log≤5):Sc log=some (2 ^ log.toNat):=by
 have:=Ak5 log a log.toNat 0 Aa;unfold Sc;rw[show ((1:Int),(0:Int))=((2:Int) ^ 0,((0:Nat):Int)) from rfl,this];rfl
theorem Aze (a b:Int) (d:0<b) (e:b≤9223372036854775807):Zs a b=some (a % b):=by
 have f:=Uu a d;have c:=Azp (a:=a) d;unfold Zs;rw[Ax Aa];by_cases h:Int.tmod a b<0
 ·rw[Bj h] at c
  rw[Ck h,Ay Aa Aa,c]
 ·rw[Bg h] at c
  rw[Cn h,c]
noncomputable def Oa (t:Tgt):Int→Option (Stp (Int) (Bool)):=fun a =>
 br (Ap (a<3)) (
 ck (IX a 3) <|
 ck ((!(Ap ((Cv t.u0 t.u1 t.u2 a)<1)))=true→IX a 3) <|
 ck ((!((Ap ((Cv t.u0 t.u1 t.u2 a)<1)) || (Ap ((Cv t.u0 t.u1 t.u2 a)>4))))=true→IX a 3) <|
 ck ((!(((Ap ((Cv t.u0 t.u1 t.u2 a)<1)) || (Ap ((Cv t.u0 t.u1 t.u2 a)>4))) || (Ap ((Cv t.w0 t.w1 t.w2 a)<1))))=true→IX a 3) <|
 br ((((Ap ((Cv t.u0 t.u1 t.u2 a)<1)) || (Ap ((Cv t.u0 t.u1 t.u2 a)>4))) || (Ap ((Cv t.w0 t.w1 t.w2 a)<1))) || (Ap ((Cv t.w0 t.w1 t.w2 a)>6))) (
 some (.ret Az)) (
 ck (IR (a+1)) <|
 some (.next (a+1)))) (
 some (.brk a))
noncomputable def Gy (t:Tgt):Option (Bool) :=
 bd (lp (Oa t) 0) fun a=>a.on (fun b =>
 some ((Ap (t.regs≥1))&&(Ap (t.regs≤128)))) (fun r=>some r)
noncomputable def G1 (t:Tgt) (op:Int):Option (Int) :=
 bd (Gy t) fun b =>
 br (!b) (
 some 0) (
 bd (Fg op) fun a =>
 ck (IX a 3) <|
 some (Cv t.w0 t.w1 t.w2 a))
noncomputable def Aeh (t:Tgt):Int→Option (Stp (Int) (Bool)):=fun a =>
 br (Ap (a<3)) (
 ck (IX a 3) <|
 ck ((!(Ap ((Cv t.u0 t.u1 t.u2 a)<1)))=true→IX a 3) <|
 ck ((!((Ap ((Cv t.u0 t.u1 t.u2 a)<1)) || (Ap ((Cv t.u0 t.u1 t.u2 a)>4))))=true→IX a 3) <|
 ck ((!(((Ap ((Cv t.u0 t.u1 t.u2 a)<1)) || (Ap ((Cv t.u0 t.u1 t.u2 a)>4))) || (Ap ((Cv t.w0 t.w1 t.w2 a)<1))))=true→IX a 3) <|
 br ((((Ap ((Cv t.u0 t.u1 t.u2 a)<1)) || (Ap ((Cv t.u0 t.u1 t.u2 a)>4))) || (Ap ((Cv t.w0 t.w1 t.w2 a)<1))) || (Ap ((Cv t.w0 t.w1 t.w2 a)>6))) (
 some (.ret Az)) (
 ck (IR (a+1)) <|
 some (.next (a+1)))) (
 some (.brk a))
noncomputable def Ah7 (t:Tgt):Option (Bool) :=
 bd (lp (Aeh t) 0) fun a=>a.on (fun b =>
 some ((Ap (t.regs>0))&&(Ap (t.regs≤128)))) (fun r=>some r)
noncomputable def Aeg (t:Tgt) (op:Int):Option (Int) :=
 bd (Ah7 t) fun b =>
 br (!b) (
 some 0) (
 bd (Abg op) fun a =>
 ck (IX a 3) <|
 some (Cv t.w0 t.w1 t.w2 a))
noncomputable def Gj (a b below:Int):Option (Bool) :=
 some ((Ap (a≥b))&&(Ap (a<below)))
noncomputable def Fh (s:Stm):Option (List Rf) :=
 br (s.op==4) (
 some [s.a]) (
 br (Ap (s.op>10)) (
 some [s.a,s.b]) (
 some []))
noncomputable def S5 (l:Lp) (c:Int) (a:Rf):Option (Bool) :=
 br (a.bk==0) (
 bd (Gj a.bk 0 4) fun x5 =>
 bdG (x5) (Gj a.st 0 c) fun e =>
 some (x5&&e)) (
 bd (Gj a.bk 0 4) fun b =>
 bdG (b) (Gj a.st 0 (ln l.body)) fun d =>
 some (b&&d))
noncomputable def Hx (l:Lp) (c:Int) (b:List Rf):Int→Option (Stp (Int) (Bool)):=fun a =>
 br (Ap (a<(ln b))) (
 ck (IX a (ln b)) <|
 bd (S5 l c (ele b a)) fun d =>
 br (!d) (
 some (.ret Az)) (
 ck (IR (a+1)) <|
 some (.next (a+1)))) (
 some (.brk a))
noncomputable def Q4 (l:Lp) (c:Int):Option (Bool) :=
 ck (IX c (ln l.body)) <|
 bd (Gj ((ele l.body c).ar) 0 (ln l.logs)) fun d =>
 bdG (d) (Gj ((ele l.body c).sp) (-64) 65) fun e =>
 bdG (d&&e) (Gj ((ele l.body c).pl) (-64) 65) fun f =>
 bd (Fh (Stm.mk ((ele l.body c).op) ((ele l.body c).a) ((ele l.body c).b) ((ele l.body c).ar) ((ele l.body c).sp) ((ele l.body c).pl) ((ele l.body c).n))) fun h =>
 bd (lp (Hx l c h) 0) fun g=>g.on (fun j =>
 br ((ele l.body c).op==1) (
 some ((((((ele l.body c).ar==0)&&((ele l.body c).sp==0))&&((ele l.body c).pl==0))&&([((ele l.body c).a).st,((ele l.body c).a).bk]==[0,0]))&&([((ele l.body c).b).st,((ele l.body c).b).bk]==[0,0]))) (
 br ((ele l.body c).n != 0) (
 some Az) (
 br ((ele l.body c).op==2) (
 some ((((((ele l.body c).ar==0)&&((ele l.body c).sp==0))&&((ele l.body c).pl==0))&&([((ele l.body c).a).st,((ele l.body c).a).bk]==[0,0]))&&([((ele l.body c).b).st,((ele l.body c).b).bk]==[0,0]))) (
 br ((ele l.body c).op==3) (
 some ((((d&&e)&&f)&&([((ele l.body c).a).st,((ele l.body c).a).bk]==[0,0]))&&([((ele l.body c).b).st,((ele l.body c).b).bk]==[0,0]))) (
 br ((ele l.body c).op==4) (
 some (((d&&e)&&f)&&([((ele l.body c).b).st,((ele l.body c).b).bk]==[0,0]))) (
 bdG ((((ele l.body c).ar==0)&&((ele l.body c).sp==0))&&((ele l.body c).pl==0)) (Gj (IntKind.i64.wrap ((ele l.body c).op - 10)) 1 9) fun i =>
 some (((((ele l.body c).ar==0)&&((ele l.body c).sp==0))&&((ele l.body c).pl==0))&&i))))))) (fun r=>some r)
noncomputable def Kr (l:Lp):Int→Option (Stp (Int) (Bool)):=fun a =>
 br (Ap (a<(ln l.logs))) (
 ck (IX a (ln l.logs)) <|
 bd (Gj (ele l.logs a) 0 6) fun b =>
 br (!b) (
 some (.ret Az)) (
 ck (IR (a+1)) <|
 some (.next (a+1)))) (
 some (.brk a))
noncomputable def Kq (l:Lp):(Int×Int)→Option (Stp (Int×Int) (Bool)):=fun (b,a) =>
 br (Ap (a<(ln l.outs))) (
 ck (IX a (ln l.outs)) <|
 ck (IR (b+1)) <|
 bd (Gj (ele l.outs a) (b+1) (ln l.body)) fun c =>
 br (!c) (
 some (.ret Az)) (
 ck (IR (a+1)) <|
 some (.next ((ele l.outs a),(a+1))))) (
 some (.brk (b,a)))
noncomputable def H4 (l:Lp):Int→Option (Stp (Int) (Bool)):=fun a =>
 br (Ap (a<(ln l.body))) (
 bdG (!(Ap ((ln l.body)>16))) (Q4 l a) fun b =>
 br ((Ap ((ln l.body)>16)) || (!b)) (
 some (.ret Az)) (
 ck (IR (a+1)) <|
 some (.next (a+1)))) (
 some (.brk a))
noncomputable def Is (l:Lp):Option (Bool) :=
 bd (lp (Kr l) 0) fun b=>b.on (fun e =>
 bd (lp (Kq l) ((-1),0)) fun c=>c.on (fun (d,f) =>
 bd (lp (H4 l) 0) fun a=>a.on (fun g =>
 some ((Ap ((ln l.logs)≤3))&&(Ap ((ln l.body)>0)))) (fun r=>some r)) (fun r=>some r)) (fun r=>some r)
noncomputable def K1 (s:Sta):Int→Option (Stp (Int) (Bool)):=fun a =>
 br (Ap (a<(ln s.bef))) (
 ck (IX a (ln s.bef)) <|
 br ((ln (ele s.bef a)) != 3) (
 some (.ret Az)) (
 ck (IR (a+1)) <|
 some (.next (a+1)))) (
 some (.brk a))
noncomputable def Kz (l:Lp) (s:Sta):Int→Option (Stp (Int) (Bool)):=fun a =>
 br (Ap (a<(ln s.mem))) (
 ck (IX a (ln s.mem)) <|
 ck (IX a (ln l.logs)) <|
 ck (0≤(ele l.logs a)) <|
 br ((ln (ele s.mem a)) != (shlD 1 (ele l.logs a))) (
 some (.ret Az)) (
 ck (IR (a+1)) <|
 some (.next (a+1)))) (
 some (.brk a))
noncomputable def Pc (l:Lp) (s:Sta):Option (Bool) :=
 bd (Is l) fun c =>
 br (((!c) || ((ln s.bef) != (ln l.body))) || ((ln s.mem) != (ln l.logs))) (
 some Az) (
 bd (lp (K1 s) 0) fun b=>b.on (fun d =>
 bd (lp (Kz l s) 0) fun a=>a.on (fun e =>
 some true) (fun r=>some r)) (fun r=>some r))
noncomputable def Aei (s:Stm):Option (List Rf) :=
 br (s.op==4) (
 some [s.a]) (
 br (Ap (s.op>10)) (
 some [s.a,s.b]) (
 some []))
end Go.Rd
end
section
namespace Go.Rd
open Go.RowKit Go.ChangeShapes Go.WideShapes Go.ChangeAt
section
variable {H : Type} {enc : TypeId × Al → H} {P : Bz} {w : Ak} {base : Nat} {spare : Nat → Bool} {held : Bool}
end
end Go.Rd
end
section
namespace Go.Rd
open Go.RowKit Go.ChangeShapes Go.WideShapes Go.ChangeAt
section
variable {H : Type} {enc : TypeId × Al → H} {P : Bz} {w : Ak} {base : Nat} {spare : Nat → Bool} {held : Bool}
def Opr.InRo (o:Opr):Prop:=∀ x∈[o.slot,o.stage,o.op,o.dest,o.a,o.b,o.ar,o.sp,o.pl,o.n],InR x
structure KrnRep (w:Ak) (v:Al) (k:Krn):Prop where
 ops:Arr w v 10 (k.ops.map Opr.cells)
 pace:InR k.pace
 stages:InR k.stages
 rops:∀ o∈k.ops,o.InRo
 len:k.ops.length≤maxLen
structure PlnRep (w:Ak) (v:Al) (k:Pln):Prop where
 times:Arr w v 1 (k.times.map Ar)
 pace:InR k.pace
 rtimes:∀ o∈k.times,InR o
 len:k.times.length≤maxLen
structure RowsOk (xss:List (List Int)):Prop where
 rng:∀ xs∈xss,∀ x∈xs,InR x
 lens:∀ xs∈xss,xs.length≤maxLen
 len:xss.length≤maxLen
end
end Go.Rd
end
section
namespace Go.Rd
theorem Dz {p:Prop} (h:p):tb p=true:=A4b h
theorem C3 {p:Prop} (h:¬p):tb p=Az:=Ayg h
def Ajo (t:Tgt) (i:Nat):Prop:=1≤Cv t.u0 t.u1 t.u2 i∧Cv t.u0 t.u1 t.u2 i≤4∧1≤Cv t.w0 t.w1 t.w2 i∧Cv t.w0 t.w1 t.w2 i≤6
theorem Aj0 (t:Tgt):(∀ i,i<3→Ajo t i)↔((1≤t.u0∧t.u0≤4∧1≤t.w0∧t.w0≤6)∧(1≤t.u1∧t.u1≤4∧1≤t.w1∧t.w1≤6)∧(1≤t.u2∧t.u2≤4∧1≤t.w2∧t.w2≤6)):=by
 constructor
 ·intro h
  exact⟨h 0 Aa,h 1 Aa,h 2 Aa⟩
 ·rintro⟨a,b,c⟩ i hi
  match i,hi with
  | 0,_=>exact a
  | 1,_=>exact b
  | 2,_=>exact c
theorem Aov (t:Tgt) (i:Nat) (hi:i<3) (f:Int→Option (Stp Int Bool)) (b:f i=br (Ap ((i:Int)<3)) (
  ck (IX (i:Int) 3)<|ck ((!(Ap ((Cv t.u0 t.u1 t.u2 i)<1)))=true→IX (i:Int) 3)<|ck ((!((Ap ((Cv t.u0 t.u1 t.u2 i)<1)) || (Ap ((Cv t.u0 t.u1 t.u2 i)>4))))=true→IX (i:Int) 3) <|
  ck ((!(((Ap ((Cv t.u0 t.u1 t.u2 i)<1)) || (Ap ((Cv t.u0 t.u1 t.u2 i)>4))) || (Ap ((Cv t.w0 t.w1 t.w2 i)<1))))=true→IX (i:Int) 3) <|
  br ((((Ap ((Cv t.u0 t.u1 t.u2 i)<1)) || (Ap ((Cv t.u0 t.u1 t.u2 i)>4))) || (Ap ((Cv t.w0 t.w1 t.w2 i)<1))) || (Ap ((Cv t.w0 t.w1 t.w2 i)>6))) (some (.ret Az)) (ck (IR ((i:Int)+1))<|some (.next ((i:Int)+1)))) (some (.brk (i:Int)))) :
  (Ajo t i→f i=some (.next ((i:Int)+1)))∧(¬Ajo t i→f i=some (.ret Az)):=by
 have a:IX (i:Int) 3:=⟨Aa,Aa⟩;rw[b,Ck Aa,Ax a,Fv (fun _=>a),Fv (fun _=>a),Fv (fun _=>a),Ay Aa Aa];unfold Ajo;constructor
 ·intro h
  have:((((Ap ((Cv t.u0 t.u1 t.u2 i)<1)) || (Ap ((Cv t.u0 t.u1 t.u2 i)>4))) || (Ap ((Cv t.w0 t.w1 t.w2 i)<1))) || (Ap ((Cv t.w0 t.w1 t.w2 i)>6)))=Az:=by
   simp only[Th,Hs];omega
  rw[this];rfl
 ·intro h
  have:((((Ap ((Cv t.u0 t.u1 t.u2 i)<1)) || (Ap ((Cv t.u0 t.u1 t.u2 i)>4))) || (Ap ((Cv t.w0 t.w1 t.w2 i)<1))) || (Ap ((Cv t.w0 t.w1 t.w2 i)>6)))=true:=by
   simp only[W8,Ij];omega
  rw[this];rfl
theorem Jr (t:Tgt):Gy t=some (Df t):=by
 unfold Gy;have b:=Aj0 t;rcases V3 (f:=Oa t) (n:=3) (p:=Ajo t) (fun i hi _=>Aov t i hi _ rfl) (by unfold Oa;exact Cn Aa) with ⟨h,e⟩ | ⟨h,e⟩
 ·rw[e,bd_ret,Out.on_go]
  congr 1;rw[b] at h;unfold Df;rw[←Bool.decide_and];exact decide_eq_decide.2 ⟨fun a=>⟨h.1,h.2.1,h.2.2,a⟩,fun a=>a.2.2.2⟩
 ·rw[e,bd_ret,Out.on_ret]
  congr 1;rw[b] at h;exact(Ajz.2 fun a=>h ⟨a.1,a.2.1,a.2.2.1⟩).symm
theorem Asd (t:Tgt):Ah7 t=some (Df t):=by
 unfold Ah7;have b:=Aj0 t;rcases V3 (f:=Aeh t) (n:=3) (p:=Ajo t) (fun i hi _=>Aov t i hi _ rfl) (by unfold Aeh;exact Cn Aa) with ⟨h,e⟩ | ⟨h,e⟩
 ·rw[e,bd_ret,Out.on_go]
  congr 1;rw[b] at h;unfold Df;rw[←Bool.decide_and];exact decide_eq_decide.2 ⟨fun a=>⟨h.1,h.2.1,h.2.2,a⟩,fun a=>a.2.2.2⟩
 ·rw[e,bd_ret,Out.on_ret]
  congr 1;rw[b] at h;exact(Ajz.2 fun a=>h ⟨a.1,a.2.1,a.2.2.1⟩).symm
theorem N9 (t:Tgt) (op:Int):G1 t op=some (Fb t op):=by
 have a:=Kw op;unfold G1 Fb;rw[Jr,bd_ret]
 cases h:Df t with
 | true=>simp only[F9,br_false,Nt];rw[Pb,bd_ret,A8 a.1 a.2]
 | false=>rfl
theorem Ase (t:Tgt) (op:Int):Aeg t op=some (Fb t op):=by
 have a:=Kw op;unfold Aeg Fb;rw[Asd,bd_ret]
 cases h:Df t with
 | true=>simp only[F9,br_false,Nt];rw[Aqb,bd_ret,A8 a.1 a.2]
 | false=>rfl
theorem Aa9 (s:Stm):Fh s=some (Bm s):=by
 unfold Fh Bm;simp only[Aaa,Dk,Ij];(repeat' split) <;> rfl
theorem Asf (s:Stm):Aei s=some (Bm s):=by
 unfold Aei Bm;simp only[Aaa,Dk,Ij];(repeat' split) <;> rfl
theorem ref_s (l:Lp) (k:Int) (r:Rf):S5 l k r=some (tb (RefOk l.body.length k r)):=by
 unfold S5 Gj bdG;simp only[bd_ret,Aaa,Dk];by_cases a:r.bk=0
 ·rw[Bj a,a]
  simp only[show ((0:Int)≥0) from Aa,show ((0:Int)<4) from Aa,decide_true,Adf,Nt,Rl];congr 1;refine L6 ?_;simp only[Fa,Ij];unfold RefOk;omega
 ·rw[Bg a]
  by_cases b:0≤r.bk∧r.bk<4
  ·simp only[show r.bk≥0 from b.1,b.2,decide_true,Adf,Nt,Rl]
   congr 1;refine L6 ?_;simp only[Fa,Ij];unfold RefOk ln;omega
  ·have:(Ap (r.bk≥0)&&Ap (r.bk<4))=Az:=by
    simp only[Z4,Hs];omega
   rw[this];simp only[Bool.false_eq_true,if_false,Adj];congr 1;exact(C3 (by unfold RefOk;omega)).symm
structure Lp.Fine (l:Lp):Prop where
 rlogs:∀ x∈l.logs,InR x
 rbody:∀ x∈l.body,x.InR
 routs:∀ x∈l.outs,InR x
 llogs:l.logs.length≤maxLen
 lbody:l.body.length≤maxLen
 louts:l.outs.length≤maxLen
theorem LpRep.fine {w:Ak}{v1 v2 v3:Al}{l:Lp} (h:LpRep w v1 v2 v3 l):l.Fine:=⟨h.rlogs,h.rbody,h.routs,h.llogs,h.lbody,h.louts⟩
theorem Ev:maxLen=9223372036854775807:=rfl
theorem A38 (r:Rf):([r.st,r.bk]==[(0:Int),0])=tb r.isZero:=by
 refine L6 ?_;simp[Rf.isZero]
theorem Avt (l:Lp) (k:Int) (s:Stm) (g:l.body.length≤maxLen):(Arz l.body.length k (Bm s).length s∧lp (Hx l k (Bm s)) 0=some (.go ((Bm s).length:Int))) ∨
  (¬Arz l.body.length k (Bm s).length s∧lp (Hx l k (Bm s)) 0=some (.ret Az)):=by
 have d:=O1 s
 have:=V3 (f:=Hx l k (Bm s)) (n:=(Bm s).length) (p:=fun i=>RefOk l.body.length k ((Bm s).getD i Rf.zero)) (fun i hi _=>by
  have e:Hx l k (Bm s) i=br (!tb (RefOk l.body.length k ((Bm s).getD i Rf.zero))) (some (.ret Az)) (some (.next ((i:Int)+1))):=by
   unfold Hx;rw[Ck (by unfold ln;omega),A8 Aa (by unfold ln;omega),ref_s,bd_ret,Ay Aa Aa];rfl
  constructor
  ·intro h;rw[e,Dz h];rfl
  ·intro h;rw[e,C3 h];rfl) (by unfold Hx;exact Cn (by unfold ln;omega))
 rcases this with ⟨h,e⟩ | ⟨h,e⟩
 ·exact .inl ⟨fun j c b=>h j b,e⟩
 ·exact .inr ⟨fun a=>h fun i hi=>a i Aa hi,e⟩
theorem A5z (s:Stm):((s.ar==0&&s.sp==0)&&s.pl==0)=tb (Mx s):=by
 refine L6 ?_;simp[Mx,Vp]
theorem wordB (nl:Int) (s:Stm):(((Ap (s.ar≥0)&&Ap (s.ar<nl))&&(Ap (s.sp≥-64)&&Ap (s.sp<65)))&&(Ap (s.pl≥-64)&&Ap (s.pl<65)))=tb (Lr nl s):=by
 refine L6 ?_;simp only[Fa,Ij];unfold Lr;omega
theorem Aa0 {p q:Prop}:(tb p&&tb q)=tb (p∧q):=by
 refine L6 ?_;rw[Fa,Al8,Al8]
theorem A5x (l:Lp) (k:Nat) (v:k<l.body.length) (o:l.Fine):Q4 l k=some (tb (V9 l.logs.length l.body.length k (ele l.body k))):=by
 have t:(ele l.body k).InR:=Wf o.rbody v;have q:=t.1;unfold Rd.InR at q;have x:=o.lbody;rw[Ev] at x;generalize hs:ele l.body k=s at *;have z:(Stm.mk s.op s.a s.b s.ar s.sp s.pl s.n)=s:=rfl;unfold Q4;rw[A8 Aa (by unfold ln;omega),hs,z,Aa9];unfold Gj;simp only[bd_ret,O4];rcases Avt l k s o.lbody with ⟨p,e⟩ | ⟨p,e⟩
 ·rw[e]
  simp only[bd_ret,Out.on_go];rw[Ht (Avu (nl:=l.logs.length) p Aa),A5z,A38,A38];have w:∀ A B C:Bool,((A&&(if A=true then B else Az))&&(if (A&&(if A=true then B else Az))=true then C else Az))=((A&&B)&&C):=Ah;rw[w,show ln l.logs=(l.logs.length:Int) from rfl,wordB];simp only[Aaa,Dk,T4];by_cases d:s.op=1
  ·rw[Bj d,Ht (A55 d),Aa0,Aa0,Ht (Vp)]
  ·rw[Bg d]
   by_cases c:s.n=0
   ·rw[Bg (by simpa using c)]
    by_cases f:s.op=2
    ·rw[Bj f,Ht (A54 f c),Aa0,Aa0,Ht (Vp)]
    ·rw[Bg f]
     by_cases g:s.op=3
     ·rw[Bj g,Ht (A53 g c),Aa0,Aa0,Ht (Vp)]
     ·rw[Bg g]
      by_cases i:s.op=4
      ·rw[Bj i,Ht (A52 i c),Aa0]
      ·rw[Bg i,Ht (A51 d f g i c)]
       have y:=A0f q
       have r:(Ap (IntKind.i64.wrap (s.op - 10)≥1)&&Ap (IntKind.i64.wrap (s.op - 10)<9))=tb (11≤s.op∧s.op≤18):=by
        refine L6 ?_;rw[Fa,Ij,Ij];exact y
       rw[r];by_cases m:Mx s
       ·rw[Dz m,Bj rfl,Rl]
        congr 1;exact Ht ⟨fun h=>⟨m,h⟩,fun h=>h.2⟩
       ·rw[C3 m,Adj]
        congr 1;exact(C3 fun h=>m h.1).symm
   ·rw[Bj (by simpa using c)]
    congr 1;exact(C3 (A50 d c)).symm
 ·rw[e]
  simp only[bd_ret,Out.on_ret];congr 1;refine(C3 fun h=>p fun j E u=>?_).symm;exact(Aot.2 ⟨h.1,h.2.1⟩) j u
def Ayb (l:Lp) (j:Nat):Prop:=0≤l.logs.getD j 0∧l.logs.getD j 0≤5
theorem A2w {l:Lp}:Amn l l.logs.length↔∀ i,i<l.logs.length→Ayb l i:=⟨fun h i hi=>h i Aa,fun h j a=>h j Aa⟩
def Ar1 (l:Lp) (j:Nat):Prop:=V9 l.logs.length l.body.length j (l.body.getD j Stm.zero)
theorem A3r {l:Lp}:Amo l l.body.length↔∀ i,i<l.body.length→Ar1 l i:=⟨fun h i hi=>h i Aa,fun h j a=>h j Aa⟩
theorem Acb (l:List Int) (i:Nat):ele l (i:Int)=l.getD i 0:=rfl
theorem A3j (l:List Stm) (i:Nat):ele l (i:Int)=l.getD i Stm.zero:=rfl
theorem A6h (l:Lp) (a:l.Fine):(Amn l l.logs.length∧lp (Kr l) 0=some (.go (l.logs.length:Int)))∨(¬Amn l l.logs.length∧lp (Kr l) 0=some (.ret Az)):=by
 have b:=a.llogs;rw[Ev] at b;rw[A2w];refine V3 (fun i hi _=>?_) (by unfold Kr;exact Cn (by unfold ln;omega))
 have e:Kr l i=br (!(Ap (l.logs.getD i 0≥0)&&Ap (l.logs.getD i 0<6))) (some (.ret Az)) (some (.next ((i:Int)+1))):=by
  unfold Kr Gj;rw[Ck (by unfold ln;omega),A8 Aa (by unfold ln;omega),bd_ret,Ay Aa Aa];rfl
 rw[e];constructor
 ·intro h
  rw[show (Ap (l.logs.getD i 0≥0)&&Ap (l.logs.getD i 0<6))=true from by simp only[Fa,Ij];unfold Ayb at h;omega];rfl
 ·intro h
  rw[show (Ap (l.logs.getD i 0≥0)&&Ap (l.logs.getD i 0<6))=Az from by simp only[Z4,Hs];unfold Ayb at h;omega];rfl
theorem Ayq (l:Lp) (f:l.Fine):∀ (m i:Nat),i+m=l.outs.length→Aba l i →
  (Aba l l.outs.length∧∃ x,lp (Kq l) (Kv l i,i)=some (.go (x,(l.outs.length:Int))))∨(¬Aba l l.outs.length∧lp (Kq l) (Kv l i,i)=some (.ret Az))
 | 0,i,h,hp=>by
  have hi:i=l.outs.length:=Aa;subst hi;exact .inl ⟨hp,_,Db (by unfold Kq;exact Cn (by unfold ln;omega))⟩
 | m+1,i,h,hp=>by
  have p:=f.louts;have o:=f.lbody;rw[Ev] at p o;have r:=Asq Aa hp;have g:=A0e (l:=l) (i:=i) Aa hp;rw[I9] at g
  have e:Kq l (Kv l i,i)=br (!(Ap (l.outs.getD i 0≥Kv l i+1)&&Ap (l.outs.getD i 0<l.body.length))) (some (.ret Az)) (some (.next (l.outs.getD i 0,(i:Int)+1))):=by
   unfold Kq Gj;simp only;rw[Ck (by unfold ln;omega),A8 Aa (by unfold ln;omega),Ay Aa Aa,bd_ret,Ay Aa Aa];rfl
  by_cases c:Kv l i+1≤l.outs.getD i 0∧l.outs.getD i 0<l.body.length
  ·have d:(Ap (l.outs.getD i 0≥Kv l i+1)&&Ap (l.outs.getD i 0<l.body.length))=true:=by simp only[Fa,Ij];exact c
   rw[d,F9,br_false] at e;have q:Aba l ((i:Int)+1):=A2e hp Aa (by rw[I9];exact g.1 c);have j:=Anu (l:=l) (i:=i) Aa;rw[I9] at j;have k:=Ayq l f m (i+1) Aa q;rw[show ((i+1:Nat):Int)=(i:Int)+1 from rfl,j] at k;rcases k with ⟨a,x,b⟩ | ⟨a,b⟩
   ·exact .inl ⟨a,x,(Ly e).trans b⟩
   ·exact .inr ⟨a,(Ly e).trans b⟩
  ·have d:(Ap (l.outs.getD i 0≥Kv l i+1)&&Ap (l.outs.getD i 0<l.body.length))=Az:=by simp only[Z4,Hs];omega
   rw[d,Kc,br_true] at e;exact .inr ⟨fun n=>c (g.2 (n i Aa)),Hw e⟩
theorem A6t (l:Lp) (b:l.Fine) (c:l.body.length≤16):(Amo l l.body.length∧lp (H4 l) 0=some (.go (l.body.length:Int)))∨(¬Amo l l.body.length∧lp (H4 l) 0=some (.ret Az)):=by
 rw[A3r];refine V3 (fun i hi _=>?_) (by unfold H4;exact Cn (by unfold ln;omega))
 have e:H4 l i=br (!tb (Ar1 l i)) (some (.ret Az)) (some (.next ((i:Int)+1))):=by
  have a:¬ln l.body>16:=by unfold ln;omega
  unfold H4;rw[Ck (by unfold ln;omega),A5x l i hi b,W7 a,Ay Aa Aa,A3j];simp only[Kc,bdG_t,bd_ret,W6,Ar1]
 rw[e];exact⟨fun h=>by rw[Dz h];rfl,fun h=>by rw[C3 h];rfl⟩
theorem Agr (l:Lp) (i:l.Fine):Is l=some (tb (LoopOk l)):=by
 unfold Is;rcases A6h l i with ⟨d,a⟩ | ⟨d,a⟩
 ·rw[a,bd_ret,Out.on_go]
  have j:=Ayq l i l.outs.length 0 Aa (A2d);rw[show Kv l ((0:Nat):Int)=-1 from rfl] at j;rcases j with ⟨f,x,b⟩ | ⟨f,b⟩
  ·rw[show ((-1:Int),(0:Int))=(-1,((0:Nat):Int)) from rfl,b,bd_ret,Out.on_go]
   simp only;by_cases e:l.body.length≤16
   ·rcases A6t l i e with ⟨g,c⟩ | ⟨g,c⟩
    ·rw[c,bd_ret,Out.on_go]
     congr 1;refine L6 ?_;simp only[Fa,Ij];unfold ln;exact⟨fun h=>⟨Aa,Aa,e,d,f,g⟩,fun h=>⟨by have:=h.1;omega,by have:=h.2.1;omega⟩⟩
    ·rw[c,bd_ret,Out.on_ret]
     congr 1;exact(C3 fun h=>g h.2.2.2.2.2).symm
   ·have:H4 l 0=some (.ret Az):=by
     unfold H4;rw[Ck (by unfold ln;omega),show (Ap (ln l.body>16))=true from Ls (by unfold ln;omega)];rfl
    rw[Hw this,bd_ret,Out.on_ret];congr 1;exact(C3 fun h=>e h.2.2.1).symm
  ·rw[show ((-1:Int),(0:Int))=(-1,((0:Nat):Int)) from rfl,b,bd_ret,Out.on_ret]
   congr 1;exact(C3 fun h=>f h.2.2.2.2.1).symm
 ·rw[a,bd_ret,Out.on_ret]
  congr 1;exact(C3 fun h=>d h.2.2.2.1).symm
theorem Apu (l:List (List Int)) (i:Nat):ele l (i:Int)=l.getD i []:=rfl
theorem LoopOk.log {l:Lp} (h:LoopOk l) (i:Nat) (hi:i<l.logs.length):0≤l.logs.getD i 0∧l.logs.getD i 0≤5:=h.2.2.2.1 i Aa
theorem LoopOk.out {l:Lp} (h:LoopOk l) (i:Nat) (hi:i<l.outs.length):0≤l.outs.getD i 0∧l.outs.getD i 0<l.body.length:=⟨(h.2.2.2.2.1 i Aa).1,(h.2.2.2.2.1 i Aa).2.1⟩
theorem LoopOk.stm {l:Lp} (h:LoopOk l) (i:Nat) (hi:i<l.body.length):V9 l.logs.length l.body.length i (l.body.getD i Stm.zero):=h.2.2.2.2.2 i Aa
theorem neB {a b:Int}:(a != b)=!tb (a=b):=by
 have:(!(a != b))=tb (a=b):=L6 Bf;rw[←this,Adc]
theorem Uy {l:Lp} (h:LoopOk l):l.outs.length≤16:=by
 have a:=h.2.2.2.2.1
 have key:∀ i:Nat,i<l.outs.length→(i:Int)≤l.outs.getD i 0:=by
  intro i
  induction i with
  | zero=>intro hi;exact(a 0 Aa).1
  | succ i f =>
   intro hi;have b:=f Aa;have c:=(a (i+1) Aa).2.2 i rfl;omega
 rcases Vt 16 l.outs.length with e | d
 ·have b:=key 16 e
  have c:=(a 16 Aa).2.1;have:=h.2.2.1;omega
 ·exact d
theorem AL8 {n:Nat} (h:n≤100000):AL n 8:=⟨by rw[Ev];omega,Aa⟩
theorem A11 {n:Nat} (h:n≤100000):AL n 24:=⟨by rw[Ev];omega,Aa⟩
theorem G8 {γ ρ:Type}{f:γ→Option (Stp γ ρ)} (st:Nat→γ) (n:Nat) (step:∀ i,i<n→f (st i)=some (.next (st (i+1)))) (a:f (st n)=some (.brk (st n))):lp f (st 0)=some (.go (st n)):=by
 have key:∀ m i:Nat,i+m=n→lp f (st i)=some (.go (st n)):=by
  intro m
  induction m with
  | zero =>
   intro i hi;have:i=n:=Aa;subst this;exact Db a
  | succ m b=>exact fun i hi=>B4 (step i Aa) (b (i+1) Aa)
 exact key n 0 Aa
theorem Lz {γ ρ:Type}{f:γ→Option (Stp γ ρ)} (st:Nat→γ) (n:Nat) (p:Nat→Prop) (q:Nat→ρ) (step:∀ i,i<n→(∀ j,j<i→p j)→(p i→f (st i)=some (.next (st (i+1))))∧(¬p i→f (st i)=some (.ret (q i)))) (s:f (st n)=some (.brk (st n))) :
  ((∀ i,i<n→p i)∧lp f (st 0)=some (.go (st n)))∨(∃ i,i<n∧¬p i∧(∀ j,j<i→p j)∧lp f (st 0)=some (.ret (q i))):=by
 have key:∀ m i:Nat,i+m=n→(∀ j,j<i→p j)→((∀ i,i<n→p i)∧lp f (st i)=some (.go (st n)))∨(∃ k,k<n∧¬p k∧(∀ j,j<k→p j)∧lp f (st i)=some (.ret (q k))):=by
  intro m
  induction m with
  | zero =>
   intro i hi g;have:i=n:=Aa;subst this;exact .inl ⟨g,Db s⟩
  | succ m u =>
   intro i hi g;obtain⟨l,r⟩:=step i Aa g;by_cases h:p i
   ·have t:∀ j,j<i+1→p j:=fun j o=>by
     by_cases e:j=i
     ·subst e;exact h
     ·exact g j Aa
    rcases u (i+1) Aa t with ⟨a,b⟩ | ⟨k,a,b,c,d⟩
    ·exact .inl ⟨a,B4 (l h) b⟩
    ·exact .inr ⟨k,a,b,c,B4 (l h) d⟩
   ·exact .inr ⟨i,Aa,h,g,Hw (r h)⟩
 exact key n 0 Aa (fun j o=>absurd o (Rn _))
theorem Am6 {α γ ρ:Type}{f:γ→Option (Stp γ ρ)} (mk:α→Int→γ) {n:Nat} (Inv:Nat→α→Prop) (step:∀ (i:Nat) g,i<n→Inv i g→∃ g',f (mk g (i:Int))=some (.next (mk g' ((i:Int)+1)))∧Inv (i+1) g') (k:∀ g,f (mk g (n:Int))=some (.brk (mk g (n:Int)))) (g0:α) (c:Inv 0 g0) :
  ∃ g,lp f (mk g0 0)=some (.go (mk g (n:Int)))∧Inv n g:=by
 have key:∀ m i:Nat,i+m=n→∀ g,Inv i g→∃ g',lp f (mk g (i:Int))=some (.go (mk g' (n:Int)))∧Inv n g':=by
  intro m
  induction m with
  | zero =>
   intro i hi g a;have:i=n:=Aa;subst this;exact⟨g,Db (k g),a⟩
  | succ m l =>
   intro i hi g a;obtain⟨g',d,e⟩:=step i g Aa a;obtain⟨b,h,j⟩:=l (i+1) Aa g' e;exact⟨b,B4 d h,j⟩
 exact key n 0 Aa g0 c
theorem A2u {α ρ:Type}{f:α×Int→Option (Stp (α×Int) ρ)}{n:Nat} (Inv:Nat→α→Prop) (Rr:ρ→Prop) (step:∀ (i:Nat) g,i<n→Inv i g→(∃ g',f (g,(i:Int))=some (.next (g',(i:Int)+1))∧Inv (i+1) g')∨(∃ r,f (g,(i:Int))=some (.ret r)∧Rr r)) (k:∀ g,f (g,(n:Int))=some (.brk (g,(n:Int)))) (g0:α) (j:Inv 0 g0) :
  (∃ g,lp f (g0,0)=some (.go (g,(n:Int)))∧Inv n g)∨(∃ r,lp f (g0,0)=some (.ret r)∧Rr r):=by
 have key:∀ m i:Nat,i+m=n→∀ g,Inv i g→(∃ g',lp f (g,(i:Int))=some (.go (g',(n:Int)))∧Inv n g')∨(∃ r,lp f (g,(i:Int))=some (.ret r)∧Rr r):=by
  intro m
  induction m with
  | zero =>
   intro i hi g e;have:i=n:=Aa;subst this;exact .inl ⟨g,Db (k g),e⟩
  | succ m l =>
   intro i hi g e;rcases step i g Aa e with ⟨g',a,b⟩ | ⟨r,a,b⟩
   ·rcases l (i+1) Aa g' b with ⟨h,c,d⟩ | ⟨r,c,d⟩
    ·exact .inl ⟨h,B4 a c,d⟩
    ·exact .inr ⟨r,B4 a c,d⟩
   ·exact .inr ⟨r,Hw a,b⟩
 exact key n 0 Aa g0 j
theorem Il {α:Type} [Inhabited α] {n:Nat}{g:Nat→α}{i:Nat} (h:i<n):ele ((List.range n).map g) (i:Int)=g i:=by
 rw[Dj,Ec,Zz,List.getElem?_range h];rfl
theorem Aex {α:Type}{n:Nat}{g:Nat→α}:ln ((List.range n).map g)=n:=by unfold ln;simp
theorem rm_succ {α:Type}{n:Nat}{g:Nat→α}:(List.range n).map g++[g n]=(List.range (n+1)).map g:=by rw[Vx,Q0];rfl
theorem Aay {α:Type} [Inhabited α] {n:Nat}{g:Nat→α}{i:Nat} (h:i<n) {x:α}:upd ((List.range n).map g) (i:Int) x=(List.range n).map (fun j=>if j=i then x else g j):=by
 apply Xq;intro j;unfold upd;rw[Aat,Zz];by_cases a:j<n
 ·rw[Zz,List.getElem?_range a]
  by_cases e:j=i
  ·subst e;simp[h]
  ·simp[show ¬i=j from fun h=>e h.symm,e]
 ·rw[Zz,Q1 (by simp;omega)]
  have:¬i=j:=Aa;simp[this]
theorem Kf {α:Type}{n:Nat}{g h:Nat→α} (e:∀ i,i<n→g i=h i):(List.range n).map g=(List.range n).map h:=Ara fun i hi=>e i (Vw.1 hi)
theorem AL80 {n:Nat} (h:n≤100000):AL n 80:=⟨by show n≤9223372036854775807;omega,Aa⟩
end Go.Rd
end
section
namespace Go.Rd
open Go.RowKit
section
variable {P : Bz} {n : Nat} {σ : Env} {M : Nat → Prop} {w0 : Ak} {H : List Res} {d : Option Tmp} {T U E S : TypeId} {pos : String} {after : Array Edge} {gd : Option (Nat × Bool)} {x y : En} {g g' : Bool} {v yv : Al}
 {K:Act→Ak→Prop}{Q:Exit→Act→Ak→Prop}
end
def Ahj (n:Int):Option (List UInt8):=ck (IR n) (some (Fe n))
def Mn (n b:Int):Option (List UInt8):=ck (IR n∧b=10) (some (Fe n))
theorem Akn {w w':Ak} (h:w'=w):Grow w w':=h▸Anz w
open Go.Proofs Go.Shelf in
theorem Akk {w w':Ak}{k:Nat}{os:Array Obj} (h:w'=Sort.grow (w.drewN k) os):Grow w w':=by
 subst h;refine .of ?_ ?_
 ·exact⟨rfl,rfl,rfl,by simp[Sort.grow,World.drewN],fun b a=>by simp[Sort.grow,World.drewN,Array.getElem?_append,a]⟩
 ·simp[Sort.grow,World.drewN]
def V4 : List String := ["internal/strconv.uint64pow10", "strings.asciiSpace", "strconv.ErrSyntax", "strconv.ErrRange", "internal/bytealg.MaxLen"]
structure Glb (P : Bz) (w : Ak) : Prop where
 pow : Lib.TabIs P w "internal/strconv.uint64pow10" .u64 Lib.pow10Tab
 sp : Lib.TabIs P w "strings.asciiSpace" .u8 Lib.asciiSpaceTab
 syn : (P.globalNamed "strconv.ErrSyntax").isSome = true → ∃ t p, w.var? P "strconv.ErrSyntax" = some #[.iface t p]
 rng : (P.globalNamed "strconv.ErrRange").isSome = true → ∃ t p, w.var? P "strconv.ErrRange" = some #[.iface t p]
 mx : ∀ g, P.globalNamed "internal/bytealg.MaxLen" = some g → ∃ m, w.cell? ⟨g, 0, none⟩ = some (.int .i64 m)
theorem Ahd {P:Bz}{w:Ak}{nm:String}{cs:Array Al}{g:Nat} (h:w.var? P nm=some cs) (b:P.globalNamed nm=some g):g<w.heap.size:=by
 unfold World.var? at h;rw[b] at h;simp only[Option.bind_some] at h;rcases Vt g w.heap.size with a | a
 ·exact a
 ·rw[Aes a] at h;exact absurd h Bf
theorem Ach {P:Bz}{w w':Ak}{nm:String}{cs:Array Al} (h:w.var? P nm=some cs) (b:∀ g,P.globalNamed nm=some g→g<w.heap.size→w'.heap[g]?=w.heap[g]?):w'.var? P nm=some cs:=by
 cases a:P.globalNamed nm with
 | none=>unfold World.var? at h;rw[a] at h;exact absurd h Bf
 | some g =>
  have e:=b g a (Ahd h a);unfold World.var? at h ⊢;rw[a] at h ⊢;simp only[Option.bind_some] at h ⊢;rw[e];exact h
theorem Glb.kept {P:Bz}{w w':Ak} (h:Glb P w) (b:∀ nm∈V4,∀ g,P.globalNamed nm=some g→g<w.heap.size→w'.heap[g]?=w.heap[g]?):Glb P w' where
 pow:=Ach h.pow (b _ (by simp[V4]))
 sp:=Ach h.sp (b _ (by simp[V4]))
 syn:=fun hs=>let ⟨t,p,a⟩:=h.syn hs;⟨t,p,Ach a (b _ (by simp[V4]))⟩
 rng:=fun hs=>let ⟨t,p,a⟩:=h.rng hs;⟨t,p,Ach a (b _ (by simp[V4]))⟩
 mx:=fun g c=>let ⟨m,a⟩:=h.mx g c;⟨m,by rw[Adn (w:=w) (w':=w') (b _ (by simp[V4]) g c (Adp _ _ a))];exact a⟩
theorem Glb.lt {P:Bz}{w:Ak} (h:Glb P w) {nm:String} (c:nm∈V4) {g:Nat} (a:P.globalNamed nm=some g):g<w.heap.size:=by
 simp only[V4,Gw,List.mem_nil_iff,or_false] at c;rcases c with rfl | rfl | rfl | rfl | rfl
 ·exact Ahd h.pow a
 ·exact Ahd h.sp a
 ·obtain⟨_,_,b⟩:=h.syn (by rw[a];rfl);exact Ahd b a
 ·obtain⟨_,_,b⟩:=h.rng (by rw[a];rfl);exact Ahd b a
 ·obtain⟨_,b⟩:=h.mx _ a;exact Adp _ _ b
structure GlbM (P:Bz) (M:Nat→Prop) (w:Ak):Prop where
 glb:Glb P w
 out:∀ nm∈V4,∀ g,P.globalNamed nm=some g→¬M g
theorem GlbM.of {P:Bz}{w:Ak} (h:Glb P w):GlbM P noM w:=⟨h,fun _ _ _ _ x=>x⟩
def Xp:=@GlbM.of
theorem GlbM.at {P:Bz}{M:Nat→Prop}{w0 w:Ak}{H:List Res} (h:GlbM P M w0) (d:Own M w0 H w):Glb P w :=
 h.glb.kept fun nm c g a b=>d.1.block g b (h.out nm c g a)
theorem GlbM.lend {P:Bz}{M:Nat→Prop}{w0 w k0 k:Ak}{R e:List Res} (h:GlbM P M w0) (d:Own M w0 (kn M w0.heap.size k0 k::(R++e)) w):GlbM P (Ac8 R) w :=
 ⟨h.at d,fun nm c g b ⟨r,j,i⟩=>by
  obtain⟨f,_,_⟩:=Atd.1 d.2.2;rcases (f.lt r j g i).1 with a | a
  ·exact h.out nm c g b a
  ·exact Nat.lt_irrefl _ (Abu (h.glb.lt c b) a)⟩
section
variable {P : Bz} {n : Nat} {σ : Env} {M : Nat → Prop} {w0 k0 k : Ak} {d : Option Tmp} {T : TypeId} {pos : String} {after : Array Edge} {gd : Option (Nat × Bool)} {K : Act → Ak → Prop} {Q : Exit → Act → Ak → Prop}
theorem Ak8 {X:Type}{R h:List Res}{f:FuncId}{xs:List En}{vs:List Al}{i:Array TypeId} (G:X→Al) (R':X→List Res) (g:X→Ak) (F:X→Prop) (m:GlbM P M w0) (j:Base M k0 w0) (r:∀ dd,d=some dd→dd<n) (p:Enters P f) (v:EvAll σ xs vs)
  (o:∀ M' w,GlbM P M' w→Base M' k w→Own M' w R w→Calls P f vs.toArray w (fun e w'=>∃ X,e=.returned (G X)∧Own M' w (kn M' w.heap.size k (g X)::R' X) w'∧F X))
  (kk:∀ X,F X→Le k (g X)→WK n K ((match d with | some dd=>[(dd,(true,G X))] | none=>[])++σ) (Own M w0 (kn M w0.heap.size k0 (g X)::(R' X++h)))) :
  EV P n ⟨d,.call ⟨.value (.func f),xs.toArray,i⟩,T,pos,after,gd⟩ σ (Own M w0 (kn M w0.heap.size k0 k::(R++h))) K Q:=fun a w b c=>by
 refine .inl ?_;have q:=v.map b
 have t:(execOp a.eval ⟨d,.call ⟨.value (.func f),xs.toArray,i⟩,T,pos,after,gd⟩).run P w=.ok (.enter f vs.toArray) w:=by
  simp[execOp,resolve,Adg,Act.eval,invoke,Pw p,q]
 unfold Ii;rw[t];obtain⟨x,y⟩:=c.lend j;refine(o _ w (m.lend c) x y).mono ?_;rintro e z ⟨u,rfl,s,l⟩;obtain⟨b1,b2⟩:=c.back j s;refine kk u l b2 _ _ ?_ b1
 cases d with
 | none=>exact b
 | some dd=>exact b.put (r dd rfl) true _
theorem crG {X:Type}{R b H:List Res}{f:FuncId}{xs:List En}{vs:List Al}{c:Array TypeId}{G:X→Al}{R':X→List Res}{a:X→Ak}{F:X→Prop} (t:List Nat) (i:GlbM P M w0) (l:Base M k0 w0) (o:Enters P f) (r:Aqw σ xs=some vs)
  (m:∀ M' w,GlbM P M' w→Base M' k w→Own M' w R w→Calls P f vs.toArray w (fun e w'=>∃ X,e=.returned (G X)∧Own M' w (kn M' w.heap.size k (a X)::R' X) w'∧F X)) (j:pickE t H=some (kn M w0.heap.size k0 k::(R++b)))
  (kk:∀ X,F X→Le k (a X)→WK n K ((match d with | some dd=>[(dd,(true,G X))] | none=>[])++σ) (Own M w0 (kn M w0.heap.size k0 (a X)::(R' X++b)))) (q:∀ dd,d=some dd→dd<n:=by intro _ h;cases h;decide) :
  EV P n ⟨d,.call ⟨.value (.func f),xs.toArray,c⟩,T,pos,after,gd⟩ σ (Own M w0 H) K Q:=EV.of (fun _ s=>s.pickE j) (Ak8 G R' a F i l q o (ea r) m fun X g p=>by have h:=kk X g p;cases d <;> exact h)
theorem cqG {X:Type}{R b H:List Res}{f:FuncId}{xs:List En}{vs:List Al}{c:Array TypeId}{G:X→Al}{R':X→List Res}{a:X→Ak}{F:X→Prop} (i:GlbM P M w0) (l:Base M k0 w0) (o:Enters P f) (r:Aqw σ xs=some vs)
  (m:∀ M' w,GlbM P M' w→Base M' k w→Own M' w R w→Calls P f vs.toArray w (fun e w'=>∃ X,e=.returned (G X)∧Own M' w (kn M' w.heap.size k (a X)::R' X) w'∧F X)) (j:H=kn M w0.heap.size k0 k::(R++b))
  (kk:∀ X,F X→Le k (a X)→WK n K ((match d with | some dd=>[(dd,(true,G X))] | none=>[])++σ) (Own M w0 (kn M w0.heap.size k0 (a X)::(R' X++b)))) (q:∀ dd,d=some dd→dd<n:=by intro _ h;cases h;decide) :
  EV P n ⟨d,.call ⟨.value (.func f),xs.toArray,c⟩,T,pos,after,gd⟩ σ (Own M w0 H) K Q:=j▸(Ak8 G R' a F i l q o (ea r) m fun X g p=>by have h:=kk X g p;cases d <;> exact h)
end
def opsT:List UInt8:=[97,100,100,32,115,117,98,32,109,117,108,32,97,110,100,32,111,114,32,120,111,114,32,108,101,115,115,32,115,97,109,101]
def opsW:List (List UInt8):=[[97,100,100],[115,117,98],[109,117,108],[97,110,100],[111,114],[120,111,114],[108,101,115,115],[115,97,109,101]]
def Acs (s:List UInt8):Option (List (List UInt8)):=ck (s=opsT) (some opsW)
theorem Asy:Lib.fields opsT=opsW:=Ag
theorem Aw0:∀ (j:Nat) b,(opsT.toArray.toList)[j]?=some b→b.toNat<128:=fun j b h=>by
 have a:∀ b∈opsT,b.toNat<128:=Ah;exact a b (Xs (by simpa using h))
theorem Aj1 {M:Nat→Prop}{w w' c:Ak}{T:TypeId} (l:List (List UInt8)) (d:Base M c w) (k:Own M w [] w) (e:l.length≤maxLen) (g:w'=w.alloc (.cells (l.map fun (q:List UInt8)=>Ada ⟨q.toArray⟩).toArray T)) :
  ∃ X:Al×Ak,(Value.slice (some ⟨w.heap.size,0,none⟩) l.length l.length)=X.1∧Own M w (kn M w.heap.size c X.2::[]) w'∧Arr X.2 X.1 1 (l.map O0):=by
 subst g
 have h:(l.map O0).flatten=l.map fun (q:List UInt8)=>Ada ⟨q.toArray⟩:=by
  induction l with
  | nil=>rfl
  | cons x l m=>rw[Vv,Vv,Z0,m (by simp at e;omega)];rfl
 have a:=(Av d k).push (w':=w.alloc (.cells (l.map fun (q:List UInt8)=>Ada ⟨q.toArray⟩).toArray T)) (Aqq _) (blk w.heap.size (l.map fun (q:List UInt8)=>Ada ⟨q.toArray⟩) T) (Adh w _) (fun b a=>by
  have:b=w.heap.size:=a;subst this
  simp)
 have j:=a.blkVec O0 l h Ad4 e;obtain⟨k',_,i,f⟩:=(j.front 1 rfl).freeze d;exact⟨(_,k'),rfl,f,Cj i⟩
open Go.Proofs Go.Shelf in
theorem Asx {P : Bz} {ρ : Ren} (L : Lays.n157 P ρ) (n : (P.info? (ρ.t 9)).map (fun i => (i.zero, i.size, i.bytes)) = some (some (.string ByteArray.empty), 1, 16)) (m : P.globalNamed "strings.asciiSpace" = some (ρ.g 0)) {s : List UInt8} {r : List (List UInt8)} {b : Ak} (p : Acs s = some r) (M : Nat → Prop) (w : Ak) (l : GlbM P M w) (o : Base M b w) (q : Own M w [] w) :
  Calls P (ρ.f 157) #[B5 s] w (fun e w' => ∃ X : Al × Ak, e = .returned (X.1) ∧ Own M w (kn M w.heap.size b X.2 :: []) w' ∧ Arr X.2 X.1 1 (r.map O0)) := by
 obtain⟨rfl, a⟩ := Qw p;obtain rfl := Ad a;refine(Any.strings_Fields L n m ⟨opsT.toArray⟩ w Ah Aw0 l.glb.sp).mono ?_;rintro e w' ⟨c, d⟩;have h : (N1 opsT.toArray).data.toList = opsT := Bf;rw[h, Asy] at c d;obtain⟨X, j, a, k⟩ := Aj1 opsW o q Ah d;exact⟨X, by rw[c, ← j], a, k⟩
open Go.Proofs Go.Shelf in
theorem A0t {P:Bz}{ρ:Ren} (L:LaysM.n171 P ρ) {n:Int}{r:List UInt8} (w:Ak) (d:Ahj n=some r) (c:Glb P w):Calls P (ρ.f 171) #[.int .i64 n] w (fun e w'=>e=.returned (B5 r)∧Grow w w'):=by
 obtain⟨h,a⟩:=Qw d;obtain rfl:=Ad a;refine(Any.strconv_Itoa L n h.1 h.2 w c.pow).mono ?_;rintro e w' ⟨b,k,os,g⟩;exact⟨b,Akk g⟩
open Go.Proofs Go.Shelf in
theorem Asv {P:Bz}{ρ:Ren} (L:LaysM.n173 P ρ) {n b:Int}{r:List UInt8} (w:Ak) (g:Mn n b=some r) (d:Glb P w):Calls P (ρ.f 173) #[.int .i64 n,.int .i64 b] w (fun e w'=>e=.returned (B5 r)∧Grow w w'):=by
 obtain⟨⟨h,rfl⟩,a⟩:=Qw g;obtain rfl:=Ad a;refine(Any.strconv_FormatInt_10 L n h.1 h.2 w d.pow).mono ?_;rintro e w' ⟨c,k,os,i⟩;exact⟨c,Akk i⟩
end Go.Rd
end
section
namespace Go.Rd
noncomputable def N7 (a:Int):Option (List UInt8) :=
 bd (Mn a 10) fun b =>
 some b
noncomputable def Lo :((List UInt8)×Int)→Option (Stp ((List UInt8)×Int) (Empty)):=fun (c,a) =>
 bd (show Option (Out (Int) (Empty)) from br (Ap ((Int.tmod a 10)<0)) (
 ck (IR (-(Int.tmod a 10))) <|
 some (.go (-(Int.tmod a 10)))) (
 some (.go (Int.tmod a 10)))) fun d=>d.on (fun b =>
 ck (IR (48+b)) <|
 ck (SL ([(bt (48+b))]++c)) <|
 ck (IR (Int.tdiv a 10)) <|
 br ((Int.tdiv a 10)==0) (
 some (.brk (([(bt (48+b))]++c),(Int.tdiv a 10)))) (
 some (.next (([(bt (48+b))]++c),(Int.tdiv a 10))))) (fun r=>r.elim)
noncomputable def Nd (b:Int):Option (List UInt8) :=
 bd (lp (Lo) ([],b)) fun c=>c.on (fun (a,d) =>
 br (Ap (b<0)) (
 ck (SL ([45]++a)) <|
 some ([45]++a)) (
 some a)) (fun r=>r.elim)
theorem Mc {u:Nat} (h:u<10):L5 u=[Qd (48+u)]:=by rw[L5,dif_pos h]
theorem V7 {u:Nat} (h:¬u<10):L5 u=L5 (u / 10)++[Qd (48+u % 10)]:=by rw[L5,dif_neg h]
theorem Adx:∀ (k u:Nat),u<10 ^ (k+1)→(L5 u).length≤k+1
 | 0,u,h=>by rw[Mc (by simpa using h)];simp
 | k+1,u,h=>by
  by_cases a:u<10
  ·rw[Mc a];simp
  ·rw[V7 a,Ca]
   have:=Adx k (u / 10) (by rw[Adb] at h;omega);simp only[Ef,E6];omega
theorem Ahz {n:Int} (h:InR n):(Fe n).length≤20:=by
 obtain⟨a,b⟩:=h;unfold Fe;split
 ·have:=Adx 18 n.natAbs Aa;simp only[Ef];omega
 ·have:=Adx 18 n.toNat Aa;omega
theorem Afb {left:Int}{s:List UInt8} (h:InR left) (hs:s.length≤1000) :
  Lo (s,left)=some (if left.natAbs<10 then .brk ([Qd (48+left.natAbs % 10)]++s,0) else .next ([Qd (48+left.natAbs % 10)]++s,Int.tdiv left 10)):=by
 obtain⟨l,n⟩:=h;have i:∃ m:Nat,left.natAbs=m:=⟨_,rfl⟩;obtain⟨m,d⟩:=i
 have key:br (Ap (Int.tmod left 10<0)) (ck (IR (-(Int.tmod left 10)))<|some (Out.go (-(Int.tmod left 10)):Out Int Empty)) (some (.go (Int.tmod left 10)))=some (.go ((m % 10:Nat):Int))∧(Int.tdiv left 10=((m / 10:Nat):Int)∨Int.tdiv left 10=-((m / 10:Nat):Int)):=by
  rcases Int.natAbs_eq left with e | e
  ·rw[d] at e
   have b:Int.tmod left 10=((m % 10:Nat):Int):=by rw[e];exact(Int.ofNat_tmod m 10).symm
   have c:Int.tdiv left 10=((m / 10:Nat):Int):=by rw[e];exact(Alk m 10).symm
   rw[b,Cn Aa];exact⟨rfl,.inl c⟩
  ·rw[d] at e
   have b:Int.tmod left 10=-((m % 10:Nat):Int):=by rw[e,Int.neg_tmod];exact congrArg (- ·) (Int.ofNat_tmod m 10).symm
   have c:Int.tdiv left 10=-((m / 10:Nat):Int):=by rw[e,Int.neg_tdiv];exact congrArg (- ·) (Alk m 10).symm
   rw[b];refine⟨?_,.inr c⟩;by_cases f:m % 10=0
   ·rw[f,Cn Bf];rfl
   ·rw[Ck Aa,Ay Aa Aa];simp
 have g:bt (48+((m % 10:Nat):Int))=Qd (48+m % 10):=by
  unfold bt;congr 1;omega
 have j:IR (Int.tdiv left 10):=by rcases key.2 with e | e <;> rw[e] <;> exact⟨Aa,Aa⟩
 have f:(Int.tdiv left 10==0)=Ap (m<10):=by
  by_cases a:m<10
  ·rw[Ls a]
   rcases key.2 with e | e <;> rw[e] <;> simp <;> omega
  ·rw[W7 a]
   rcases key.2 with e | e <;> rw[e] <;> simp <;> omega
 have k:m<10→Int.tdiv left 10=0:=fun a=>by rcases key.2 with e | e <;> rw[e] <;> omega
 unfold Lo;simp only;rw[key.1,bd_ret,Out.on_go,Ay Aa Aa,g,A45 (by simp only[Ca,Ef,E6];omega),Ax j,f,d];by_cases a:m<10
 ·rw[Ck a,Bj a,k a]
 ·rw[Cn a,Bg a]
theorem Azr (left:Int):(Int.tdiv left 10).natAbs=left.natAbs / 10:=by
 rcases Int.natAbs_eq left with e | e
 ·generalize left.natAbs=m at e
  rw[e,show Int.tdiv (m:Int) 10=((m / 10:Nat):Int) from (Alk m 10).symm];omega
 ·generalize left.natAbs=m at e
  rw[e,Int.neg_tdiv,show Int.tdiv (m:Int) 10=((m / 10:Nat):Int) from (Alk m 10).symm];omega
theorem Aku:∀ (k:Nat) (left:Int) (s:List UInt8),left.natAbs<10 ^ (k+1)→InR left→s.length+k≤1000→lp Lo (s,left)=some (.go (L5 left.natAbs++s,0))
 | 0,left,s,h,hr,hs=>by
  have e:=Afb hr (by omega:s.length≤1000)
  have a:left.natAbs<10:=by simpa using h
  rw[Bj a,Alp a] at e;rw[Db e,Mc a]
 | k+1,left,s,h,hr,hs=>by
  have e:=Afb hr (by omega:s.length≤1000);by_cases a:left.natAbs<10
  ·rw[Bj a,Alp a] at e
   rw[Db e,Mc a]
  ·rw[Bg a] at e
   have b:=Azr left;have:=Aku k (Int.tdiv left 10) ([Qd (48+left.natAbs % 10)]++s) (by rw[b];rw[Adb] at h;omega) (by unfold InR at hr ⊢;omega) (by simp only[Ca,Ef,E6];omega);rw[B4 e this,V7 a,b,G6]
theorem Ap3 {n:Int} (h:InR n):Nd n=some (Fe n):=by
 have e:=Aku 18 n [] (by unfold InR at h;omega) h Bf;have b:=Adx 18 n.natAbs (by unfold InR at h;omega);unfold Nd Fe;rw[e,bd_ret,Out.on_go,N2];dsimp only;by_cases a:n<0
 ·rw[Ck a,Bj a,A45 (by simp only[Ca,Ef,E6];omega)];rfl
 ·rw[Cn a,Bg a,show n.natAbs=n.toNat from Aa]
theorem Azg {n:Int} (h:InR n):Ahj n=some (Fe n):=Ax h
theorem A0h {n:Int} (h:InR n):N7 n=some (Fe n):=by unfold N7 Mn;rw[Ax ⟨h,rfl⟩,bd_ret]
def Au8 (r:Rf):List UInt8:=35::(Fe r.st++if r.bk=0 then [] else 126::Fe r.bk)
def Art (s:Stm):List UInt8:=Fe s.ar++32::(Fe s.sp++32::Fe s.pl)
def A1q (s:Stm):List UInt8 :=
 if s.op=1 then [99,111,110,115,116,32]++Fe s.n else if s.op=2 then [116,117,114,110] else if s.op=3 then [108,111,97,100,32]++Art s
 else if s.op=4 then [115,116,111,114,101,32]++(Art s++32::Au8 s.a) else ele opsW (s.op - 11)++32::(Au8 s.a++32::Au8 s.b)
structure StmNum (s:Stm):Prop where
 r:s.InR
 a0:s.op=4∨s.op>10→0≤s.a.bk
 b0:s.op>10→0≤s.b.bk
 op:s.op=1∨s.op=2∨s.op=3∨s.op=4∨(11≤s.op∧s.op≤18)
theorem A1k:Acs [97,100,100,32,115,117,98,32,109,117,108,32,97,110,100,32,111,114,32,120,111,114,32,108,101,115,115,32,115,97,109,101]=some opsW:=Ax (c:=_=opsT) rfl
def arrT (n:Int):List UInt8:=[97,114,114,97,121,32]++(Fe n++[10])
def lnT (s:Stm):List UInt8:=A1q s++[10]
def outT (n:Int):List UInt8:=[111,117,116,32]++(Fe n++[10])
def V0 (l:Lp):List UInt8:=((l.logs.map arrT).flatten++(l.body.map lnT).flatten)++(l.outs.map outT).flatten
end Go.Rd
end
section
namespace Go.Rd
open Go.RowKit
theorem Qt (l:List UInt8):(N1 l.toArray).size=l.length:=by simp[ByteArray.size]
theorem E8 (l:List UInt8):(N1 l.toArray).data.toList=l:=Bf
def Tn (s a:List UInt8):Option (List (List UInt8)):=ck (s.length<4294967281∧1≤a.length) (some (Vq s a))
def Ats (s a:List UInt8):Option (List UInt8×List UInt8×Bool):=ck (s.length<4294967281) (some (Lib.cut s a))
def Jy (s p:List UInt8):Option (List UInt8):=some (Sj s p)
def Pf (s p:List UInt8):Option (List UInt8×Bool):=some (Sj s p,P4 s p)
def Aru (B:Nat) (s:List UInt8):Int×Bool :=
 match Sq B s with
 | .ok v=>(v,Az)
 | .range=>(Lib.intSat B s,true)
 | _=>(0,true)
def Wt (s:List UInt8) (b z:Int):Option (Int×Bool):=ck ((b=10∧z=64)∧s.length≤281474976710656) (some (Aru 64 s))
def Aq2 (v:Al) (b:Bool):Prop:=if b=true then ∃ t p,v=.iface t p else v=.nilIface
section
variable {P : Bz} {n : Nat} {σ : Env} {d : Option Tmp} {T U : TypeId} {pos : String} {after : Array Edge} {gd : Option (Nat × Bool)} {x : En} {g : Bool} {v : Al} {b : Bool} {ms : Array (String × TypeId)}
theorem Aj9 {w:Ak} (e:Nat) (h:P.underlying U=some (.interface ms)) (a:Aq2 v b):(T3 (e+1) U v .nilIface).run P w=.ok (!b) w:=by
 cases b with
 | true=>obtain⟨t,p,rfl⟩:=a;simp[T3,E5 h]
 | false=>obtain rfl:v=.nilIface:=a;simp[T3,E5 h]
theorem Axb {C:Ak→Prop}{z:TypeId} (j:P.underlying U=some (.interface ms)) (m:σ.ev x=some (g,v)) (l:g=true) (c:Aq2 v b) :
  QV P ⟨d,.binOp .eql U x (.const .nilIface) z,T,pos,after,gd⟩ σ C (.bool (!b)):=.of_run fun n a k w o=>by
 have e:=k.ev m l;have f:a.eval (.const .nilIface)=.nilIface:=rfl
 have h:(eqGuard .eql U x (.const .nilIface) v .nilIface).run P w=.ok () w:=by
  cases b with
  | true=>obtain⟨t,p,rfl⟩:=c;simp[eqGuard]
  | false=>obtain rfl:v=.nilIface:=c;rw[eqGuard_nil_constR];rfl
 have i:(binOp .eql U v .nilIface).run P w=.ok (.bool (!b)) w:=by
  simp only[binOp];simp[Op.equal,Op.maxDepth,Aj9 (P:=P) (w:=w) 9999 j c]
 simp only[execOp,e,f,Uk,h,i,Um,T6]
theorem Aw9 {C:Ak→Prop}{z:TypeId} (j:P.underlying U=some (.interface ms)) (m:σ.ev x=some (g,v)) (l:g=true) (c:Aq2 v b) :
  QV P ⟨d,.binOp .neq U x (.const .nilIface) z,T,pos,after,gd⟩ σ C (.bool b):=.of_run fun n a k w o=>by
 have e:=k.ev m l;have f:a.eval (.const .nilIface)=.nilIface:=rfl
 have h:(eqGuard .neq U x (.const .nilIface) v .nilIface).run P w=.ok () w:=by
  cases b with
  | true=>obtain⟨t,p,rfl⟩:=c;simp[eqGuard]
  | false=>obtain rfl:v=.nilIface:=c;rw[eqGuard_nil_constR];rfl
 have i:(binOp .neq U v .nilIface).run P w=.ok (.bool b) w:=by
  simp only[binOp];simp[Op.equal,Op.maxDepth,Aj9 (P:=P) (w:=w) 9999 j c]
 simp only[execOp,e,f,Uk,h,i,Um,T6]
end
section
variable {P : Bz} {n : Nat} {σ : Env} {C : Ak → Prop} {d : Option Tmp} {T U : TypeId} {pos : String} {after : Array Edge} {gd : Option (Nat × Bool)} {x lo hi : En} {g g' g'' : Bool} {l : List UInt8} {k k' : IntKind} {i j : Int}
theorem Yz (l:List UInt8) (i j:Int) (a:0≤i) (b:i≤j):(N1 l.toArray).extract i.toNat j.toNat=N1 (Rd.sub l i j).toArray:=by
 have e:((N1 l.toArray).extract i.toNat j.toNat).data.toList=Rd.sub l i j:=by
  rw[Lib.extract_data,E8];unfold Rd.sub;rw[show j.toNat - i.toNat=(j - i).toNat from Aa]
 rw[←e]
theorem A1g (c:P.underlying U=some .string) (r:σ.ev x=some (g,B5 l)) (f:g=true) (q:σ.ev lo=some (g',.int k i)) (m:g'=true) (p:σ.ev hi=some (g'',.int k' j)) (o:g''=true) (h:SX i j (ln l)) :
  QV P ⟨d,.slice U x (some lo) (some hi) none,T,pos,after,gd⟩ σ C (B5 (Rd.sub l i j)):=.of_run fun n a b w s=>by
 have e:=run_slice_string (P:=P) w U ⟨l.toArray⟩ k k' i j c h.1 h.2.1 (by rw[Qt];exact h.2.2);rw[Yz l i j h.1 h.2.1] at e;simp[execOp,b.ev r f,b.ev q m,b.ev p o,B5,Aq5 _ _ _ _ _ _ c,e]
theorem A3x (b:P.underlying U=some .string) (q:σ.ev x=some (g,B5 l)) (m:g=true) (p:σ.ev lo=some (g',.int k i)) (o:g'=true) (h:SX i (ln l) (ln l)) :
  QV P ⟨d,.slice U x (some lo) none none,T,pos,after,gd⟩ σ C (B5 (Rd.sub l i (ln l))):=.of_run fun n a c w r=>by
 have f:=run_slice_string_from_if (P:=P) w U ⟨l.toArray⟩ k i b;have e:=Yz l i (ln l) h.1 h.2.1;rw[show (ln l).toNat=l.length by unfold ln;simp] at e;rw[Bj ⟨h.1,by rw[Qt];exact h.2.1⟩,Qt,e] at f;simp[execOp,c.ev q m,c.ev p o,B5,Aq5 _ _ _ _ _ _ b,f]
theorem A3y (b:P.underlying U=some .string) (q:σ.ev x=some (g,B5 l)) (m:g=true) (p:σ.ev hi=some (g'',.int k' j)) (o:g''=true) (h:SX 0 j (ln l)) :
  QV P ⟨d,.slice U x none (some hi) none,T,pos,after,gd⟩ σ C (B5 (Rd.sub l 0 j)):=.of_run fun n a c w r=>by
 have f:=run_slice_string_to_if (P:=P) w U ⟨l.toArray⟩ k' j b;have e:=Yz l 0 j (Fo _) h.2.1;rw[Bj ⟨h.2.1,by rw[Qt];exact h.2.2⟩,show (0:Nat)=(0:Int).toNat from rfl,e] at f;simp[execOp,c.ev q m,c.ev p o,B5,Aq5 _ _ _ _ _ _ b,f]
end
def Agl (b:Nat) (i:Int):List Al:=[.pointer (some ⟨b,i.toNat,none⟩)]
theorem Akb {b:Nat}:∀ u:Int,(Agl b u).length=1:=fun _=>rfl
def Z6 (ns:List Int):Stm:=⟨ns.getD 0 0,⟨ns.getD 1 0,ns.getD 2 0⟩,⟨ns.getD 3 0,ns.getD 4 0⟩,ns.getD 5 0,ns.getD 6 0,ns.getD 7 0,ns.getD 8 0⟩
theorem Ap5 {ns:List Int} (h:ns.length=9):ns.map Dv=(Z6 ns).cells:=by
 match ns,h with
 | [_,_,_,_,_,_,_,_,_],_=>rfl
section
variable {P : Bz} {n : Nat} {σ : Env} {M : Nat → Prop} {w0 : Ak} {H : List Res} {T U E : TypeId} {pos : String} {after : Array Edge} {gd : Option (Nat × Bool)} {x y : En} {g g' : Bool} {v : Al} {K : Act → Ak → Prop} {Q : Exit → Act → Ak → Prop} {b : Nat}
theorem Ata {xs:List Int} (k:Nat) (i a z2:Int) {q:Addr} (o:σ.ev x=some (g,.pointer (some q))) (e:g=true) (p:σ.ev y=some (g',v)) (f:g'=true) (j:H[k]?=some (blk b (xs.map Dv) E)) (l:q=⟨b,i.toNat,none⟩) (hi:IX i (ln xs)) (h:IX (i+1) (ln xs))
  (m:v.cells=[Dv a,Dv z2].toArray) (hs:Dt P T 2) (kk:WK n K σ (Own M w0 (H.set k (blk b ((upd (upd xs i a) (i+1) z2).map Dv) E)))):EV P n ⟨none,.store T x y,U,pos,after,gd⟩ σ (Own M w0 H) K Q:=by
 have r:=hi.1;have d:=h.2;unfold ln at d;refine EV.store k (vs:=[Dv a,Dv z2]) o e p f j l m hs (by simp;omega) (fun u c=>by simp at c;rcases c with rfl | rfl <;> rfl) ?_;rw[show Nz (xs.map Dv) i.toNat [Dv a,Dv z2]=(upd (upd xs i a) (i+1) z2).map Dv from by simp[Nz,upd,List.map_set,show (i+1).toNat=i.toNat+1 from Aa]];exact kk
theorem Y3 {fn:Func}{R:Ending→Ak→Prop}{C:Ak→Prop}{ty j:TypeId}{p e sz sz2:Nat}{q i:Addr}{cs cs2:List Al} (B:fn.results=#[.cell p ty,.cell e j]) (m:Sg P ty sz) (t:cs.length=sz) (z:σ.look p=some (true,.pointer (some q))) (r:∀ w,C w→CellsAt w q cs 0)
  (o:Sg P j sz2) (u:cs2.length=sz2) (A:σ.look e=some (true,.pointer (some i))) (s:∀ w,C w→CellsAt w i cs2 0)
  (h:∀ w,C w→R (.returned (.tuple #[.agg cs.toArray,.agg cs2.toArray])) w):WK n (bodyPost P fn R .ret) σ C:=fun a w c d=>by
 refine⟨c.defers,_,?_,h w d⟩;have f:=c.look p true _ z;have a2:=c.look e true _ A;simp at f a2;have k:=J1 (P:=P) m t (r w d);have l:=J1 (P:=P) o u (s w d);simp[results,B,f,a2,asAddr,k,l]
end
open Go.Proofs Go.Shelf in
theorem Avw {P : Bz} {ρ : Ren} (L : Lays.n146 P ρ) (x : (P.info? (ρ.t 9)).map (fun i => (i.zero, i.size, i.bytes)) = some (some (.string ByteArray.empty), 1, 16)) (v : P.globalNamed "internal/bytealg.MaxLen" = some (ρ.g 1)) {s a : List UInt8} {r : List (List UInt8)} {h : Ak} (z : Tn s a = some r) (M : Nat → Prop) (w : Ak) (u : GlbM P M w) (y : Base M h w) (C : Own M w [] w) :
  Calls P (ρ.f 146) #[B5 s, B5 a] w (fun e w' => ∃ X : Al × Ak, e = .returned (X.1) ∧ Own M w (kn M w.heap.size h X.2 :: []) w' ∧ Arr X.2 X.1 1 (r.map O0)) := by
 obtain⟨⟨o, j⟩, p⟩ := Qw z;obtain rfl := Ad p;obtain⟨mx, A⟩ := u.glb.mx _ v;refine(Any.strings_Split L x ⟨s.toArray⟩ ⟨a.toArray⟩ mx w (by rw[Qt]; exact o) A (by rw[Qt]; exact j)).mono ?_;rintro e w' ⟨m, d⟩;have c := Lib.splitB_data ⟨a.toArray⟩ 0 (Lib.countB ⟨s.toArray⟩ ⟨a.toArray⟩) ⟨s.toArray⟩;rw[E8, E8] at c
 have k : Lib.countB ⟨s.toArray⟩ ⟨a.toArray⟩ = Lib.count s a := by unfold Lib.countB; rw[E8, E8]
 rw[k] at c m d;have l : (Lib.splitB ⟨a.toArray⟩ 0 (Lib.count s a) ⟨s.toArray⟩).map (·.data.toList) = Vq s a := c
 have B : (Lib.splitB ⟨a.toArray⟩ 0 (Lib.count s a) ⟨s.toArray⟩).map Ada = (Vq s a).map fun (q : List UInt8) => Ada ⟨q.toArray⟩ := by
  rw[← l, List.map_map];exact Ara fun b _ => Bf
 have n : (Vq s a).length = Lib.count s a + 1 := by
  rw[← l, Gl];have := Lib.splitB_all ⟨a.toArray⟩ (by rw[Qt]; exact j) 0 _ ⟨s.toArray⟩ rfl;rw[k] at this;exact this
 rw[B] at d;have H : Lib.count s a ≤ s.length + 1 := Lib.count_le _ _;obtain⟨X, E, F, G⟩ := Aj1 (Vq s a) y C (by rw[n]; show _ ≤ 9223372036854775807; omega) d;exact⟨X, by rw[m, ← E, n], F, G⟩
theorem As1 (w:Ak) (k:Nat):Grow w (w.drewN k):=.of ⟨rfl,rfl,rfl,Co _,fun _ _=>rfl⟩ (by simp[World.drewN])
open Go.Proofs Go.Shelf in
theorem A3o {P : Bz} {ρ : Ren} (L : Lays.n145 P ρ) (i : P.globalNamed "internal/bytealg.MaxLen" = some (ρ.g 1)) {s a : List UInt8} {r : List UInt8 × List UInt8 × Bool} (w : Ak) (j : Ats s a = some r) (h : Glb P w) : Calls P (ρ.f 145) #[B5 s, B5 a] w (fun e w' => e = .returned (.tuple #[B5 r.1, B5 r.2.1, .bool r.2.2]) ∧ Grow w w') := by
 obtain⟨c, d⟩ := Qw j;obtain rfl := Ad d;obtain⟨mx, l⟩ := h.mx _ i;refine(Any.strings_Cut L ⟨s.toArray⟩ ⟨a.toArray⟩ mx w (by rw[Qt]; exact c) l).mono ?_;rintro e w' ⟨b, k, rfl⟩;rw[E8, E8] at b;exact⟨b, As1 w k⟩
open Go.Proofs Go.Shelf in
theorem Azo {P:Bz}{ρ:Ren} (L:Lays.n101 P ρ) {s p r:List UInt8} (w:Ak) (b:Jy s p=some r):Calls P (ρ.f 101) #[B5 s,B5 p] w (fun e w'=>e=.returned (B5 r)∧Grow w w'):=by
 obtain rfl:=Ad b;refine(Any.strings_TrimPrefix L ⟨s.toArray⟩ ⟨p.toArray⟩ w).mono ?_;rintro e w' ⟨a,c⟩;rw[E8,E8] at a;exact⟨a,Akn c⟩
open Go.Proofs Go.Shelf in
theorem A01 {P:Bz}{ρ:Ren} (L:Lays.n103 P ρ) {s p:List UInt8}{r:List UInt8×Bool} (w:Ak) (b:Pf s p=some r):Calls P (ρ.f 103) #[B5 s,B5 p] w (fun e w'=>e=.returned (.tuple #[B5 r.1,.bool r.2])∧Grow w w'):=by
 obtain rfl:=Ad b;refine(Any.strings_CutPrefix L ⟨s.toArray⟩ ⟨p.toArray⟩ w).mono ?_;rintro e w' ⟨a,c⟩;rw[E8,E8] at a;exact⟨a,Akn c⟩
section
open Go.Proofs Go.Shelf
variable {P : Bz} {ρ : Ren}
set_option maxHeartbeats 4000000 in
set_option maxRecDepth 100000 in
theorem Air (L:LaysM.n316 P ρ) (s:ByteArray) (w:Ak) (F:s.size≤281474976710656):Calls P (ρ.f 316) #[.string s] w fun e w'=>e=.returned (.string s)∧Grow w w':=by
 have mixed:=L.mixed;have t5:=L.t5;have a5:=L.a5;have z5:=L.z5;have v5:=L.v5;have t9:=L.t9;have a9:=L.a9;have z9:=L.z9;have v9:=L.v9;have t3:=L.t3;have a3:=L.a3;have z3:=L.z3;have v3:=L.v3;have t4:=L.t4;have a4:=L.a4;have z4:=L.z4;have v4:=L.v4;have t37:=L.t37;have a37:=L.a37;have z37:=L.z37;have v37:=L.v37;have t0:=L.t0;have a0:=L.a0;have z0:=L.z0;have v0:=L.v0;have t127:=L.t127;have a127:=L.a127;have z127:=L.z127;have v127:=L.v127;rcases Als s.size with a | a
 ·obtain rfl:s=⟨#[]⟩:=ByteArray.ext (Array.eq_empty_of_size_eq_zero a)
  go_enter L.f316,Body.n316_ntmps ρ;go_wp2;go_ret;exact⟨rfl,Anz _⟩
 ·obtain⟨i0,hi,z,d,A⟩:=info_parts L.i5
  have v:(P.info? (ρ.t 5)).map (·.size)=some 1:=by rw[hi];simp[d]
  have u:P.cellsOf (ρ.t 5)=1:=by simp[Program.cellsOf,hi,d]
  obtain⟨Z,c⟩:∃ Z,madeCells (Value.int .u8 0).cells (((s.size:Nat):Int).toNat * i0.size)=Z:=⟨_,rfl⟩
  have C:Z.size=s.size:=by rw[←c,size_madeCells,d];simp
  have G:∀ W:Ak,(Instr.makeSlice (ρ.t 37) (.int .i64 (s.size:Int)) (.int .i64 (s.size:Int))).run P W=.ok (.slice (some ⟨W.heap.size,0,none⟩) s.size s.size) (W.alloc (.cells Z (ρ.t 5))):=fun W=>by
   have h:=run_make (P:=P) W (ρ.t 37) (ρ.t 5) i0 (.int .u8 0) L.t37 hi z .i64 .i64 (s.size:Int) (s.size:Int) Aa Aa (by rw[A];omega) Aa;rw[c] at h;simpa using h
  clear c;obtain⟨w1,m⟩:∃ w1,w.alloc (.cells Z (ρ.t 5))=w1:=⟨_,rfl⟩
  have l:w1.heap[w.heap.size]?=some (.cells Z (ρ.t 5) (0,0)):=by rw[←m];exact Adh w _
  have q:=Lib.run_copy_row_string (P:=P) w1 (ρ.t 37) (ρ.t 9) (ρ.t 3) (ρ.t 5) w.heap.size 0 s.size s.size s Z (ρ.t 5) L.t37 v l (Co _) Aa;obtain⟨Y,b⟩:∃ Y,(Z.toList.take 0++Lib.byteCells s.data.toList++Z.toList.drop (0+s.size)).toArray=Y:=⟨_,rfl⟩;rw[b] at q
  have g:Y.toList=Lib.byteCells s.data.toList:=by
   rw[←b,List.toList_toArray,List.take_zero,Ua,List.drop_of_length_le (by rw[Aaw];omega),N2]
  have i:(w1.setRow w.heap.size Y).heap[w.heap.size]?=some (.cells Y (ρ.t 5) (0,0)):=setRow_heap _ _ Z _ (ρ.t 5) (0,0) l
  have B:Y.size=s.size:=by rw[←Aaw,g,Lib.byteCells_length,←Ags]
  have r:s.data.toList≠[]:=fun e=>by rw[Ags,e] at a;exact absurd a Bf
  have n:=Lib.run_unsafeString_row (P:=P) (w1.setRow w.heap.size Y) (ρ.t 127) (ρ.t 3) (ρ.t 9) (ρ.t 5) L.t127 u w.heap.size Y.size (by unfold World.shape?;rw[i]) s.data.toList r (by rw[←Ags];omega) (by rw[←Ags];omega)
   (fun j x y=>Lib.cells_of_row i Y.size j _ (by rw[W9 (by rw[Aaw];exact Co _),g];simp[Lib.byteCells,y]))
  rw[←Ags] at n;clear b;subst m;go_enter L.f316,Body.n316_ntmps ρ;go_wp2;go_ret;have o:Below w.heap.size w ((w.alloc (.cells Z (ρ.t 5))).setRow w.heap.size Y):=((Below.refl _ w).alloc (Co _) _).trans ⟨rfl,rfl,rfl,Bf,fun k E=>setRow_other _ _ _ _ Aa⟩;exact⟨rfl,.of (Lib.below_freeze o (p:=⟨w.heap.size,0,none⟩) (Co _) _) (by rw[Wy];exact Co _)⟩
theorem Akt (w:Ak):Grow w w.drew:=.of ⟨rfl,rfl,rfl,Co _,fun _ _=>rfl⟩ (Nat.le_succ _)
set_option maxHeartbeats 6400000 in
set_option maxRecDepth 100000 in
theorem Ap4 (L:LaysM.n279 P ρ) (fn s:ByteArray) (te:TypeId) (a:Al) (w:Ak) (h:s.size≤281474976710656) (c:w.cell? ⟨(ρ.g 15),0,none⟩=some (.iface te a)) :
  Calls P (ρ.f 279) #[.string fn,.string s] w fun e w'=>∃ N,e=.returned (.pointer (some ⟨N,0,none⟩))∧Grow w w':=by
 have mixed:=L.mixed;have t9:=L.t9;have a9:=L.a9;have z9:=L.z9;have v9:=L.v9;have t168:=L.t168;have a168:=L.a168;have z168:=L.z168;have v168:=L.v168;have t75:=L.t75;have a75:=L.a75;have z75:=L.z75;have v75:=L.v75;have t210:=L.t210;have l:=E5 L.t210;have a210:=L.a210;have z210:=L.z210;have v210:=L.v210;have j:∀ args w,(callFunc (ρ.f 316) args).run P w=.ok (.enter (ρ.f 316) args) w:=enters_of L.f316 Ag rfl;have d:(ρ.g 15)<w.heap.size:=Adi c;have i:w.drew.cell? ⟨(ρ.g 15),0,none⟩=some (.iface te a):=c;go_enter L.f279,Body.n279_ntmps ρ;go_wp2
 go_region_with_o (
   go_at_fn (ρ.f 316);refine(Air { L with } s _ h).mono ?_;rintro e w2 ⟨rfl,b⟩
   have k:w2.cell? ⟨(ρ.g 15),0,none⟩=some (.iface te a):=(b.cell (show (⟨(ρ.g 15),0,none⟩:Addr).block<w.drew.heap.size from d)).trans i)
 all_goals (
  go_wp2;go_ret
  exact⟨_,rfl,((Akt w).trans b).trans (Aqq _)⟩)
set_option maxHeartbeats 6400000 in
set_option maxRecDepth 100000 in
theorem Ap9 (L:LaysM.n280 P ρ) (fn s:ByteArray) (te:TypeId) (a:Al) (w:Ak) (h:s.size≤281474976710656) (c:w.cell? ⟨(ρ.g 16),0,none⟩=some (.iface te a)) :
  Calls P (ρ.f 280) #[.string fn,.string s] w fun e w'=>∃ N,e=.returned (.pointer (some ⟨N,0,none⟩))∧Grow w w':=by
 have mixed:=L.mixed;have t9:=L.t9;have a9:=L.a9;have z9:=L.z9;have v9:=L.v9;have t168:=L.t168;have a168:=L.a168;have z168:=L.z168;have v168:=L.v168;have t75:=L.t75;have a75:=L.a75;have z75:=L.z75;have v75:=L.v75;have t210:=L.t210;have l:=E5 L.t210;have a210:=L.a210;have z210:=L.z210;have v210:=L.v210;have j:∀ args w,(callFunc (ρ.f 316) args).run P w=.ok (.enter (ρ.f 316) args) w:=enters_of L.f316 Ag rfl;have d:(ρ.g 16)<w.heap.size:=Adi c;have i:w.drew.cell? ⟨(ρ.g 16),0,none⟩=some (.iface te a):=c;go_enter L.f280,Body.n280_ntmps ρ;go_wp2
 go_region_with_o (
   go_at_fn (ρ.f 316);refine(Air { L with } s _ h).mono ?_;rintro e w2 ⟨rfl,b⟩
   have k:w2.cell? ⟨(ρ.g 16),0,none⟩=some (.iface te a):=(b.cell (show (⟨(ρ.g 16),0,none⟩:Addr).block<w.drew.heap.size from d)).trans i)
 all_goals (
  go_wp2;go_ret
  exact⟨_,rfl,((Akt w).trans b).trans (Aqq _)⟩)
set_option maxHeartbeats 4000000 in
set_option maxRecDepth 100000 in
theorem Ajx (L:LaysC.n245 P ρ) (fn s:ByteArray) (base bits:Int) (te:TypeId) (a:Al) (w:Ak) (c:s.size≤281474976710656) (d:w.cell? ⟨(ρ.g 15),0,none⟩=some (.iface te a)) :
  Calls P (ρ.f 245) #[.string fn,.string s,.int .i64 base,.int .i64 bits,.iface (ρ.t 167) (.int .i64 2)] w fun e w'=>∃ N,e=.returned (.iface (ρ.t 168) (.pointer (some ⟨N,0,none⟩)))∧Grow w w':=by
 have mixed:=L.mixed;have t9:=L.t9;have a9:=L.a9;have z9:=L.z9;have v9:=L.v9;have t3:=L.t3;have a3:=L.a3;have z3:=L.z3;have v3:=L.v3;have t75:=L.t75;have a75:=L.a75;have z75:=L.z75;have v75:=L.v75;have t167:=L.t167;have a167:=L.a167;have z167:=L.z167;have v167:=L.v167;have t4:=L.t4;have a4:=L.a4;have z4:=L.z4;have v4:=L.v4;have t168:=L.t168;have a168:=L.a168;have z168:=L.z168;have v168:=L.v168;have ent:∀ args w,(callFunc (ρ.f 279) args).run P w=.ok (.enter (ρ.f 279) args) w:=enters_of L.f279 Ag rfl;have h:∀ W,(binOp .eql (ρ.t 75) (.iface (ρ.t 167) (.int .i64 2)) (.iface (ρ.t 167) (.int .i64 2))).run P W=.ok (.bool true) W:=fun W=>Are W 2 2 L.t75 L.c167 L.t167;go_enter L.f245,Body.n245_ntmps ρ;go_wp2_with (go_at_fn (ρ.f 279);refine(Ap4 { L with } fn s te a _ c ?_).mono ?_)
 ·exact d
 rintro e w2 ⟨N,rfl,b⟩;go_wp2;go_ret;exact⟨N,rfl,b⟩
set_option maxHeartbeats 4000000 in
set_option maxRecDepth 100000 in
theorem Ajy (L:LaysC.n245 P ρ) (fn s:ByteArray) (base bits:Int) (te:TypeId) (a:Al) (w:Ak) (c:s.size≤281474976710656) (d:w.cell? ⟨(ρ.g 16),0,none⟩=some (.iface te a)) :
  Calls P (ρ.f 245) #[.string fn,.string s,.int .i64 base,.int .i64 bits,.iface (ρ.t 167) (.int .i64 1)] w fun e w'=>∃ N,e=.returned (.iface (ρ.t 168) (.pointer (some ⟨N,0,none⟩)))∧Grow w w':=by
 have mixed:=L.mixed;have t9:=L.t9;have a9:=L.a9;have z9:=L.z9;have v9:=L.v9;have t3:=L.t3;have a3:=L.a3;have z3:=L.z3;have v3:=L.v3;have t75:=L.t75;have a75:=L.a75;have z75:=L.z75;have v75:=L.v75;have t167:=L.t167;have a167:=L.a167;have z167:=L.z167;have v167:=L.v167;have t4:=L.t4;have a4:=L.a4;have z4:=L.z4;have v4:=L.v4;have t168:=L.t168;have a168:=L.a168;have z168:=L.z168;have v168:=L.v168;have ent:∀ args w,(callFunc (ρ.f 280) args).run P w=.ok (.enter (ρ.f 280) args) w:=enters_of L.f280 Ag rfl;have i:∀ W,(binOp .eql (ρ.t 75) (.iface (ρ.t 167) (.int .i64 1)) (.iface (ρ.t 167) (.int .i64 2))).run P W=.ok (.bool Az) W:=fun W=>Are W 1 2 L.t75 L.c167 L.t167;have h:∀ W,(binOp .eql (ρ.t 75) (.iface (ρ.t 167) (.int .i64 1)) (.iface (ρ.t 167) (.int .i64 1))).run P W=.ok (.bool true) W:=fun W=>Are W 1 1 L.t75 L.c167 L.t167;go_enter L.f245,Body.n245_ntmps ρ;go_wp2_with (go_at_fn (ρ.f 280);refine(Ap9 { L with } fn s te a _ c ?_).mono ?_)
 ·exact d
 rintro e w2 ⟨N,rfl,b⟩;go_wp2;go_ret;exact⟨N,rfl,b⟩
theorem Qp (w:Ak) (e:TypeId) (s:ByteArray):Grow w (Lib.bytesWorld w e s):=.of (Lib.bytesWorld_below _ _ _) (by unfold Lib.bytesWorld;rw[Wy];exact Nat.le_succ _)
set_option maxHeartbeats 4000000 in
set_option maxRecDepth 100000 in
theorem Av6 (L:LaysC.n174 P ρ) (s:ByteArray) (te:TypeId) (b:Al) (w:Ak) (l:s.size≤281474976710656) (h:Sq 64 s.data.toList=Sq 64 []) (d:w.cell? ⟨(ρ.g 15),0,none⟩=some (.iface te b)) :
  Calls P (ρ.f 174) #[.string s,.int .i64 10,.int .i64 64] w fun e w'=>∃ N,e=.returned (.tuple #[.int .i64 (0),.iface (ρ.t 168) (.pointer (some ⟨N,0,none⟩))])∧Grow w w':=by
 have mixed:=L.mixed;have t9:=L.t9;have a9:=L.a9;have z9:=L.z9;have v9:=L.v9;have t3:=L.t3;have a3:=L.a3;have z3:=L.z3;have v3:=L.v3;have t2:=L.t2;have a2:=L.a2;have z2:=L.z2;have v2:=L.v2;have t75:=L.t75;have a75:=L.a75;have z75:=L.z75;have v75:=L.v75;have t85:=L.t85;have a85:=L.a85;have z85:=L.z85;have v85:=L.v85;have t4:=L.t4;have a4:=L.a4;have z4:=L.z4;have v4:=L.v4;have q:∀ args w,(callFunc (ρ.f 247) args).run P w=.ok (.enter (ρ.f 247) args) w:=enters_of L.f247 Ag rfl;have p:∀ args w,(callFunc (ρ.f 245) args).run P w=.ok (.enter (ρ.f 245) args) w:=enters_of L.f245 Ag rfl;have a:=Any.internal_strconv_ParseInt_10_all64 { L with } s Aa w;rw[h] at a;generalize Lib.intSat 64 s.data.toList=sat at a ⊢
 have a:Calls P (ρ.f 247) #[.string s,.int .i64 10,.int .i64 64] w fun e w'=>e=.returned (.tuple #[.int .i64 (0),.iface (ρ.t 167) (.int .i64 2)])∧Grow w w':=a.mono fun e w' ⟨k,n⟩=>⟨k,by
  rcases n with rfl | ⟨t,rfl⟩
  ·exact Anz _
  ·exact Qp _ _ _⟩
 clear h;go_enter L.f174,Body.n174_ntmps ρ;go_wp2_with (go_at_fn (ρ.f 247);refine a.mono ?_);rintro e i ⟨rfl,c⟩;have m:i.cell? ⟨(ρ.g 15),0,none⟩=some (.iface te b):=(c.cell (show (⟨(ρ.g 15),0,none⟩:Addr).block<w.heap.size from Adi d)).trans d;go_wp2_with (go_at_fn (ρ.f 245);refine(Ajx { L with } ⟨#[80,97,114,115,101,73,110,116]⟩ s 10 64 te b _ l ?_).mono ?_)
 ·exact m
 rintro e o ⟨N,rfl,j⟩;go_wp2;go_ret2;exact⟨N,rfl,c.trans j⟩
set_option maxHeartbeats 4000000 in
set_option maxRecDepth 100000 in
theorem Av7 (L:LaysC.n174 P ρ) (s:ByteArray) (te:TypeId) (b:Al) (w:Ak) (l:s.size≤281474976710656) (h:Sq 64 s.data.toList=.range) (d:w.cell? ⟨(ρ.g 16),0,none⟩=some (.iface te b)) :
  Calls P (ρ.f 174) #[.string s,.int .i64 10,.int .i64 64] w fun e w'=>∃ N,e=.returned (.tuple #[.int .i64 (Lib.intSat 64 s.data.toList),.iface (ρ.t 168) (.pointer (some ⟨N,0,none⟩))])∧Grow w w':=by
 have mixed:=L.mixed;have t9:=L.t9;have a9:=L.a9;have z9:=L.z9;have v9:=L.v9;have t3:=L.t3;have a3:=L.a3;have z3:=L.z3;have v3:=L.v3;have t2:=L.t2;have a2:=L.a2;have z2:=L.z2;have v2:=L.v2;have t75:=L.t75;have a75:=L.a75;have z75:=L.z75;have v75:=L.v75;have t85:=L.t85;have a85:=L.a85;have z85:=L.z85;have v85:=L.v85;have t4:=L.t4;have a4:=L.a4;have z4:=L.z4;have v4:=L.v4;have q:∀ args w,(callFunc (ρ.f 247) args).run P w=.ok (.enter (ρ.f 247) args) w:=enters_of L.f247 Ag rfl;have p:∀ args w,(callFunc (ρ.f 245) args).run P w=.ok (.enter (ρ.f 245) args) w:=enters_of L.f245 Ag rfl;have a:=Any.internal_strconv_ParseInt_10_all64 { L with } s Aa w;rw[h] at a;generalize Lib.intSat 64 s.data.toList=sat at a ⊢
 have a:Calls P (ρ.f 247) #[.string s,.int .i64 10,.int .i64 64] w fun e w'=>e=.returned (.tuple #[.int .i64 (sat),.iface (ρ.t 167) (.int .i64 1)])∧Grow w w':=a.mono fun e w' ⟨k,n⟩=>⟨k,by
  rcases n with rfl | ⟨t,rfl⟩
  ·exact Anz _
  ·exact Qp _ _ _⟩
 clear h;go_enter L.f174,Body.n174_ntmps ρ;go_wp2_with (go_at_fn (ρ.f 247);refine a.mono ?_);rintro e i ⟨rfl,c⟩;have m:i.cell? ⟨(ρ.g 16),0,none⟩=some (.iface te b):=(c.cell (show (⟨(ρ.g 16),0,none⟩:Addr).block<w.heap.size from Adi d)).trans d;go_wp2_with (go_at_fn (ρ.f 245);refine(Ajy { L with } ⟨#[80,97,114,115,101,73,110,116]⟩ s 10 64 te b _ l ?_).mono ?_)
 ·exact m
 rintro e o ⟨N,rfl,j⟩;go_wp2;go_ret2;exact⟨N,rfl,c.trans j⟩
theorem Ans (L:LaysC.n174 P ρ) {s:List UInt8}{b z:Int}{r:Int×Bool}{a:Ak} (x:Wt s b z=some r) (M:Nat→Prop) (w:Ak) (n:GlbM P M w) (u:Base M a w) (A:Own M w [] w) :
  Calls P (ρ.f 174) #[B5 s,.int .i64 b,.int .i64 z] w (fun e w'=>∃ X:Al×Ak,e=.returned (.tuple #[.int .i64 r.1,X.1])∧Own M w (kn M w.heap.size a X.2::[]) w'∧Aq2 X.1 r.2):=by
 obtain⟨⟨⟨rfl,rfl⟩,p⟩,q⟩:=Qw x;obtain rfl:=Ad q;have hs:=Av u A;have k:∀ {w'},Grow w w'→Own M w (kn M w.heap.size a a::[]) w':=fun d=>Ga _ _ hs d
 have o:(N1 s.toArray).size≤281474976710656:=by rw[Qt];exact p
 unfold Aru
 cases l:Sq 64 s with
 | ok v =>
  refine(Any.strconv_ParseInt_10_at64_ok L ⟨s.toArray⟩ Aa v (by rw[E8];exact l) w).mono ?_;rintro e w' ⟨c,y⟩;refine⟨(.nilIface,a),c,k ?_,rfl⟩;rcases y with rfl | ⟨t,rfl⟩
  ·exact Anz _
  ·exact Qp _ _ _
 | range =>
  obtain⟨te,h,m⟩:=n.glb.rng (by rw[L.m16];rfl)
  have j:w.cell? ⟨(ρ.g 16),0,none⟩=some (.iface te h):=by have i:=All L.m16 m 0;simpa using i
  refine(Av7 L ⟨s.toArray⟩ te h w o (by rw[E8];exact l) j).mono ?_;rintro e w' ⟨N,c,d⟩;rw[E8] at c;exact⟨(_,a),c,k d,⟨_,_,rfl⟩⟩
 | _ =>
  obtain⟨te,h,m⟩:=n.glb.syn (by rw[L.m15];rfl)
  have j:w.cell? ⟨(ρ.g 15),0,none⟩=some (.iface te h):=by have i:=All L.m15 m 0;simpa using i
  refine(Av6 L ⟨s.toArray⟩ te h w o (by rw[E8];exact l) j).mono ?_;rintro e w' ⟨N,c,d⟩;exact⟨(_,a),c,k d,⟨_,_,rfl⟩⟩
end
end Go.Rd
end
section
namespace Go.Rd
noncomputable def Kx (s:List UInt8) (most:Int):Option (Int×Bool) :=
 bd (Wt s 10 64) fun a =>
 bdG (!a.2) (N7 a.1) fun x5 =>
 bdG ((!a.2)&&(x5==s)) (Jy s [45]) fun b =>
 some (a.1,(((!a.2)&&(x5==s))&&(Ap ((ln b)≤most))))
noncomputable def Ft (s:List UInt8):Option (Int×Bool) :=
 bd (Kx s 18) fun a =>
 some (a.1,a.2)
noncomputable def M4 (s:List UInt8):Option (Rf×Bool) :=
 bd (Pf s [35]) fun c =>
 bd (Ats c.1 [126]) fun x5 =>
 bd (Ft x5.1) fun a =>
 br x5.2.2 (
 bd (Ft x5.2.1) fun b =>
 some ((Rf.mk a.1 b.1),(c.2&&((a.2&&b.2)&&(Ap (b.1>0)))))) (
 some ((Rf.mk a.1 0),(c.2&&a.2)))
noncomputable def G0 (word:List UInt8) (b:List (List UInt8)):Int→Option (Stp (Int) (Int×List UInt8×Bool)):=fun a =>
 br (Ap (a<(ln b))) (
 ck (IX a (ln b)) <|
 br ((ele b a)==word) (
 ck (IR (10+a)) <|
 ck (IR ((10+a)+1)) <|
 some (.ret (((10+a)+1),[114,114],true))) (
 ck (IR (a+1)) <|
 some (.next (a+1)))) (
 some (.brk a))
noncomputable def Pu (word:List UInt8):Option (Int×List UInt8×Bool) :=
 br (word==[99,111,110,115,116]) (
 some (1,[110],true)) (
 br (word==[116,117,114,110]) (
 some (2,[],true)) (
 br (word==[108,111,97,100]) (
 some (3,[110,110,110],true)) (
 br (word==[115,116,111,114,101]) (
 some (4,[110,110,110,114],true)) (
 bd (Acs [97,100,100,32,115,117,98,32,109,117,108,32,97,110,100,32,111,114,32,120,111,114,32,108,101,115,115,32,115,97,109,101]) fun b =>
 bd (lp (G0 word b) 0) fun a=>a.on (fun c =>
 some (0,[],Az)) (fun r=>some r)))))
noncomputable def Da (f:List Stm) (words:List (List UInt8)) (x5:Int×List UInt8×Bool):((List Int)×(List Int)×(List Int)×Int)→Option (Stp ((List Int)×(List Int)×(List Int)×Int) (Bool×List Stm)):=fun (d,c,a,b) =>
 br (Ap (b<(ln (sub words 1 (ln words))))) (
 ck (IX b (ln (sub words 1 (ln words)))) <|
 ck (IX b (ln x5.2.1)) <|
 br (((ele x5.2.1 b).toNat:Int)==110) (
 ck (IX 0 (ln c)) <|
 bd (Ft (ele (sub words 1 (ln words)) b)) fun g =>
 ck (IX (ele c 0) (ln d)) <|
 ck (SX 1 (ln c) (ln c)) <|
 br (!g.2) (
 some (.ret (Az,f))) (
 ck (IR (b+1)) <|
 some (.next ((upd d (ele c 0) g.1),(sub c 1 (ln c)),a,(b+1))))) (
 ck (IX 0 (ln a)) <|
 bd (M4 (ele (sub words 1 (ln words)) b)) fun e =>
 ck (IX (ele a 0) (ln d)) <|
 ck (IX ((ele a 0)+1) (ln d)) <|
 ck (SX 1 (ln a) (ln a)) <|
 br (!e.2) (
 some (.ret (Az,f))) (
 ck (IR (b+1)) <|
 some (.next ((upd (upd d (ele a 0) e.1.st) ((ele a 0)+1) e.1.bk),c,(sub a 1 (ln a)),(b+1)))))) (
 some (.brk (d,c,a,b)))
noncomputable def I3 (g:List Int) (a:List Stm) (e:List Int) (words:List (List UInt8)):Option (Bool×List Stm) :=
 ck (IX 0 (ln words)) <|
 bd (Pu (ele words 0)) fun x5 =>
 ck ((!(!x5.2.2))=true→IR ((ln words) - 1)) <|
 br (((!x5.2.2) || (((ln words) - 1) != (ln x5.2.1))) || (Ap ((ln e)>0))) (
 some (Az,a)) (
 br (x5.1==1) (
 ck (IX 1 (ln words)) <|
 bd (Kx (ele words 1) 19) fun c =>
 ck (AL (a++[(Stm.mk x5.1 (Rf.mk 0 0) (Rf.mk 0 0) 0 0 0 c.1)]).length 72) <|
 some (c.2,(a++[(Stm.mk x5.1 (Rf.mk 0 0) (Rf.mk 0 0) 0 0 0 c.1)]))) (
 ck (SX 1 (ln words) (ln words)) <|
 bd (lp (Da a words x5) (([x5.1,0,0,0,0,0,0,0,0]:List Int),([5,6,7]:List Int),([1,3]:List Int),0)) fun d=>d.on (fun (b,f,h,i) =>
 ck (b.length=9) <|
 ck (AL (a++[(Z6 b)]).length 72) <|
 some (true,(a++[(Z6 b)]))) (fun r=>some r)))
noncomputable def I4 (e:List Int) (d:List Stm) (b:List Int) (s:List UInt8):Option (Bool×List Int×List Stm×List Int) :=
 bd (Tn s [32]) fun a =>
 ck (IX 0 (ln a)) <|
 ck (((ele a 0) != [97,114,114,97,121])=true→IX 0 (ln a)) <|
 br (((ele a 0) != [97,114,114,97,121])&&((ele a 0) != [111,117,116])) (
 bd (I3 e d b a) fun f =>
 some (f.1,e,f.2,b)) (
 br ((ln a) != 2) (
 some (Az,e,d,b)) (
 ck (IX 1 (ln a)) <|
 bd (Ft (ele a 1)) fun c =>
 ck (IX 0 (ln a)) <|
 br ((ele a 0)==[97,114,114,97,121]) (
 ck ((c.2)=true→IR ((ln d)+(ln b))) <|
 ck (AL (e++[c.1]).length 8) <|
 some ((c.2&&(((ln d)+(ln b))==0)),(e++[c.1]),d,b)) (
 ck (AL (b++[c.1]).length 8) <|
 some (c.2,e,d,(b++[c.1])))))
noncomputable def H5 (b:List (List UInt8)):((List Int)×(List Stm)×(List Int)×Int)→Option (Stp ((List Int)×(List Stm)×(List Int)×Int) (Lp×Flt)):=fun (f,e,d,a) =>
 br (Ap (a<(ln (sub b 0 ((ln b) - 1))))) (
 ck (IX a (ln (sub b 0 ((ln b) - 1)))) <|
 bd (I4 d e f (ele (sub b 0 ((ln b) - 1)) a)) fun c =>
 br (!c.1) (
 some (.ret ((Lp.mk [] [] []),(Flt.mk 2 a)))) (
 ck (IR (a+1)) <|
 some (.next (c.2.2.2,c.2.2.1,c.2.1,(a+1))))) (
 some (.brk (f,e,d,a)))
noncomputable def M5 (s:List UInt8):Option (Lp×Flt) :=
 bd (Tn s [10]) fun a =>
 ck (IR ((ln a) - 1)) <|
 ck (SX 0 ((ln a) - 1) (ln a)) <|
 bd (lp (H5 a) ([],[],[],0)) fun e=>e.on (fun (d,c,b,g) =>
 ck (IX ((ln a) - 1) (ln a)) <|
 bdG (!((ele a ((ln a) - 1)) != [])) (Is (Lp.mk b c d)) fun f =>
 br (((ele a ((ln a) - 1)) != []) || (!f)) (
 some ((Lp.mk [] [] []),(Flt.mk 2 ((ln a) - 1)))) (
 some ((Lp.mk b c d),(Flt.mk 0 0)))) (fun r=>some r)
noncomputable def Gz (s:List UInt8) (d:UInt8):((List (List UInt8))×Int×Int)→Option (Stp ((List (List UInt8))×Int×Int) (Empty)):=fun (c,b,a) =>
 br (Ap (a≤(ln s))) (
 ck ((!(a==(ln s)))=true→IX a (ln s)) <|
 br ((a==(ln s)) || (((ele s a).toNat:Int)==((d).toNat:Int))) (
 ck (SX b a (ln s)) <|
 ck (AL (c++[(sub s b a)]).length 16) <|
 ck (IR (a+1)) <|
 ck (IR (a+1)) <|
 some (.next ((c++[(sub s b a)]),(a+1),(a+1)))) (
 ck (IR (a+1)) <|
 some (.next (c,b,(a+1))))) (
 some (.brk (c,b,a)))
noncomputable def Aff (s:List UInt8) (a:UInt8):Option (List (List UInt8)) :=
 bd (lp (Gz s a) ([],0,0)) fun b=>b.on (fun (c,d,e) =>
 some c) (fun r=>r.elim)
end Go.Rd
end
section
namespace Go.Rd
def spl (c:UInt8):List UInt8→List (List UInt8)
 | []=>[[]]
 | x::r=>if x=c then []::spl c r else match spl c r with
  | []=>[[x]]
  | h::t=>(x::h)::t
theorem Aa3 {c : UInt8} (s : List UInt8) : spl c s ≠ [] := by
  cases s with
  | nil => simp[spl]
  | cons x r => unfold spl; split; · simp
                split <;> simp
theorem Uv {c:UInt8}:∀ {s:List UInt8},c∉s→spl c s=[s]
 | [],_=>rfl
 | x::r,h=>by
  have a:¬x=c:=fun e=>h (by simp[e]);have b:c∉r:=fun e=>h (by simp[e]);rw[spl,Bg a,Uv b]
theorem Ab7 {c:UInt8}{post:List UInt8}:∀ {a:List UInt8},c∉a→spl c (a++c::post)=a::spl c post
 | [],_=>by simp[spl]
 | x::r,h=>by
  have b:¬x=c:=fun e=>h (by simp[e]);have d:c∉r:=fun e=>h (by simp[e]);rw[Vz,spl,Bg b,Ab7 d]
def Aby (c:UInt8):List (List UInt8)→List UInt8
 | []=>[]
 | [a]=>a
 | a::b::r=>a++c::Aby c (b::r)
theorem Ar7 {c x:UInt8}{h:List UInt8}{t:List (List UInt8)}:Aby c ((x::h)::t)=x::Aby c (h::t):=by cases t <;> rfl
theorem Zk {c:UInt8}:∀ (s:List UInt8),Aby c (spl c s)=s
 | []=>rfl
 | x::r=>by
  have b:=Zk (c:=c) r;unfold spl;by_cases h:x=c
  ·subst h
   rw[Bj rfl]
   cases hs:spl x r with
   | nil=>exact absurd hs (Aa3 r)
   | cons a t=>rw[hs] at b;rw[Aby,b];rfl
  ·rw[Bg h]
   cases hs:spl c r with
   | nil=>exact absurd hs (Aa3 r)
   | cons a t=>rw[hs] at b;simp only;rw[Ar7,b]
theorem Zc {c:UInt8}:∀ {s p:List UInt8},p∈spl c s→c∉p∧p.length≤s.length
 | [],p,h=>by simp[spl] at h;subst h;simp
 | x::r,p,h=>by
  unfold spl at h;by_cases e:x=c
  ·rw[Bj e] at h
   rcases Gw.1 h with rfl | h
   ·simp
   ·have:=Zc h;exact⟨this.1,by simp only[Ef];omega⟩
  ·rw[Bg e] at h
   cases hs:spl c r with
   | nil=>exact absurd hs (Aa3 r)
   | cons a t =>
    rw[hs] at h;simp only at h;rcases Gw.1 h with rfl | h
    ·have:=Zc (s:=r) (p:=a) (by rw[hs];simp)
     exact⟨by simp only[Gw,not_or];exact⟨fun h=>e h.symm,this.1⟩,by simp only[Ef];omega⟩
    ·have:=Zc (s:=r) (p:=p) (by rw[hs];simp[h]);exact⟨this.1,by simp only[Ef];omega⟩
theorem Am0 {c:UInt8}:∀ (s:List UInt8),(spl c s).length≤s.length+1
 | []=>by simp[spl]
 | x::r=>by
  have:=Am0 (c:=c) r;unfold spl;split
  ·simp only[Ef];omega
  ·cases hs:spl c r with
   | nil=>simp
   | cons a t=>rw[hs] at this;simp only[Ef] at this ⊢;omega
theorem Wp {c:UInt8}:∀ {s:List UInt8},c∉s→Lib.index s [c]=-1
 | [],_=>rfl
 | x::r,h=>by
  have a:¬x=c:=fun e=>h (by simp[e]);have b:c∉r:=fun e=>h (by simp[e]);unfold Lib.index;rw[Wp b]
  have:(c==x)=Az:=by simpa using fun e:c=x=>a e.symm
  simp[List.isPrefixOf,this]
theorem Ad9 {c:UInt8}{post:List UInt8}:∀ {a:List UInt8},c∉a→Lib.index (a++c::post) [c]=a.length
 | [],_=>by simp[Lib.index,List.isPrefixOf]
 | x::r,h=>by
  have b:¬x=c:=fun e=>h (by simp[e]);have d:c∉r:=fun e=>h (by simp[e]);rw[Vz];unfold Lib.index;rw[Ad9 d]
  have:(c==x)=Az:=by simpa using fun e:c=x=>b e.symm
  have f:((r.length:Int)==-1)=Az:=by rw[Xr];omega
  simp[List.isPrefixOf,this,f]
theorem Avv {c:UInt8}:∀ (n:Nat) (s:List UInt8),s.length≤n→Vq s [c]=spl c s:=by
 intro n
 induction n with
 | zero =>
  intro s hs;obtain rfl:s=[]:=Z5.1 Aa;unfold Vq;rw[Lib.count_miss (Wp Bf)]
  try rfl
 | succ n g =>
  intro s hs;by_cases a:c∈s
  ·obtain⟨f,post,rfl,d⟩:=Arn a
   have hi:=Ad9 (post:=post) d
   have b:(f++c::post).drop (f.length+1)=post:=by rw[List.drop_append];simp
   have e:=g post (by simp only[Ca,Ef] at hs;omega);unfold Vq at e ⊢;rw[Lib.count_hit Bf hi,show [c].length=1 from rfl,b,Nat.add_comm,Lib.splitK,hi,Bg (by rw[Dk];omega),I9,show [c].length=1 from rfl,b,e,Ab7 d];simp
  ·unfold Vq
   rw[Lib.count_miss (Wp a),Uv a]
   try rfl
theorem Af3 {s:List UInt8} (c:UInt8) (hs:s.length≤4000000):Tn s [c]=some (spl c s):=by
 unfold Tn;rw[Ax ⟨Aa,Bf⟩,Avv _ _ (Co _)]
theorem Zq {α:Type} [Inhabited α] {s:List α}{i:Nat} (h:i<s.length):s.drop i=ele s (i:Int)::s.drop (i+1):=by
 rw[List.drop_eq_getElem_cons h,Dj,Ec,E7 h];rfl
theorem At0 {α:Type}{s:List α}{f i:Nat}:sub s (f:Int) (i:Int)=(s.drop f).take (i - f):=by
 unfold Rd.sub;rw[I9,show ((i:Int) - (f:Int)).toNat=i - f from Aa]
theorem Av3 {s:List UInt8}{c:UInt8} (hs:s.length≤4000000):∀ (m i f:Nat) (v:List (List UInt8)),i+m=s.length→f≤i→v.length≤i→c∉(s.drop f).take (i - f) →
  lp (Gz s c) (v,(f:Int),(i:Int))=some (.go (v++spl c (s.drop f),((s.length+1:Nat):Int),((s.length+1:Nat):Int))):=by
 intro m
 induction m with
 | zero =>
  intro i f v hi o q b;obtain rfl:i=s.length:=Aa
  have a:Gz s c (v,(f:Int),(s.length:Int))=some (.next (v++[(s.drop f).take (s.length - f)],((s.length+1:Nat):Int),((s.length+1:Nat):Int))):=by
   unfold Gz;simp only;rw[Ck (by rw[Ao];omega),Ao,beq_self_eq_true,Fv Bf,Vu,br_true,Rz Aa Aa Aa,At0,Z9 (by simp;omega) (by simp;omega),Ay Aa Aa,Ay Aa Aa];rfl
  refine B4 a ?_
  have l:Gz s c (v++[(s.drop f).take (s.length - f)],((s.length+1:Nat):Int),((s.length+1:Nat):Int))=some (.brk (v++[(s.drop f).take (s.length - f)],((s.length+1:Nat):Int),((s.length+1:Nat):Int))):=by
   unfold Gz;simp only;rw[Cn (by rw[Ao];omega)]
  have e:(s.drop f).take (s.length - f)=s.drop f:=W9 (by rw[Nn];omega);rw[Db l];rw[e] at b ⊢;rw[Uv b]
 | succ m k =>
  intro i f v hi o q b;have g:i<s.length:=Aa;have n:=Zq g
  have p:(s.drop f).take (i+1 - f)=(s.drop f).take (i - f)++[ele s (i:Int)]:=by
   rw[show i+1 - f=(i - f)+1 from Aa,Ag4,Ya,show f+(i - f)=i from Aa,E7 g,Dj,Ec,E7 g];rfl
  have j:((i:Int)==ln s)=Az:=by rw[Ao];simp;omega
  by_cases d:ele s (i:Int)=c
  ·have a:Gz s c (v,(f:Int),(i:Int))=some (.next (v++[(s.drop f).take (i - f)],((i+1:Nat):Int),((i+1:Nat):Int))):=by
    unfold Gz;simp only;rw[Ck (by rw[Ao];omega),j,Fv (by intro _;exact⟨Aa,by rw[Ao];omega⟩),d,beq_self_eq_true,Agt,br_true,Rz Aa Aa (by rw[Ao];omega),At0,Z9 (by simp;omega) (by simp;omega),Ay Aa Aa,Ay Aa Aa];rfl
   rw[Ly a,k (i+1) (i+1) _ Aa (Co _) (by simp;omega) Bf]
   have e:s.drop f=(s.drop f).take (i - f)++c::s.drop (i+1):=by
    rw[←d,←n]
    conv=>lhs;rw[←Lu (i - f) (s.drop f),Alj,show f+(i - f)=i from Aa]
   conv=>rhs;rw[e,Ab7 b]
   simp
  ·have a:Gz s c (v,(f:Int),(i:Int))=some (.next (v,(f:Int),((i+1:Nat):Int))):=by
    unfold Gz;simp only
    have r:(((ele s (i:Int)).toNat:Int)==(c.toNat:Int))=Az:=by
     rw[Xr];intro h;exact d (UInt8.toNat_inj.1 Aa)
    rw[Ck (by rw[Ao];omega),j,Fv (by intro _;exact⟨Aa,by rw[Ao];omega⟩),r,Bool.or_false,br_false,Ay Aa Aa];rfl
   rw[Ly a,k (i+1) f v Aa Aa Aa (by rw[p];simp only[F8,G7,not_or];exact⟨b,fun h=>d h.symm⟩)]
theorem Azz {s:List UInt8} (c:UInt8) (hs:s.length≤4000000):Aff s c=some (spl c s):=by
 unfold Aff;have:=Av3 (c:=c) hs s.length 0 0 [] Aa (Co _) Bf Bf;rw[show ((0:Nat):Int)=0 from rfl] at this;rw[this,bd_ret,Out.on_go];rfl
theorem Amk:∀ (u:Nat),∀ c∈L5 u,48≤c.toNat∧c.toNat≤57:=by
 intro u
 induction u using Nat.strongRecOn with
 | _ u b =>
  intro c a;by_cases h:u<10
  ·rw[Mc h,G7] at a
   subst a;rw[Ari (by show _<256;omega)];omega
  ·rw[V7 h,F8,G7] at a
   rcases a with a | rfl
   ·exact b (u / 10) Aa c a
   ·rw[Ari (by show _<256;omega)];omega
theorem Ajt (u:Nat):L5 u≠[]:=by
 by_cases h:u<10
 ·rw[Mc h];simp
 ·rw[V7 h];simp
theorem A3n:∀ (u:Nat),1≤u→(L5 u).head?≠some 48:=by
 intro u
 induction u using Nat.strongRecOn with
 | _ u c =>
  intro b;by_cases h:u<10
  ·rw[Mc h]
   have:∀ u:Nat,u<10→1≤u→(Qd (48+u))≠48:=Ah;simpa using this u h b
  ·rw[V7 h,List.head?_append]
   have:=c (u / 10) Aa Aa
   cases a:(L5 (u / 10)).head? with
   | none=>exact absurd (List.head?_eq_none_iff.1 a) (Ajt _)
   | some x=>rw[a] at this;simpa using this
theorem Aka {M:Nat}{r:List UInt8}:∀ {l:List UInt8}{a v:Nat},T7 M a l=.ok v→T7 M a (l++r)=T7 M v r
 | [],a,v,h=>by simp only[T7] at h;injection h with h;subst h;rfl
 | c::l,a,v,h=>by
  rw[Vz,Lib.parseUintM.eq_2];rw[Lib.parseUintM.eq_2] at h;split at h
  ·rename_i b
   rw[Bj b];split at h
   ·cases h
   ·rename_i d
    rw[Bg d];split at h
    ·cases h
    ·rename_i e
     rw[Bg e];exact Aka h
  ·cases h
theorem Axx:∀ (u:Nat),u≤18446744073709551615→T7 18446744073709551615 0 (L5 u)=.ok u:=by
 intro u;have a:∀ d:Nat,d<10→(Qd (48+d)).toNat=48+d:=fun d h=>Ari (by show _<256;omega)
 induction u using Nat.strongRecOn with
 | _ u b =>
  intro c;by_cases h:u<10
  ·rw[Mc h]
   simp only[T7];rw[a u h,Bj Aa,Bg Aa,Bg Aa];congr 1;omega
  ·rw[V7 h,Aka (b (u / 10) Aa Aa)]
   simp only[T7];rw[a (u % 10) Aa,Bj Aa,Bg Aa,Bg Aa];congr 1;omega
theorem Acq (u:Nat):∃ c r,L5 u=c::r∧48≤c.toNat∧c.toNat≤57:=by
 cases h:L5 u with
 | nil=>exact absurd h (Ajt u)
 | cons c r=>exact⟨c,r,rfl,Amk u c (by rw[h];simp)⟩
theorem S3 {n:Int} (h:InR n):Sq 64 (Fe n)=.ok n:=by
 obtain⟨j,k⟩:=h;have f:(2:Nat) ^ 64 - 1=18446744073709551615:=Ah;have d:(2:Nat) ^ (64 - 1)=9223372036854775808:=Ah;unfold Fe;by_cases a:n<0
 ·rw[Bj a]
  unfold Sq Lib.parseUintB;simp only[show (45:UInt8).toNat=45 from rfl,or_true,Nt];rw[Bg (Ajt _),f,Axx _ Aa];simp only[d,not_true,false_and,if_false,Aao,Nt];rw[Bg Aa];congr 1;omega
 ·rw[Bg a]
  obtain⟨c,r,e,c1,c2⟩:=Acq n.toNat;have b:=Axx n.toNat Aa;rw[e] at b ⊢;unfold Sq Lib.parseUintB;have g:¬(c.toNat=43∨c.toNat=45):=Aa;have i:¬c.toNat=45:=Aa;simp only[Bg g,f,d];rw[Bg Bf,b];simp only[i,not_false_eq_true,Aao,false_and,if_false];rw[Bg Aa];congr 1;omega
theorem A0a {s:List UInt8}{v:Int} (h:Sq 64 s=.ok v):InR v:=by
 have e:(2:Nat) ^ (64 - 1)=9223372036854775808:=Ah;unfold Sq at h;split at h
 ·cases h
 ·rename_i c r
  simp only[e] at h;split at h
  ·cases h
  ·cases h
  ·rename_i u f
   split at h
   ·cases h
   ·split at h
    ·cases h
    ·rename_i a b
     injection h with h
     subst h;unfold InR;by_cases d:c.toNat=45
     ·simp only[d,Nt,Aao,not_true,false_and] at a b ⊢;omega
     ·simp only[d,if_false,false_and,not_false_eq_true,Aao] at a b ⊢;omega
theorem Api {a b:Int} (d:InR a) (e:InR b) (h:Fe a=Fe b):a=b:=by
 have c:=S3 d;rw[h,S3 e] at c
 injection c with c
 exact c.symm
theorem Avp (n:Int):Sj (Fe n) [45]=L5 n.natAbs:=by
 unfold Fe Sj P4;by_cases a:n<0
 ·rw[Bj a];simp[List.isPrefixOf]
 ·rw[Bg a,show n.natAbs=n.toNat from Aa]
  obtain⟨c,r,e,c1,c2⟩:=Acq n.toNat;rw[e]
  have:(45==c)=Az:=by
   rw[Xr];rintro rfl;exact absurd c1 Ah
  simp[List.isPrefixOf,this]
def NumOk (most:Int) (s:List UInt8) (n:Int):Prop:=InR n∧s=Fe n∧((L5 n.natAbs).length:Int)≤most
theorem NumOk.one {most:Int}{s:List UInt8}{a b:Int} (h:NumOk most s a) (k:NumOk most s b):a=b:=Api h.1 k.1 (h.2.1.symm.trans k.2.1)
open Classical in
noncomputable def Nq (most:Int) (s:List UInt8):Option Int:=if h:∃ n,NumOk most s n then some h.choose else none
theorem Ej {most:Int}{s:List UInt8}{n:Int}:Nq most s=some n↔NumOk most s n:=by
 unfold Nq;constructor
 ·intro h
  split at h
  ·rename_i a
   injection h with h
   exact h▸a.choose_spec
  ·cases h
 ·intro h
  have a:∃ n,NumOk most s n:=⟨n,h⟩;rw[dif_pos a];exact congrArg some (a.choose_spec.one h)
def Tells {α:Type} (m:Option (α×Bool)) (o:Option α):Prop:=∃ v,m=some (v,o.isSome)∧∀ a,o=some a→v=a
theorem Avr {m:Option (Int×Bool)}{most:Int}{s:List UInt8} (h:∃ v b,m=some (v,b)∧(b=true→NumOk most s v)∧∀ n,NumOk most s n→v=n∧b=true):Tells m (Nq most s):=by
 obtain⟨v,b,e,f,g⟩:=h
 cases d:Nq most s with
 | some n =>
  obtain⟨rfl,rfl⟩:=g n (Ej.1 d);exact⟨v,e,fun a c=>by injection c⟩
 | none =>
  have:b=Az:=by
   cases b with
   | false=>rfl
   | true=>rw[Ej.2 (f rfl)] at d;cases d
  subst this;exact⟨v,e,fun a c=>by cases c⟩
theorem Atu {s:List UInt8}{most:Int} (hs:s.length≤4000000):Tells (Kx s most) (Nq most s):=by
 refine Avr ?_;unfold Kx Wt;rw[Ax ⟨⟨rfl,rfl⟩,Aa⟩,bd_ret];unfold Aru
 cases c:Sq 64 s with
 | ok v =>
  have d:=A0a c;simp only[Kc,bdG_t];rw[A0h d,bd_ret,Rl];by_cases b:Fe v=s
  ·rw[Dk.2 b,bdG_t]
   unfold Jy;rw[bd_ret,Rl,←b,Avp];refine⟨_,_,rfl,fun h=>⟨d,rfl,by have:=Ag3 h;rwa [Ao] at this⟩,fun n a=>?_⟩;obtain rfl:=Api d a.1 a.2.1;exact⟨rfl,Ls (by rw[Ao];exact a.2.2)⟩
  ·rw[Xr.2 b,bdG_f]
   refine⟨_,_,rfl,fun h=>(by cases h),fun n a=>?_⟩;have e:=S3 a.1;rw[←a.2.1,c] at e
   injection e with e
   exact absurd (e▸a.2.1.symm) b
 | range =>
  refine⟨_,_,rfl,fun h=>(by cases h),fun n a=>?_⟩;have e:=S3 a.1;rw[←a.2.1,c] at e;cases e
 | _ =>
  refine⟨_,_,rfl,fun h=>(by cases h),fun n a=>?_⟩;have e:=S3 a.1;rw[←a.2.1,c] at e;cases e
theorem Qu {s:List UInt8} (hs:s.length≤4000000):Tells (Ft s) (Nq 18 s):=by
 obtain⟨v,a,b⟩:=Atu (most:=18) hs;unfold Ft;rw[a,bd_ret];exact⟨v,rfl,b⟩
def Zv (c:UInt8):Prop:=48≤c.toNat∧c.toNat≤57
theorem Ar4 {n:Int} (h:InR n):IntKind.i64.wrap n=n:=Jl h.1 h.2
theorem Azm {n:Int} (a:0≤n) (b:n<256):IntKind.u8.wrap n=n:=by rw[Atw];omega
end Go.Rd
end
section
namespace Go.Rd
noncomputable def Un (s:List UInt8):Option Rf :=
 match s with
 | []=>none
 | c::r=>if c=35 then (match spl 126 r with
  | [a]=>match Nq 18 a with
   | some n=>some ⟨n,0⟩
   | none=>none
  | [a,b]=>match Nq 18 a,Nq 18 b with
   | some n,some k=>if k>0 then some ⟨n,k⟩ else none
   | _,_=>none
  | _=>none) else none
theorem A6f {most:Int}{c:UInt8}{s:List UInt8} (d:¬(c=45∨Zv c)) (a:c∈s):Nq most s=none:=by
 cases h:Nq most s with
 | none=>rfl
 | some n =>
  exfalso;have e:=(Ej.1 h).2.1;rw[e] at a;unfold Fe at a;split at a
  ·rcases Gw.1 a with b | b
   ·exact d (.inl b)
   ·exact d (.inr (Amk _ c b))
  ·exact d (.inr (Amk _ c a))
theorem A2j {c:UInt8}{s:List UInt8} (h:c∈s):∃ a b t,spl c s=a::b::t:=by
 obtain⟨e,post,rfl,d⟩:=Arn h;rw[Ab7 d]
 cases hs:spl c post with
 | nil=>exact absurd hs (Aa3 post)
 | cons b t=>exact⟨e,b,t,rfl⟩
theorem A02 {c:UInt8}{s:List UInt8} (h:c∉s):Lib.cut s [c]=(s,[],Az):=by
 unfold Lib.cut;rw[Wp h,Bg Ah]
theorem A3p {c:UInt8}{a post:List UInt8} (h:c∉a):Lib.cut (a++c::post) [c]=(a,post,true):=by
 unfold Lib.cut;rw[Ad9 h,Bj Aa,I9,show [c].length=1 from rfl,List.drop_append];simp
def IsT {α:Type} (o:Option α) (v:α) (b:Bool):Prop :=
 match o with
 | some a=>b=true∧v=a
 | none=>b=Az
theorem Aho {α:Type}{m:Option (α×Bool)}{o:Option α}{v:α}{b:Bool} (d:m=some (v,b)) (h:IsT o v b):Tells m o:=by
 cases o with
 | some a=>obtain⟨rfl,rfl⟩:=h;exact⟨v,d,fun a c=>by injection c⟩
 | none=>obtain rfl:b=Az:=h;exact⟨v,d,fun a c=>by cases c⟩
theorem Tells.val {α:Type}{m:Option (α×Bool)}{o:Option α} (h:Tells m o):∃ v b,m=some (v,b)∧IsT o v b:=by
 obtain⟨v,c,d⟩:=h;refine⟨v,_,c,?_⟩
 cases o with
 | some a=>exact⟨rfl,d a rfl⟩
 | none=>rfl
theorem Am1 {s:List UInt8} (hs:s.length≤4000000):Tells (M4 s) (Un s):=by
 unfold M4 Pf Ats;rw[bd_ret]
 have key:∀ (r:List UInt8) (x:Bool),r.length≤4000000→∃ v b,(bd (ck (r.length<4294967281) (some (Lib.cut r [126]))) fun x5=>bd (Ft x5.1) fun m=>br x5.2.2 (bd (Ft x5.2.1) fun y=>some ((Rf.mk m.1 y.1),(x&&((m.2&&y.2)&&(Ap (y.1>0)))))) (some ((Rf.mk m.1 0),(x&&m.2))))=some (v,b) ∧
   (x=Az→b=Az)∧(x=true→IsT (Un (35::r)) v b):=by
  intro r x B;rw[Ax Aa,bd_ret];by_cases q:(126:UInt8)∈r
  ·obtain⟨C,post,rfl,A⟩:=Arn q
   rw[A3p A];simp only[Ca,Ef] at B;obtain⟨v1,b1,o,d⟩:=(Qu (s:=C) Aa).val;obtain⟨v2,b2,E,f⟩:=(Qu (s:=post) Aa).val;simp only;rw[o,bd_ret,br_true,E,bd_ret];refine⟨_,_,rfl,fun g=>by rw[g];rfl,fun g=>?_⟩;subst g;simp only[Un,Nt,Ab7 A];by_cases u:(126:UInt8)∈post
   ·obtain⟨a,b,t,e⟩:=A2j u
    rw[A6f (by unfold Zv;decide) u] at f;rw[e,show b2=Az from f];simp[IsT]
   ·rw[Uv u]
    simp only
    cases i:Nq 18 C with
    | none=>rw[i] at d;rw[d];rfl
    | some n =>
     rw[i] at d;obtain⟨rfl,rfl⟩:=d
     cases z:Nq 18 post with
     | none=>rw[z] at f;rw[f];rfl
     | some k =>
      rw[z] at f;obtain⟨rfl,rfl⟩:=f;simp only;by_cases l:v2>0
      ·rw[Bj l,Ls l];exact⟨rfl,rfl⟩
      ·rw[Bg l,W7 l];rfl
  ·rw[A02 q]
   obtain⟨v1,b1,o,d⟩:=(Qu B).val;simp only;rw[o,bd_ret,br_false];refine⟨_,_,rfl,fun g=>by rw[g];rfl,fun g=>?_⟩;subst g;simp only[Un,Nt,Uv q]
   cases i:Nq 18 r with
   | none=>rw[i] at d;rw[d];rfl
   | some n=>rw[i] at d;obtain⟨rfl,rfl⟩:=d;exact⟨rfl,rfl⟩
 cases s with
 | nil =>
  obtain⟨v,b,e,d,_⟩:=key [] Az Bf;refine Aho e ?_;exact d rfl
 | cons c r =>
  simp only[Ef] at hs;by_cases p:c=35
  ·subst p
   have w:Sj (35::r) [35]=r:=by simp[Sj,P4,List.isPrefixOf]
   have j:P4 (35::r) [35]=true:=by simp[P4,List.isPrefixOf]
   obtain⟨v,b,e,_,f⟩:=key r true Aa;simp only[w,j];exact Aho e (f rfl)
  ·have j:P4 (c::r) [35]=Az:=by
    have:(35==c)=Az:=by rw[Xr];exact fun h=>p h.symm
    simp[P4,List.isPrefixOf,this]
   have w:Sj (c::r) [35]=c::r:=by unfold Sj;rw[j];rfl
   obtain⟨v,b,e,d,_⟩:=key (c::r) Az (by simp only[Ef];omega);simp only[w,j];refine Aho e ?_;simp only[Un,Bg p];exact d rfl
theorem Pr {s:List UInt8}{r:Rf} (h:Un s=some r):InR r.st∧InR r.bk∧0≤r.bk∧s=Au8 r:=by
 unfold Un at h
 cases s with
 | nil=>cases h
 | cons c t =>
  simp only at h;split at h
  ·rename_i m
   subst m;have e:=Zk (c:=126) t;split at h
   ·rename_i a j
    rw[j] at e;split at h
    ·rename_i n f
     injection h with h
     subst h;have d:=Ej.1 f;refine⟨d.1,⟨Bf,Bf⟩,Fo _,?_⟩;have:a=t:=e;rw[Au8,←this,d.2.1];simp
    ·cases h
   ·rename_i a b l
    rw[l] at e;split at h
    ·rename_i n k f d
     split at h
     ·rename_i o
      injection h with h
      subst h;have g:=Ej.1 f;have i:=Ej.1 d;refine⟨g.1,i.1,Int.le_of_lt o,?_⟩;have:a++126::b=t:=e;rw[Au8,←this,g.2.1,i.2.1,Bg (by show ¬k=0;omega)]
     ·cases h
    ·cases h
   ·cases h
  ·cases h
end Go.Rd
end