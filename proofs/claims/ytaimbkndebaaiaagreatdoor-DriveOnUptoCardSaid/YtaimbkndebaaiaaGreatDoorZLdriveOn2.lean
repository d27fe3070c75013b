/- Texts for the law, 2. -/
import Derived.Test.YtaimbkndebaaiaaGreatDoorZLdriveOn1
import Derived.Laws.OwnMore
import Derived.MapKept
import Derived.ChangeMaps5
import Derived.Lib.AppendStr
import Derived.Lib.UnsafeStr
import Derived.Lib.LaidTab
import Derived.Shelf.Strings.Builder1
import Derived.Shelf.Strings.Fields
import Derived.Shelf.Strconv.Itoa4
import Derived.KernelRfl
import Derived.Shelf.Strings.Split
import Derived.Shelf.Strings.Cut
import Derived.Shelf.Strings.Prefix
import Derived.Shelf.Small.Wraps
import Derived.Shelf.Strconv.ParseIntPublic10
import Derived.Shelf.Strconv.RangeError
set_option linter.unusedVariables false
set_option linter.unusedSimpArgs false
set_option maxRecDepth 8000
set_option linter.defProp false
open Go renaming World→Aj,Value→Ak,Program→Bu,Operand→Eb
open Decidable renaming decide→Ao
open Bool renaming false→Ay
open Go.Value renaming cells→Ee,string→Acl
open Go.Lib renaming itoa→E5,decDigits→Lq,hasPrefix→Og,trimPrefix→Ru,parseIntB→R3,parseUintM→Th,split→Us
open ByteArray renaming mk→Nj
open Go.Oper renaming wp→H3
open Go.Result renaming andThen→Qz
open Go.Sem renaming run→I2
open Go.Instr renaming sureAddr→Qt,findNow→Z1,findAsking→Af6,keyThatStays→Ak2,checkKey→Af0
open UInt8 renaming ofNat→Pr
open Go.Addr renaming add→Lw
open Go.Op renaming equalIn→Td
open Go.Deferred renaming ofValue→Acp
section
namespace Go.Rd
open Go.RowKit
theorem Aej {α:Type}{c:α→Ak}{enc:α→List Ak} (a:∀ u,enc u=[c u]):∀ xs:List α,(xs.map enc).flatten=xs.map c
 | []=>rfl
 | x::xs=>by simp[a,Aej a xs]
theorem A14 {α β:Type}{f:α→β}{xs:List α}{i:Int}{z:α}:(upd xs i z).map f=(xs.map f).set i.toNat (f z):=by unfold upd;rw[List.map_set]
theorem D9 {α:Type}{xs:List α}{i:Int}{z:α}:(upd xs i z).length=xs.length:=by simp[upd]
theorem Av1 {b n c:Nat}{i:Int}{p:Addr} (h:Li (.slice (some ⟨b,0,none⟩) n c) i 1 p):p=⟨b,i.toNat,none⟩:=by
 obtain⟨a,j,e,d,f,g,rfl⟩:=h;simp only[I3,Gf] at d;obtain⟨rfl,_,_⟩:=d;rw[Sr];simp
theorem Aid {P:Bu}{w:Aj}{p:Addr}{v u:Ak} (h:w.cell? p=some v) (b:w.frozen? p=Ay) (a:u.oneCell'=true):(store p u).run P w=.ok () (w.setCell p u):=by
 cases u <;> simp_all [store,I2,Value.oneCell']
theorem Agq {P:Bu}{α:Type}{c:α→Ak}{enc:α→List Ak} (l:∀ u,enc u=[c u]) {w:Aj}{v:Ak}{E:TypeId}{xs:List α}{i:Int}{p:Addr}{z:α} (h:(vec v E 1 (xs.map enc)).holds w) (e:Li v i 1 p) (t:(c z).oneCell'=true) :
  ∃ b,(∃ n k,v=.slice (some ⟨b,0,none⟩) n k)∧p=⟨b,i.toNat,none⟩∧(store p (c z)).run P w=.ok () (w.setCell p (c z))∧(vec v E 1 ((upd xs i z).map enc)).holds (w.setCell p (c z)) ∧
   (∀ j,j≠b→(w.setCell p (c z)).heap[j]?=w.heap[j]?):=by
 obtain⟨o,K⟩:=h;rcases o.2 with ⟨rfl,_⟩ | ⟨b,cap,g,rfl,H,m,L,I,x,M⟩
 ·obtain⟨a,n,s,d,_⟩:=e;simp at d
 ·have B:=Av1 e
  subst B;obtain⟨a,N,s,d,G,hi,_⟩:=e;simp only[I3,Gf] at d;obtain⟨_,rfl,rfl⟩:=d
  have F:i.toNat<g.size:=by rw[x];omega
  have Ry:w.cell? ⟨b,i.toNat,none⟩=some g[i.toNat]:=by simp[World.cell?,m,F]
  have y:w.frozen? ⟨b,i.toNat,none⟩=Ay:=by simp[World.frozen?,m]
  obtain⟨q,J⟩:=World.ownsRow.stored o i.toNat (c z);refine⟨b,⟨_,_,rfl⟩,rfl,Aid Ry y t,⟨?_,?_⟩,fun j A=>Below.heap_setCell _ _ _ _ A⟩
  ·rw[Aej l] at q ⊢
   rw[A14 (f:=c)];simpa[D9] using q
  ·intro r C
   obtain⟨u,_,rfl⟩:=Iv.1 C;simp[l]
section
variable {P : Bu} {n : Nat} {σ : Env} {M : Nat → Prop} {w0 : Aj} {H : List Res} {d : Option Tmp} {T U E E2 S T2 : TypeId} {pos : String} {after : Array Edge} {gd : Option (Nat × Bool)} {x y : Eb} {g g' : Bool} {v : Ak}
 {K:Act→Aj→Prop}{Q:Exit→Act→Aj→Prop}
theorem Ui {α:Type}{c:α→Ak}{enc:α→List Ak} (k:Nat) (z:α) {xs:List α}{i:Int}{p:Addr} (t:∀ u,enc u=[c u]) (N:σ.ev x=some (g,.pointer (some p))) (A:g=true) (O:σ.ev y=some (g',c z)) (B:g'=true)
  (h:H[k]?=some (vec v E 1 (xs.map enc))) (G:Li v i 1 p) (o:(c z).oneCell'=true) (L:(c z).cells=[c z].toArray) (hs:Dg P T 1)
  (kk:WK n K σ (Own M w0 (H.set k (vec v E 1 ((upd xs i z).map enc))))):EV P n ⟨none,.store T x y,U,pos,after,gd⟩ σ (Own M w0 H) K Q:=fun a w f j=>by
 refine .inl ?_;obtain⟨b,⟨X,V,rfl⟩,rfl,q,r,s⟩:=Agq (P:=P) t (z:=z) (j.at k h) G o;obtain⟨R,hi,J⟩:=Ks.1 hs
 have I:(execOp a.eval ⟨none,.store T x y,U,pos,after,gd⟩).run P w=.ok .skip (w.setCell ⟨b,i.toNat,none⟩ (c z)):=by
  simp[execOp,f.ev N A,f.ev O B,Instr.storeAt,Qt,storeVar,L,sizeOf,typeInfo,hi,J,storeCells,q,Lw]
 unfold H3;rw[I];show K (a.put none undef) _;have C:b<w.heap.size:=E7 (j.at k h) b ⟨_,_,rfl⟩;refine kk a _ f (j.upd k h rfl rfl ⟨rfl,Cf _⟩ (by simp[World.setCell]) (fun c l F=>s c fun e=>F (by subst e;exact⟨_,_,rfl⟩)) r fun c l=>?_);obtain⟨Y,W,m⟩:=l;simp only[I3,Gf,O1] at m;obtain⟨⟨rfl,_⟩,_⟩:=m;exact⟨.inl ⟨_,_,rfl⟩,by simpa[World.setCell] using C⟩
theorem EV.makeSlice {α:Type}{enc:α→List Ak} (z:α) {dd sz bytes:Nat}{m:Int} (a8:dd<n) (a0:Ws P T E sz bytes) (b4:ZeroT P E (enc z)) (b3:σ.ev x=some (g,.int .i64 m)) (a3:g=true) (V:0≤m) (f:(enc z).length=sz) (t:AL m.toNat bytes)
  (kk:∀ u,SliceLen u (List.replicate m.toNat z).length→WK n K ((dd,(true,u))::σ) (Own M w0 (vec u E sz ((List.replicate m.toNat z).map enc)::H))):EV P n ⟨some dd,.makeSlice T x x,U,pos,after,gd⟩ σ (Own M w0 H) K Q:=fun a w A b2=>by
 refine .inl ?_;obtain⟨Y,hi,b1⟩:=a0;obtain⟨i,hi,o⟩:=Ks.1 hi;simp only[Ti] at o;obtain⟨b7,a6,a5⟩:=o;obtain⟨J,L,s,W,X⟩:=b4.out
 have:J=i:=by rw[hi] at s;cases s;rfl
 subst this;have a7:(m.toNat:Int)=m:=Adz V;obtain⟨w',c,I,k⟩:=run_make_full (P:=P) w w.heap.size T E J L sz Y hi W a6 .i64 .i64 m.toNat (by rw[a5];have:=t.2;rw[Qu];omega) t.1 (Cf _);rw[a7] at c
 have b0:(execOp a.eval ⟨some dd,.makeSlice T x x,U,pos,after,gd⟩).run P w=.ok (.value (.slice (some ⟨w.heap.size,0,none⟩) m.toNat m.toNat)) w':=by
  simp[execOp,A.ev b3 a3,c,Qz]
 unfold H3;rw[b0];show K (a.put (some dd) _) _
 have a9:(madeCells L.cells (m.toNat * sz)).toList=((List.replicate m.toNat z).map enc).flatten:=by
  rw[X];apply Wx;intro j
  have a2:((List.replicate m.toNat z).map enc).flatten.length=m.toNat * sz:=by
   rw[C9 (sz:=sz) (by intro r c;obtain⟨u,e,rfl⟩:=Iv.1 c;rw[Acv] at e;rw[e.2,f])];simp
  by_cases p:j<m.toNat * sz
  ·have o:j / sz<m.toNat:=Ak4 (by rwa [Qu] at p)
   have a1:=Ji (sz:=sz) (rows:=(List.replicate m.toNat z).map enc) (i:=j / sz) (r:=enc z) (by intro r c;obtain⟨u,e,rfl⟩:=Iv.1 c;rw[Acv] at e;rw[e.2,f]) (by simp[o]);have G:j % sz<sz:=Nat.mod_lt _ b1
   have O:((List.replicate m.toNat z).map enc).flatten[j]?=(enc z)[j % sz]?:=by
    have:(enc z)[j % sz]?=((((List.replicate m.toNat z).map enc).flatten.drop (j / sz * sz)).take (enc z).length)[j % sz]?:=by rw[a1]
    rw[this,Rv,f,Bg G,Xb,Qu,Af1]
   rw[O]
   have q:j % sz<(enc z).length:=by rw[f];exact G
   simp[madeCells,p,f,E3 q]
  ·have F:=Z2 p
   rw[Qi (by rw[Z6,size_madeCells];exact F),Qi (by rw[a2];exact F)]
 have C:(vec (.slice (some ⟨w.heap.size,0,none⟩) m.toNat m.toNat) E sz ((List.replicate m.toNat z).map enc)).holds w':=by
  refine⟨?_,fun r c=>?_⟩
  ·rw[←a9]
   have:((List.replicate m.toNat z).map enc).length=m.toNat:=Ba;rw[this];refine⟨I.1,?_⟩;rcases I.2 with h | ⟨R,c2,N,b5,c0,b6⟩
   ·exact .inl h
   ·exact .inr ⟨R,c2,N,b5,Z0 _,b6⟩
  ·obtain⟨u,e,rfl⟩:=Iv.1 c
   rw[Acv] at e;rw[e.2,f]
 have a4:Grow w w':=⟨k.os,k.tape,⟨k.output,Ue _ _ c⟩,k.size,fun b l=>k.block b l Ba⟩;refine kk _ ?_ _ _ (A.put a8 true _) (b2.push a4 _ C fun b l=>?_)
 ·exact⟨some ⟨w.heap.size,0,none⟩,m.toNat,Ba,fun _=>rfl,Ba⟩
 ·have q:=E7 C b l
  obtain⟨b9,b8,B⟩:=l;simp only[I3,Gf,O1] at B;obtain⟨⟨rfl,_⟩,_⟩:=B;exact⟨Cf _,q⟩
def Aiq:=@EV.makeSlice
end
theorem T8:∀ u:Int,Ar u=[Dz u]:=fun _=>rfl
end Go.Rd
end
section
namespace Go.Rd
open Go.RowKit
def Ry (h:Ak):List Ak:=[h]
theorem Az7:∀ u:Ak,Ry u=[id u]:=fun _=>rfl
def Ln:Ak:=.slice none 0 0
def hat (hs:List Ak) (i:Int):Ak:=hs.getD i.toNat Ln
def Q6 (h:Ak) (b:Nat):Prop:=∃ n c,h=.slice (some ⟨b,0,none⟩) n c
def updG (xss:List (List Int)) (i j:Int) (z:Int):List (List Int):=upd xss i (upd (ele xss i) j z)
def GL (hs:List Ak) (xss:List (List Int)):Prop:=hs.length=xss.length∧∀ i:Nat,SliceLen (hs.getD i Ln) (xss.getD i []).length
def Iy (v:Ak) (hs:List Ak) (E1 E2:TypeId) (xss:List (List Int)):Res where
 foot:=fun b=>Q6 v b∨∃ i:Nat,i<hs.length∧Q6 (hs.getD i Ln) b
 holds:=fun w=>(vec v E1 1 (hs.map Ry)).holds w∧hs.length=xss.length∧(∀ i:Nat,i<hs.length→(vec (hs.getD i Ln) E2 1 ((xss.getD i []).map Ar)).holds w) ∧
  (∀ i j:Nat,i<hs.length→j<hs.length→i≠j→∀ b,Q6 (hs.getD i Ln) b→¬Q6 (hs.getD j Ln) b)∧∀ i:Nat,i<hs.length→∀ b,Q6 (hs.getD i Ln) b→¬Q6 v b
 stable:=fun w w' ⟨d,e,f,g,h⟩ c=>⟨(vec v E1 1 (hs.map Ry)).stable w w' d fun b a=>c b (.inl a),e,fun i hi=>(vec _ E2 1 _).stable w w' (f i hi) fun b a=>c b (.inr ⟨i,hi,a⟩),g,h⟩
section
variable {w : Aj} {v : Ak} {hs : List Ak} {E1 E2 : TypeId} {xss : List (List Int)} {i j : Int} {p : Addr}
theorem getD_some {α:Type}{l:List α}{d:α}{i:Nat} (h:i<l.length):l[i]?=some (l.getD i d):=by
 rw[Dy,E3 h];rfl
theorem A0c (xss:List (List Int)) (i:Int):ele xss i=xss.getD i.toNat []:=rfl
theorem Ayv {v:Ak}{E sz:Nat}{rows:List (List Ak)} (h:(vec v E sz rows).holds w):SliceLen v rows.length:=(Cn h).len
theorem GL.ix (h:GL hs xss) (i:Int):SliceLen (hat hs i) (ele xss i).length:=h.2 i.toNat
theorem H9 {α:Type}{v:Ak}{xs:List α}{i:Int}{z:α} (h:SliceLen v xs.length):SliceLen v (upd xs i z).length:=by rw[D9];exact h
theorem Ud {v:Ak}{xss:List (List Int)}{i j z:Int} (h:SliceLen v xss.length):SliceLen v (Rd.updG xss i j z).length:=by unfold Rd.updG;rw[D9];exact h
theorem Abx {v:Ak}{B:List (Ak×List Int)}{xss:List (List Int)} (h:B.map (·.2)=xss) (hs:SliceLen v B.length):SliceLen v xss.length:=by subst h;rwa [Ge]
theorem GL.nil:GL [] []:=⟨rfl,fun _=>Hg⟩
theorem GL.snoc {u:Ak}{xs:List Int} (h:GL hs xss) (c:SliceLen u xs.length):GL (hs++[u]) (xss++[xs]):=by
 refine⟨by simp[h.1],fun i=>?_⟩;rcases Nat.lt_trichotomy i hs.length with hi | hi | hi
 ·have a:(hs++[u]).getD i Ln=hs.getD i Ln:=by simp[Dy,Aa7 hi]
  have b:(xss++[xs]).getD i []=xss.getD i []:=by simp[Dy,Aa7 (h.1▸hi)]
  rw[a,b];exact h.2 i
 ·subst hi
  have a:(hs++[u]).getD hs.length Ln=u:=by simp[Dy]
  have b:(xss++[xs]).getD hs.length []=xs:=by rw[h.1];simp[Dy]
  rw[a,b];exact c
 ·have a:(hs++[u]).getD i Ln=Ln:=by rw[Dy,Qi (by simp;omega)];rfl
  have b:(xss++[xs]).getD i []=[]:=by rw[Dy,Qi (by simp;have:=h.1;omega)];rfl
  rw[a,b];exact Hg
theorem Np {α:Type}{l:List α}{d z:α}{k:Nat}{i:Int}:(upd l i z).getD k d=if i.toNat=k∧k<l.length then z else l.getD k d:=by
 unfold upd;rw[Dy,Z3,Dy];by_cases h:i.toNat=k
 ·subst h
  by_cases a:i.toNat<l.length
  ·simp[a]
  ·simp[a,Qi (Z2 a)]
 ·simp[h]
theorem GL.upd {u:Ak}{xs:List Int} (h:GL hs xss) (a:SliceLen u xs.length) (i:Int):GL (upd hs i u) (upd xss i xs):=by
 refine⟨by simp[D9,h.1],fun k=>?_⟩;rw[Np,Np,h.1];split
 ·exact a
 ·exact h.2 k
theorem GL.updG (h:GL hs xss) (i j z:Int):GL hs (updG xss i j z):=by
 refine⟨by simp[Rd.updG,D9,h.1],fun k=>?_⟩;unfold Rd.updG;rw[Np];split
 ·rename_i a
  obtain⟨rfl,_⟩:=a;rw[D9];exact h.2 i.toNat
 ·exact h.2 k
theorem A6e (n:Nat):GL (List.replicate n Ln) (List.replicate n []):=by
 refine⟨Ba,fun i=>?_⟩
 have a:(List.replicate n Ln).getD i Ln=Ln:=by simp only[Dy,Aa5];split <;> rfl
 have b:(List.replicate n ([]:List Int)).getD i []=[]:=by simp only[Dy,Aa5];split <;> rfl
 rw[a,b];exact Hg
theorem Adm (h:(Iy v hs E1 E2 xss).holds w):RowsA w v xss:=by
 obtain⟨c,l,d,m,n⟩:=h;refine⟨hs.zip xss,by rw[List.map_snd_zip Aa],?_,fun q g=>?_⟩
 ·have:=Cn c
  have e:(hs.zip xss).map Lg=hs.map Ry:=by
   have:(hs.zip xss).map Lg=((hs.zip xss).map (·.1)).map Ry:=by rw[List.map_map];rfl
   rw[this,List.map_fst_zip Aa]
  rw[e];exact this
 ·obtain⟨k,a,rfl⟩:=List.mem_iff_getElem.1 g
  have b:k<hs.length:=by simp at a;omega
  have f:k<xss.length:=by simp at a;omega
  have:=Cn (d k b);rw[Dy,E3 b,Dy,E3 f] at this;simpa using this
theorem Az9 (h:(Iy v hs E1 E2 xss).holds w) (d:Li v i 1 p) (hi:IX i (ln xss)):w.cell? p=some (hat hs i):=by
 obtain⟨a,c,_⟩:=h
 have b:i.toNat<hs.length:=by have:=hi.1;have:=hi.2;unfold ln at this;omega
 have:=(Cn a).row i.toNat [hs.getD i.toNat Ln] p (by rw[Aa1,getD_some b];rfl) (by rwa [Adz hi.1]);have h:=this.1;simpa[Lw,hat,Dy] using h
theorem A0a (h:(Iy v hs E1 E2 xss).holds w) (hi:IX i (ln xss)):Arr w (hat hs i) 1 ((ele xss i).map Ar):=by
 obtain⟨c,d,a,_⟩:=h
 have b:i.toNat<hs.length:=by have:=hi.1;have:=hi.2;unfold ln at this;omega
 exact Cn (a i.toNat b)
theorem Ty {w w':Aj}{h:Ak}{E sz:Nat}{rows:List (List Ak)} (c:(vec h E sz rows).holds w) (a:∀ b,Q6 h b→w'.heap[b]?=w.heap[b]?):(vec h E sz rows).holds w':=(vec h E sz rows).stable w w' c a
theorem A2n (h:(Iy v hs E1 E2 xss).holds w):∀ b,(Iy v hs E1 E2 xss).foot b→b<w.heap.size:=fun b a=>by
 rcases a with a | ⟨i,hi,a⟩
 ·exact E7 h.1 b a
 ·exact E7 (h.2.2.1 i hi) b a
end
section
variable {M : Nat → Prop} {w0 : Aj} {H : List Res} {v : Ak} {hs : List Ak} {E1 E2 : TypeId} {xss : List (List Int)} {i j : Int} {p : Addr}
theorem Fb (k:Nat) (a:H[k]?=some (Iy v hs E1 E2 xss)) (b:Li v i 1 p) (hi:IX i (ln xss)):∀ w,Own M w0 H w→w.cell? p=some (hat hs i):=fun w c=>Az9 (c.at k a) b hi
theorem Jc (k:Nat) (a:H[k]?=some (Iy v hs E1 E2 xss)) (hi:IX i (ln xss)):∀ w,Own M w0 H w→Arr w (hat hs i) 1 ((ele xss i).map Ar):=fun w b=>A0a (b.at k a) hi
theorem Own.gridNil {w:Aj} (h:Own M w0 H w) {E1 E2:TypeId}:Own M w0 (Iy Ln [] E1 E2 []::H) w:=by
 refine⟨h.1,⟨⟨Ae0 (α:=Ak) (enc:=Ry),rfl,fun i hi=>absurd hi (Q2 _),fun i j hi=>absurd hi (Q2 _),fun i hi=>absurd hi (Q2 _)⟩,fun b a=>?_,fun s _ b a=>?_⟩,h.2⟩
 ·rcases a with ⟨_,_,a⟩ | ⟨i,hi,_⟩
  ·simp[Ln] at a
  ·exact absurd hi (Q2 _)
 ·rcases a with ⟨_,_,a⟩ | ⟨i,hi,_⟩
  ·simp[Ln] at a
  ·exact absurd hi (Q2 _)
theorem Own.gridRep {w:Aj}{n:Nat} (h:Own M w0 (vec v E1 1 ((List.replicate n Ln).map Ry)::H) w) (E2:TypeId):Own M w0 (Iy v (List.replicate n Ln) E1 E2 (List.replicate n [])::H) w:=by
 obtain⟨e,⟨f,g,k⟩,l⟩:=h
 have d:∀ i:Nat,(List.replicate n Ln).getD i Ln=Ln:=fun i=>by simp only[Dy,Aa5];split <;> rfl
 have m:∀ i:Nat,(List.replicate n ([]:List Int)).getD i []=[]:=fun i=>by simp only[Dy,Aa5];split <;> rfl
 have c:∀ i b,¬Q6 ((List.replicate n Ln).getD i Ln) b:=fun i b ⟨_,_,a⟩=>by rw[d] at a;simp[Ln] at a
 refine⟨e,⟨⟨f,Ba,fun i hi=>?_,fun i j _ _ _ b a=>absurd a (c i b),fun i _ b a=>absurd a (c i b)⟩,fun b a=>?_,fun s hs b a=>?_⟩,l⟩
 ·rw[d,m];exact Ae0 (α:=Int) (enc:=Ar)
 ·rcases a with a | ⟨i,_,a⟩
  ·exact g b a
  ·exact absurd a (c i b)
 ·rcases a with a | ⟨i,_,a⟩
  ·exact k s hs b a
  ·exact absurd a (c i b)
end
section
variable {P : Bu} {n : Nat} {σ : Env} {M : Nat → Prop} {w0 : Aj} {H : List Res} {d : Option Tmp} {T U E E1 E2 : TypeId} {pos : String} {after : Array Edge} {gd : Option (Nat × Bool)} {x y : Eb} {g g' : Bool} {v u yv : Ak} {hs : List Ak} {xss : List (List Int)} {xs : List Int}
 {K:Act→Aj→Prop}{Q:Exit→Act→Aj→Prop}{i j:Int}{p:Addr}{w:Aj}
theorem Az8 (h:(Iy v hs E1 E2 xss).holds w) (hi:IX i (ln xss)) (F:Li (hat hs i) j 1 p) (z:Int) :
  ∃ b,(Iy v hs E1 E2 xss).foot b∧(store p (Dz z)).run P w=.ok () (w.setCell p (Dz z))∧(Iy v hs E1 E2 (updG xss i j z)).holds (w.setCell p (Dz z))∧(∀ k,k≠b→(w.setCell p (Dz z)).heap[k]?=w.heap[k]?):=by
 obtain⟨t,A,o,q,r⟩:=h
 have a:i.toNat<hs.length:=by have:=hi.1;have:=hi.2;unfold ln at this;omega
 obtain⟨b,⟨K,J,B⟩,rfl,G,I,m⟩:=Agq (P:=P) (c:=Dz) T8 (z:=z) (o i.toNat a) F rfl;have f:Q6 (hs.getD i.toNat Ln) b:=⟨K,J,B⟩;refine⟨b,.inr ⟨_,a,f⟩,G,⟨Ty t fun c l=>m c fun e=>r _ a b f (e▸l),by simp[updG,D9,A],fun k s=>?_,q,r⟩,m⟩;unfold updG;rw[Np];split
 ·rename_i e
  obtain⟨rfl,_⟩:=e;exact I
 ·rename_i e
  have C:¬i.toNat=k:=fun e'=>e ⟨e',Aa⟩;exact Ty (o k s) fun c l=>m c fun e'=>q i.toNat k a s C b f (e'▸l)
theorem Uj (k:Nat) (z:Int) (O:σ.ev x=some (g,.pointer (some p))) (A:g=true) (R:σ.ev y=some (g',.int .i64 z)) (B:g'=true) (l:H[k]?=some (Iy v hs E1 E2 xss)) (hi:IX i (ln xss)) (I:Li (hat hs i) j 1 p) (L:Dg P T 1)
  (kk:WK n K σ (Own M w0 (H.set k (Iy v hs E1 E2 (updG xss i j z))))):EV P n ⟨none,.store T x y,U,pos,after,gd⟩ σ (Own M w0 H) K Q:=fun a w f m=>by
 refine .inl ?_;obtain⟨b,t,o,r,s⟩:=Az8 (P:=P) (m.at k l) hi I z;obtain⟨S,C,N⟩:=Ks.1 L
 have J:(execOp a.eval ⟨none,.store T x y,U,pos,after,gd⟩).run P w=.ok .skip (w.setCell p (Dz z)):=by
  have q:(Go.store (p.add 0) (.int .i64 z)).run P w=.ok () (w.setCell p (Dz z)):=by simpa[Lw,Dz] using o
  simp[execOp,f.ev O A,f.ev R B,Instr.storeAt,Qt,storeVar,Ee,sizeOf,typeInfo,C,N,storeCells,q]
 unfold H3;rw[J];show K (a.put none undef) _;have F:=A2n (m.at k l);exact kk a _ f (m.upd k l rfl rfl ⟨rfl,Cf _⟩ (by simp[World.setCell]) (fun c h G=>s c fun e=>G (e▸t)) r fun c h=>⟨.inl h,by simpa[World.setCell] using F c h⟩)
theorem Own.two {r s:Res}{w:Aj} (h:Own M w0 (r::s::H) w):r.holds w∧s.holds w∧(∀ b,r.foot b→¬s.foot b):=⟨h.2.1.1,h.2.2.1.1,fun b a=>h.2.1.2.2 s Ba b a⟩
theorem Own.merge {r s t:Res}{w w':Aj} (h:Own M w0 (r::s::H) w) (C:w'.os=w.os) (I:w'.tape=w.tape) (F:w'.output=w.output∧w.drawn≤w'.drawn) (o:w.heap.size≤w'.heap.size)
  (m:∀ b,b<w.heap.size→¬r.foot b→¬s.foot b→w'.heap[b]?=w.heap[b]?) (G:t.holds w') (i:∀ b,t.foot b→(r.foot b∨s.foot b∨w.heap.size≤b)∧b<w'.heap.size):Own M w0 (t::H) w':=by
 obtain⟨k,⟨r1,p,z⟩,⟨J,A,B⟩,f⟩:=h;refine⟨k.trans ⟨C,I,F,o,fun b e l=>m b e (fun j=>l (p b j).1) fun hs=>l (A b hs).1⟩,⟨G,fun b e=>⟨?_,(i b e).2⟩,fun q a b e c=>?_⟩,?_⟩
 ·rcases (i b e).1 with h | h | h
  ·exact(p b h).1
  ·exact(A b h).1
  ·exact .inr (Nk k.size h)
 ·rcases (i b e).1 with h | h | h
  ·exact z q (Zf _ a) b h c
  ·exact B q a b h c
  ·have:=(f.lt q a b c).2;omega
 ·exact f.change o fun q a b c=>m b (f.lt q a b c).2 (fun j=>z q (Zf _ a) b j c) fun hs=>B q a b hs c
theorem Ap1 (b2:σ.ev x=some (g,.pointer (some p))) (Y:g=true) (b3:σ.ev y=some (g',u)) (a0:g'=true) (a4:Li v i 1 p) (hi:IX i (ln xss)) (I:SliceLen u xs.length) (a7:Dg P T 1)
  (kk:WK n K σ (Own M w0 (Iy v (upd hs i u) E1 E2 (upd xss i xs)::H))):EV P n ⟨none,.store T x y,U,pos,after,gd⟩ σ (Own M w0 (Iy v hs E1 E2 xss::vec u E2 1 (xs.map Ar)::H)) K Q:=fun a w m N=>by
 refine .inl ?_;obtain⟨⟨t,A,B,X,C⟩,L,o⟩:=N.two
 have b4:i.toNat<hs.length:=by have:=hi.1;have:=hi.2;unfold ln at this;omega
 have a3:(id u).oneCell'=true:=I.one;obtain⟨b,⟨R,O,rfl⟩,rfl,b0,a8,r⟩:=Agq (P:=P) (c:=id) Az7 (z:=u) t a4 a3;obtain⟨b5,a1,b1⟩:=Ks.1 a7
 have a6:(execOp a.eval ⟨none,.store T x y,U,pos,after,gd⟩).run P w=.ok .skip (w.setCell ⟨b,i.toNat,none⟩ (id u)):=by
  have W:(Go.store ((⟨b,i.toNat,none⟩:Addr).add 0) u).run P w=.ok () (w.setCell ⟨b,i.toNat,none⟩ (id u)):=by simpa[Lw] using b0
  simp[execOp,m.ev b2 Y,m.ev b3 a0,Instr.storeAt,Qt,storeVar,I.cells,sizeOf,typeInfo,a1,b1,storeCells,W]
 unfold H3;rw[a6];show K (a.put none undef) _;have s:Q6 (.slice (some ⟨b,0,none⟩) R O) b:=⟨_,_,rfl⟩
 have a2:∀ c,Q6 (.slice (some ⟨b,0,none⟩) R O) c→c=b:=fun c ⟨_,_,F⟩=>by simp at F;exact F.1.symm
 have J:∀ c,Q6 u c→c≠b:=fun c f e=>o b (.inl s) (e▸f);refine kk a _ m (N.merge rfl rfl ⟨rfl,Cf _⟩ (by simp[World.setCell]) (fun c f a5 hs=>r c fun e=>a5 (by subst e;exact .inl s)) ⟨a8,by simp[D9,A],fun k h=>?_,fun k l h q G c f j=>?_,fun k h c f j=>?_⟩ fun c f=>?_)
 ·rw[D9] at h
  rw[Np,Np,←A];split
  ·exact Ty L fun c f=>r c (J c f)
  ·exact Ty (B k h) fun c f=>r c fun e=>C k h c f (e▸s)
 ·rw[D9] at h q
  rw[Np] at f j;split at f <;> split at j
  ·rename_i S V;exact G (S.1.symm.trans V.1)
  ·exact o c (.inr ⟨l,q,j⟩) f
  ·exact o c (.inr ⟨k,h,f⟩) j
  ·exact X k l h q G c f j
 ·rw[D9] at h
  rw[Np] at f;split at f
  ·exact J c f (a2 c j)
  ·exact C k h c f j
 ·have a9:(w.setCell ⟨b,i.toNat,none⟩ (id u)).heap.size=w.heap.size:=by simp[World.setCell]
  rw[a9];rcases f with f | ⟨k,h,f⟩
  ·exact⟨.inl (.inl f),E7 t c f⟩
  ·rw[D9] at h
   rw[Np] at f;split at f
   ·exact⟨.inr (.inl f),E7 L c f⟩
   ·exact⟨.inl (.inr ⟨k,h,f⟩),E7 (B k h) c f⟩
theorem Aso {dd bytes:Nat} (a9:dd<n) (a4:Ws P U E1 1 bytes) (b7:σ.ev x=some (g,v)) (a5:g=true) (b8:σ.ev y=some (g',yv)) (a6:g'=true) (b5:SliceLen u xs.length)
  (b1:∀ w,Own M w0 (Iy v hs E1 E2 xss::vec u E2 1 (xs.map Ar)::H) w→Arr w yv 1 [[u]]) (R:AL (xss++[xs]).length bytes) (b9:GL hs xss)
  (kk:∀ p,SliceLen p (xss++[xs]).length→WK n K ((dd,(true,p))::σ) (Own M w0 (Iy p (hs++[u]) E1 E2 (xss++[xs])::H))) :
  EV P n ⟨some dd,.call ⟨.builtin .append,#[x,y],#[U,U]⟩,T,pos,after,gd⟩ σ (Own M w0 (Iy v hs E1 E2 xss::vec u E2 1 (xs.map Ar)::H)) K Q:=fun a w G J=>by
 refine .inl ?_;obtain⟨⟨a2,s,z,a3,O⟩,B,A⟩:=J.two
 have X:(hs.map Ry).length=xss.length:=by simp[s]
 have S:=R.1;have V:=R.2;simp only[B2,Lf] at S V;obtain⟨p,w',o,g1,a1,g3,g4,C,g6,F⟩:=Sk (T:=T) a4 a2 (b1 w J) (fun r o=>by simp at o;subst o;rfl) (fun r o c W=>by simp at o;subst o;simp at W;subst W;exact b5.one) (by rw[X];simpa using S) (by rw[X];simpa using V)
 have b3:(execOp a.eval ⟨some dd,.call ⟨.builtin .append,#[x,y],#[U,U]⟩,T,pos,after,gd⟩).run P w=.ok (.value p) w':=by
  simp[execOp,resolve,invoke,builtin,G.ev b7 a5,G.ev b8 a6,o,Qz]
 unfold H3;rw[b3];show K (a.put (some dd) _) _
 have a8:hs.map Ry++[[u]]=(hs++[u]).map Ry:=by simp[Ry]
 rw[a8] at g1 F;have b2:∀ k,k<hs.length→∀ b,Q6 (hs.getD k Ln) b→w'.heap[b]?=w.heap[b]?:=fun k j b f=>g6 b (E7 (z k j) b f) (O k j b f);have b6:∀ b,Q6 u b→w'.heap[b]?=w.heap[b]?:=fun b f=>g6 b (E7 B b f) fun I=>A b (.inl I) f
 have t:∀ k,k<(hs++[u]).length→(k<hs.length∧(hs++[u]).getD k Ln=hs.getD k Ln∧(xss++[xs]).getD k []=xss.getD k [])∨(k=hs.length∧(hs++[u]).getD k Ln=u∧(xss++[xs]).getD k []=xs):=fun k j=>by
  rcases Uv k hs.length with h | h
  ·exact .inl ⟨h,by simp[Dy,Aa7 h],by simp[Dy,Aa7 (s▸h)]⟩
  ·have e:k=hs.length:=by simp at j;omega
   subst e;exact .inr ⟨rfl,by simp[Dy],by rw[s];simp[Dy]⟩
 have Y:∀ b,Q6 p b→Q6 v b∨w.heap.size≤b:=fun b f=>(F b f).1
 have b4:SliceLen p (xss++[xs]).length:=by
  have:=Ayv g1;rw[Ge] at this;rwa [show (xss++[xs]).length=(hs++[u]).length from by simp[s]]
 refine kk p b4 _ _ (G.put a9 true _) (J.merge a1 g3 g4 C (fun b f o c0=>g6 b f fun I=>o (.inl I)) ⟨g1,by simp[s],fun k j=>?_,fun k l j a7 b0 b f q=>?_,fun k j b f q=>?_⟩ fun b f=>?_)
 ·rcases t k j with ⟨i,m,L⟩ | ⟨i,m,L⟩
  ·rw[m,L];exact Ty (z k i) (b2 k i)
  ·rw[m,L];exact Ty B b6
 ·rcases t k j with ⟨i,m,_⟩ | ⟨i,m,_⟩ <;> rcases t l a7 with ⟨r1,a0,_⟩ | ⟨r1,a0,_⟩ <;> rw[m] at f <;> rw[a0] at q
  ·exact a3 k l i r1 b0 b f q
  ·exact A b (.inr ⟨k,i,f⟩) q
  ·exact A b (.inr ⟨l,r1,q⟩) f
  ·omega
 ·rcases t k j with ⟨i,m,_⟩ | ⟨i,m,_⟩ <;> rw[m] at f
  ·rcases Y b q with h | h
   ·exact O k i b f h
   ·have:=E7 (z k i) b f;omega
  ·rcases Y b q with h | h
   ·exact A b (.inl h) f
   ·have:=E7 B b f;omega
 ·rcases f with f | ⟨k,j,f⟩
  ·rcases F b f with ⟨h | h,N⟩
   ·exact⟨.inl (.inl h),N⟩
   ·exact⟨.inr (.inr h),N⟩
  ·rcases t k j with ⟨i,m,_⟩ | ⟨i,m,_⟩ <;> rw[m] at f
   ·exact⟨.inl (.inr ⟨k,i,f⟩),Aa3 (E7 (z k i) b f) C⟩
   ·exact⟨.inr (.inl f),Aa3 (E7 B b f) C⟩
end
end Go.Rd
end
section
namespace Go.Rd
open Go.RowKit
theorem Ahb {b off:Nat}{i:Int} (h:0≤i):(((⟨b,0,none⟩:Addr).add off).add (i.toNat * 1))=⟨b,((off:Int)+i).toNat,none⟩:=by
 rw[Hi];congr 1;omega
theorem Adr {b:Nat}{i:Int}:((⟨b,0,none⟩:Addr).add (i.toNat * 1))=⟨b,i.toNat,none⟩:=A28 b i.toNat
theorem Ab3 {b:Nat} (j:Nat):((⟨b,0,none⟩:Addr).add j)=⟨b,(j:Int).toNat,none⟩:=by
 rw[Sr];simp
section
variable {P : Bu} {n : Nat} {σ : Env} {C : Aj → Prop} {M : Nat → Prop} {w0 : Aj} {H : List Res} {d : Option Tmp} {T U E D : TypeId} {pos : String} {after : Array Edge} {gd : Option (Nat × Bool)} {x y : Eb} {g g' : Bool} {v : Ak}
 {K:Act→Aj→Prop}{Q:Exit→Act→Aj→Prop}{α:Type}{c:α→Ak}{xs:List α}{b:Nat}{i:Int}{q:Addr}
theorem Adv [Inhabited α] (k:Nat) (e:H[k]?=some (blk b (xs.map c) T)) (hi:IX i (ln xs)) (f:q=⟨b,i.toNat,none⟩):∀ w,Own M w0 H w→w.cell? q=some (c (ele xs i)):=fun w h=>by
 subst f
 have a:i.toNat<xs.length:=by have:=hi.1;have:=hi.2;unfold ln at this;omega
 refine Aq k e ?_ w h;rw[Aa1,E3 a];simp[ele,Dy,E3 a]
theorem Aaq {cs:List Ak} (k:Nat) (e:H[k]?=some (blk b (xs.map c) T)) (a:xs.map c=cs):∀ w,Own M w0 H w→CellsAt w ⟨b,0,none⟩ cs 0:=a▸Ac k e
theorem Adw (k:Nat) (i:Int) (z:α) (o:σ.ev x=some (g,.pointer (some q))) (e:g=true) (p:σ.ev y=some (g',c z)) (f:g'=true) (h:H[k]?=some (blk b (xs.map c) E)) (l:q=⟨b,i.toNat,none⟩) (hi:IX i (ln xs))
  (m:(c z).cells=[c z].toArray) (j:(c z).oneCell'=true) (hs:Dg P T 1) (kk:WK n K σ (Own M w0 (H.set k (blk b ((upd xs i z).map c) E)))):EV P n ⟨none,.store T x y,U,pos,after,gd⟩ σ (Own M w0 H) K Q:=by
 have r:i.toNat<xs.length:=by have:=hi.1;have:=hi.2;unfold ln at this;omega
 refine EV.store k (vs:=[c z]) o e p f h l m hs (by simp;omega) (fun u a=>by simp at a;subst a;exact j) ?_;rw[show Nh (xs.map c) i.toNat [c z]=(upd xs i z).map c from by simp[Nh,upd,List.map_set]];exact kk
theorem A53 {α:Type} [Inhabited α] {l:List α}{i:Int} (h:IX i (ln l)):l[i.toNat]?=some (ele l i):=by
 have a:i.toNat<l.length:=by have:=h.1;have:=h.2;unfold ln at this;omega
 simp[ele,Dy,E3 a]
theorem X3 {k:IntKind}{s:List UInt8} (j:P.underlying U=some .string) (p:σ.ev x=some (g,Cs s)) (l:g=true) (q:σ.ev y=some (g',.int k i)) (m:g'=true) (hi:IX i (ln s)) :
  QV P ⟨d,.index U x y,T,pos,after,gd⟩ σ C (.int .u8 ((ele s i).toNat:Int)):=.of_run fun n a b w r=>by
 have f:=hi.1
 have o:(Nj s.toArray)[i.toNat]?=some (ele s i):=by
  have c:i.toNat<s.length:=by have:=hi.2;unfold ln at this;omega
  have h:i.toNat<(Nj s.toArray).size:=by simpa[ByteArray.size] using c
  have:=A53 hi;rw[E3 c] at this;rw[getElem?_pos (Nj s.toArray) i.toNat h]
  have e:(Nj s.toArray)[i.toNat]=s[i.toNat]:=by
   show (s.toArray)[i.toNat]'_=_;simp
  rw[e,this]
 simp[execOp,b.ev p l,b.ev q m,Instr.index,asIntOf,Ev j,f,Cs,o]
end
theorem Aza {u:Ak}:∀ r∈[[u]],r.length=1:=fun r a=>by simp at a;subst a;rfl
def Abr (xs:List Int):Option (List Int):=ck (AL xs.length 8) (some xs)
def Zj (ns:List Int):Opr:=⟨ns.getD 0 0,ns.getD 1 0,ns.getD 2 0,ns.getD 3 0,ns.getD 4 0,ns.getD 5 0,ns.getD 6 0,ns.getD 7 0,ns.getD 8 0,ns.getD 9 0⟩
theorem Apm {ns:List Int} (h:ns.length=10):ns.map Dz=(Zj ns).cells:=by
 match ns,h with
 | [_,_,_,_,_,_,_,_,_,_],_=>rfl
def Ad6 (ns:List Int):Tgt:=⟨ns.getD 0 0,ns.getD 1 0,ns.getD 2 0,ns.getD 3 0,ns.getD 4 0,ns.getD 5 0,ns.getD 6 0⟩
end Go.Rd
end
section
namespace Go.Rd
theorem Ce {α:Type}{p:Prop} [Decidable p] {a b:α} (h:p):br (decide p) a b=a:=by rw[Lr h];rfl
theorem Ch {α:Type}{p:Prop} [Decidable p] {a b:α} (h:¬p):br (decide p) a b=b:=by rw[Wc h];rfl
theorem Zm {α:Type}{c:Bool}{a b:α}:br c a b=if c=true then a else b:=by cases c <;> rfl
theorem Av {α:Type}{n:Int}{x:Option α} (a:-9223372036854775808≤n) (b:n≤9223372036854775807):ck (IR n) x=x:=Au ⟨a,b⟩
theorem A7 {α:Type}{i n:Int}{x:Option α} (a:0≤i) (b:i<n):ck (IX i n) x=x:=Au ⟨a,b⟩
theorem Ra {α:Type}{i j n:Int}{x:Option α} (a:0≤i) (b:i≤j) (c:j≤n):ck (SX i j n) x=x:=Au ⟨a,b,c⟩
theorem Zl {α:Type}{n b:Nat}{x:Option α} (a:n≤9223372036854775807) (c:n * b≤140737488355328):ck (AL n b) x=x:=Au ⟨a,c⟩
theorem A4i {α:Type}{l:List UInt8}{x:Option α} (a:l.length≤9223372036854775807):ck (SL l) x=x:=Au a
theorem Fc {α:Type}{c:Bool}{p:Prop} [Decidable p] {x:Option α} (h:c=true→p):ck (c=true→p) x=x:=Au h
@[simp] theorem bd_some' {α β:Type}{x:α}{k:α→Option β}:bd (some x) k=k x:=rfl
@[simp] theorem bdG_t {α β:Type} [Inhabited α] {m:Option α}{k:α→Option β}:bdG true m k=bd m k:=rfl
@[simp] theorem bdG_f {α β:Type} [Inhabited α] {m:Option α}{k:α→Option β}:bdG Ay m k=k default:=rfl
theorem C7 {α:Type} [Inhabited α] (xs:List α) (i:Nat):ele xs (i:Int)=xs.getD i default:=rfl
theorem Avq {α:Type} (xs:List α):0≤ln xs:=by unfold ln;omega
theorem Bz {γ ρ:Type}{f:γ→Option (Stp γ ρ)}{g g':γ}{o:Out γ ρ} (h:f g=some (.next g')) (k:lp f g'=some o):lp f g=some o:=(Lk h).trans k
theorem Vj {α:Type} [Inhabited α] {p:α→Prop}{l:List α} (h:∀ x∈l,p x) {i:Nat} (hi:i<l.length):p (ele l i):=by
 have:ele l i=l[i]:=by simp[Rd.ele,Dy,E3 hi]
 rw[this];exact h _ (Uz hi)
theorem On {α:Type} (c b:Bool) (k:Bool→Option α):bdG c (some b) k=k (if c=true then b else Ay):=by cases c <;> rfl
theorem U4 {f:Int→Option (Stp Int Bool)}{n:Nat}{p:Nat→Prop} (step:∀ i:Nat,i<n→(∀ j,j<i→p j)→(p i→f i=some (.next ((i:Int)+1)))∧(¬p i→f i=some (.ret Ay))) (l:f n=some (.brk n)) :
  ((∀ i,i<n→p i)∧lp f 0=some (.go (n:Int)))∨(¬(∀ i,i<n→p i)∧lp f 0=some (.ret Ay)):=by
 have key:∀ (m i:Nat),i+m=n→(∀ j,j<i→p j)→((∀ i,i<n→p i)∧lp f i=some (.go (n:Int)))∨(¬(∀ i,i<n→p i)∧lp f i=some (.ret Ay)):=by
  intro m
  induction m with
  | zero =>
   intro i h d;have hi:i=n:=Aa;subst hi;exact .inl ⟨d,C2 l⟩
  | succ m o =>
   intro i h d;obtain⟨e,k⟩:=step i Aa d;by_cases c:p i
   ·have hs:∀ j,j<i+1→p j:=fun j g=>by
     rcases Uv j i with h | h
     ·exact d j h
     ·have:j=i:=by omega
      subst this;exact c
    rcases o (i+1) Aa hs with ⟨a,b⟩ | ⟨a,b⟩
    ·exact .inl ⟨a,(Lk (e c)).trans b⟩
    ·exact .inr ⟨a,(Lk (e c)).trans b⟩
   ·exact .inr ⟨fun h=>c (h i Aa),Hk (k c)⟩
 exact key n 0 Aa (fun j g=>absurd g (Q2 _))
theorem J5 {α:Type} [Inhabited α] {xs:List α}{i:Nat} (h:i<xs.length):xs.take (i+1)=xs.take i++[ele xs i]:=by
 rw[Af8,E3 h,Option.toList_some];simp[ele,Dy,E3 h]
theorem Ab1 {α ρ:Type}{f:List α×Int→Option (Stp (List α×Int) ρ)}{n:Nat}{h:Nat→α} (step:∀ i:Nat,i<n→f ((List.range i).map h,(i:Int))=some (.next ((List.range i).map h++[h i],(i:Int)+1)))
  (a:f ((List.range n).map h,(n:Int))=some (.brk ((List.range n).map h,(n:Int)))):lp f ([],0)=some (.go ((List.range n).map h,(n:Int))):=by
 have key:∀ m i:Nat,i+m=n→lp f ((List.range i).map h,(i:Int))=some (.go ((List.range n).map h,(n:Int))):=by
  intro m
  induction m with
  | zero =>
   intro i hi;have:i=n:=Aa;subst this;exact C2 a
  | succ m b =>
   intro i hi;refine Bz (step i Aa) ?_;have:=b (i+1) Aa;rw[Uy,Qh] at this;exact this
 exact key n 0 Aa
theorem Adh {α:Type} [Inhabited α] (l:List α):(List.range l.length).map (fun i:Nat=>ele l (i:Int))=l:=by
 apply Wx;intro i;by_cases h:i<l.length
 ·simp[h,C7,Dy]
 ·simp[Qi (Z2 h),h]
theorem Ahq {α β:Type} [Inhabited α] (l:List α) (g:α→β):(List.range l.length).map (fun i:Nat=>g (ele l (i:Int)))=l.map g:=by
 conv=>rhs;rw[←Adh l]
 rw[List.map_map];rfl
theorem Sw {ρ:Type}{f:Int→Option (Stp Int ρ)}{n:Nat}{p:Nat→Prop} (q:Nat→ρ):∀ (m s:Nat),s+m=n→(step:∀ i:Nat,s≤i→i<n→(p i→f i=some (.next ((i:Int)+1)))∧(¬p i→f i=some (.ret (q i))))→(l:f n=some (.brk n)) →
  ((∀ i,s≤i→i<n→p i)∧lp f s=some (.go (n:Int)))∨(∃ i,s≤i∧i<n∧¬p i∧(∀ j,s≤j→j<i→p j)∧lp f s=some (.ret (q i)))
 | 0,s,h,step,l=>by
  have:s=n:=Aa;subst this;exact .inl ⟨fun i o r=>Aa,C2 l⟩
 | m+1,s,h,step,l=>by
  obtain⟨o,r⟩:=step s (Cf _) Aa;by_cases g:p s
  ·rcases Sw q m (s+1) Aa (fun i a b=>step i Aa b) l with ⟨a,b⟩ | ⟨i,a,b,c,d,e⟩
   ·refine .inl ⟨fun i t k=>?_,(Lk (o g)).trans b⟩
    by_cases e:i=s
    ·subst e;exact g
    ·exact a i Aa k
   ·refine .inr ⟨i,Aa,b,c,fun j t k=>?_,(Lk (o g)).trans e⟩
    by_cases e:j=s
    ·subst e;exact g
    ·exact d j Aa k
  ·exact .inr ⟨s,Cf _,Aa,g,fun j t k=>Aa,Hk (r g)⟩
theorem O3 {α ρ:Type}{f:α×Int→Option (Stp (α×Int) ρ)}{n:Nat} (Inv:Nat→α→Prop) (step:∀ (i:Nat) g,i<n→Inv i g→∃ g',f (g,(i:Int))=some (.next (g',(i:Int)+1))∧Inv (i+1) g') (k:∀ g,f (g,(n:Int))=some (.brk (g,(n:Int)))) (g0:α) (c:Inv 0 g0) :
  ∃ g,lp f (g0,0)=some (.go (g,(n:Int)))∧Inv n g:=by
 have key:∀ m i:Nat,i+m=n→∀ g,Inv i g→∃ g',lp f (g,(i:Int))=some (.go (g',(n:Int)))∧Inv n g':=by
  intro m
  induction m with
  | zero =>
   intro i hi g a;have:i=n:=Aa;subst this;exact⟨g,C2 (k g),a⟩
  | succ m l =>
   intro i hi g a;obtain⟨g',d,e⟩:=step i g Aa a;obtain⟨b,h,j⟩:=l (i+1) Aa g' e;exact⟨b,Bz d h,j⟩
 exact key n 0 Aa g0 c
theorem Asy {α ρ:Type}{c:Bool}{a b:α}:br c (some (Out.go a:Out α ρ)) (some (Out.go b))=some (.go (if c=true then a else b)):=by cases c <;> rfl
theorem Dt {α:Type} [Inhabited α] {l:List α}{i:Nat} (h:i<l.length):ele l (i:Int)∈l:=by
 rw[C7,Dy,E3 h];exact Uz h
theorem Qa {α:Type} [Inhabited α] {l:List α}{x:α} (h:x∈l):∃ i:Nat,i<l.length∧ele l (i:Int)=x:=by
 obtain⟨i,hi,rfl⟩:=Acw h;exact⟨i,hi,by rw[C7,Dy,E3 hi];rfl⟩
theorem A1m {α:Type} (l:List α) (i:Int) (a b:α):upd (upd l i a) i b=upd l i b:=by unfold upd;rw[List.set_set]
theorem Abl {α:Type} [Inhabited α] {l:List α}{i:Int}{a:α} (h:IX i (ln l)):ele (upd l i a) i=a:=by
 have:i.toNat<l.length:=by have:=h.1;have:=h.2;unfold ln at this;omega
 unfold ele upd;rw[Dy,Z3];simp[this]
theorem Vu {α:Type} [Inhabited α] {l:List α}{i j:Int}{a:α} (h:i.toNat≠j.toNat):ele (upd l i a) j=ele l j:=by
 unfold ele upd;rw[Dy,Z3,Bb h,←Dy]
theorem Alk {α ρ:Type}{f:α×Int→Option (Stp (α×Int) ρ)}{n:Nat}{r0:ρ} (p:Nat→Prop) (Inv:Nat→α→Prop) (step:∀ (i:Nat) g,i<n→Inv i g→(p i∧∃ g',f (g,(i:Int))=some (.next (g',(i:Int)+1))∧Inv (i+1) g')∨(¬p i∧f (g,(i:Int))=some (.ret r0)))
  (u:∀ g,f (g,(n:Int))=some (.brk (g,(n:Int)))) (g0:α) (s:Inv 0 g0):((∀ i,i<n→p i)∧∃ g,lp f (g0,0)=some (.go (g,(n:Int)))∧Inv n g)∨(¬(∀ i,i<n→p i)∧lp f (g0,0)=some (.ret r0)):=by
 have key:∀ m i:Nat,i+m=n→(∀ j,j<i→p j)→∀ g,Inv i g→((∀ i,i<n→p i)∧∃ g',lp f (g,(i:Int))=some (.go (g',(n:Int)))∧Inv n g')∨(¬(∀ i,i<n→p i)∧lp f (g,(i:Int))=some (.ret r0)):=by
  intro m
  induction m with
  | zero =>
   intro i hi o g l;have:i=n:=Aa;subst this;exact .inl ⟨o,g,C2 (u g),l⟩
  | succ m w =>
   intro i hi o g l;rcases step i g Aa l with ⟨k,g',d,t⟩ | ⟨k,d⟩
   ·have v:∀ j,j<i+1→p j:=fun j q=>by
     by_cases e:j=i
     ·subst e;exact k
     ·exact o j Aa
    rcases w (i+1) Aa v g' t with ⟨a,r,b,c⟩ | ⟨a,b⟩
    ·exact .inl ⟨a,r,(Lk d).trans b,c⟩
    ·exact .inr ⟨a,(Lk d).trans b⟩
   ·exact .inr ⟨fun h=>k (h i Aa),Hk d⟩
 exact key n 0 Aa (fun j q=>absurd q (Q2 _)) g0 s
end Go.Rd
end
section
namespace Go.Rd
open Go.RowKit
section
variable {P : Bu} {n : Nat} {ops : Array Oper} {σ : Env} {C S : Aj → Prop}
def Zk (R:Act→Aj→Prop) (Q:Exit→Act→Aj→Prop):Exit→Act→Aj→Prop
 | .normal=>R
 | e=>Q e
variable {Q : Exit → Act → Aj → Prop} {R : Act → Aj → Prop}
theorem Zt (h:LetsOut (Zk R Q)):LetsOut Q:=let ⟨a,w,x⟩:=h;⟨a,w,x⟩
theorem Ayu {o:Oper}{a:Act}{w:Aj}{K K':Act→Aj→Prop} (h:∀ a w,K a w→K' a w) (b:o.wp P a w K (Zk R Q)):o.wp P a w K' Q:=by
 unfold H3 at *;generalize (execOp a.eval o).run P w=r at *
 cases r with
 | ok n w' =>
  cases n <;> simp only[Oper.upon] at b ⊢ <;>
   first
    | exact h _ _ b
    | exact Calls.mono b (fun e d c=>by cases e <;> first | exact h _ _ c | exact c | exact Zt c)
    | exact Rows.mono b (fun _ _ c=>h _ _ c)
 | halt x w'=>cases x <;> simp only[Oper.upon] at b ⊢ <;> exact b
theorem Ahf {i:Nat}{a:Act}{w:Aj}{K K':Act→Aj→Prop} (h:∀ a w,K a w→K' a w) (b:wpOp P ops (Zk R Q) i K a w):wpOp P ops Q i K' a w:=by
 unfold Go.wpOp at *;split
 ·exact h _ _ (by simpa[*] using b)
 ·rename_i o d
  simp only[d] at b;split
  ·rename_i c
   simp only[c,Na] at b;exact b.imp (Ayu h) fun ⟨x,y⟩=>⟨x,Zt y⟩
  ·rename_i c;simp only[c] at b;exact h _ _ b
theorem Aed {e:Region.Mode} (d:∀ a w,R a w→Q .normal a w):∀ (b:Nat) (c:Array Bool) (a:Act) (w:Aj),wpAny P e ops (Zk R Q) b c a w→wpAny P e ops Q b c a w
 | 0,c,a,w,h=>⟨h.1,d a w h.2⟩
 | b+1,c,a,w,h=>⟨fun f=>d a w (h.1 f),fun i hi=>Ahf (fun a w=>Aed d b _ a w) (h.2 i hi)⟩
theorem V0 {j:Region.Mode} (d:∀ a w,R a w→Q .normal a w):∀ (c:Nat) (S:Aj→Prop) (e:Array Bool) (C:Aj→Prop) (a:Act),Nb P j ops (Zk R Q) S c e C a→Nb P j ops Q S c e C a
 | 0,S,e,C,a,h=>⟨h.1,fun w b=>d a w (h.2 w b)⟩
 | c+1,S,e,C,a,h=>by
  intro k;rcases h k with ⟨f,g⟩ | ⟨f,g⟩
  ·refine .inl ⟨fun m w b=>d a w (f m w b),fun i hi w b=>Ahf (fun a w l=>?_) (g i hi w b)⟩
   obtain⟨C',S',o,p,q,r,x5⟩:=l;exact⟨C',S',o,p,q,r,V0 d c S' _ C' a x5⟩
  ·exact .inr ⟨f,fun w b=>Aed d _ _ a w (g w b)⟩
theorem At9 {X:Type} (F:X→Prop) (c:Nat→X→Env) (b:Nat→X→Aj→Prop) {d:Nat}{e:Array Bool} (l:∀ g0 x,F x→WK n (Q .normal) (c g0 x) (b g0 x))
  (h:WD P n ops (Zk (fun a w=>∃ g0 x,F x∧Has n a (c g0 x)∧b g0 x w) Q) S d e σ C):WD P n ops Q S d e σ C:=fun j a k =>
 V0 (fun a w ⟨g0,x,f,g,i⟩=>l g0 x f a w g i) _ _ _ _ _ (h j a k)
theorem Vw {X:Type}{F:X→Prop}{c:Nat→X→Env}{b:Nat→X→Aj→Prop} (g0:Nat) (x:X) (d:F x) (hs:Sub σ (c g0 x)) (f:∀ w,C w→b g0 x w):WK n (Zk (fun a w=>∃ g0 x,F x∧Has n a (c g0 x)∧b g0 x w) Q .normal) σ C:=fun a w e g=>⟨g0,x,d,e.sub hs,f w g⟩
theorem Aua (c:Nat→Nat→Env) (b:Nat→Nat→Aj→Prop) {d:Nat}{e:Array Bool} (k:∀ g0 g1,WK n (Q .normal) (c g0 g1) (b g0 g1))
  (h:WD P n ops (Zk (fun a w=>∃ g0 g1,Has n a (c g0 g1)∧b g0 g1 w) Q) S d e σ C):WD P n ops Q S d e σ C:=fun i a j =>
 V0 (fun a w ⟨g0,g1,f,g⟩=>k g0 g1 a w f g) _ _ _ _ _ (h i a j)
theorem Vx {c:Nat→Nat→Env}{b:Nat→Nat→Aj→Prop} (g0 g1:Nat) (hs:Sub σ (c g0 g1)) (e:∀ w,C w→b g0 g1 w):WK n (Zk (fun a w=>∃ g0 g1,Has n a (c g0 g1)∧b g0 g1 w) Q .normal) σ C:=fun a w d f=>⟨g0,g1,d.sub hs,e w f⟩
instance {R:Act→Aj→Prop}{Q:Exit→Act→Aj→Prop} [h:POk Q]:POk (Zk R Q):=⟨h.ok⟩
variable {M : Nat → Prop} {w0 : Aj} {H : List Res}
def Amo (ops:Array Oper) (a:List Nat) (m k:Nat):Bool:=Region.ready .any ops (lst m k)==a&&!a.isEmpty
theorem WD.each (e:List Nat) (k:Nat) {m c:Nat} (b:Amo ops e m k=true)
  (h:∀ i∈e,∃ oi k',ops[i]?=some oi∧oi.guard=none∧(lst m k).setIfInBounds i true=lst m k' ∧
   EV P n oi σ (Own M w0 H) (fun f w'=>∃ C' S':Aj→Prop,H8 C'∧(∀ x,C' x→S' x)∧(∀ x,S' x→S x)∧C' w'∧Nb P .any ops Q S' c (lst m k') C' f) Q):WD P n ops Q S (c+1) (lst m k) σ (Own M w0 H):=fun t a r=>by
 unfold Amo at b;simp only[E0,C8,Aky,List.isEmpty_eq_false_iff] at b;intro _;refine .inl ⟨fun g=>absurd (b.1.symm.trans g) b.2,fun j d w s=>?_⟩;rw[b.1] at d;obtain⟨oi,k',l,o,p,q⟩:=h j d;rw[p];unfold Go.wpOp;simp only[l];rw[Bg (by simp[Region.wanted,o])];exact q a w r s
def Al5 (ops:Array Oper) (i m k k':Nat):Bool:=(lst m k).setIfInBounds i true==lst m k'
theorem WD.two {b c:Oper} (a i2 k f g:Nat) {m e:Nat} (s:Amo ops [a,i2] m k=true) (q:ops[a]?=some b) (r:ops[i2]?=some c) (g1:b.guard=none) (p:c.guard=none) (h:Al5 ops a m k f=true) (j:Al5 ops i2 m k g=true)
  (l:EV P n b σ (Own M w0 H) (fun d w'=>∃ C' S':Aj→Prop,H8 C'∧(∀ x,C' x→S' x)∧(∀ x,S' x→S x)∧C' w'∧Nb P .any ops Q S' e (lst m f) C' d) Q)
  (o:EV P n c σ (Own M w0 H) (fun d w'=>∃ C' S':Aj→Prop,H8 C'∧(∀ x,C' x→S' x)∧(∀ x,S' x→S x)∧C' w'∧Nb P .any ops Q S' e (lst m g) C' d) Q):WD P n ops Q S (e+1) (lst m k) σ (Own M w0 H) :=
 WD.each [a,i2] k s fun i hi=>by
  simp only[Gl,Af3,or_false] at hi;unfold Al5 at h j;rcases hi with rfl | rfl
  ·exact⟨b,f,q,g1,C8.1 h,l⟩
  ·exact⟨c,g,r,p,C8.1 j,o⟩
end
end Go.Rd
end
section
namespace Go.Rd
open Go.RowKit Go.MapKept
section
variable {κ β : Type} [DecidableEq κ]
def Awv (m:List (κ×β)) (k:κ):Bool:=m.any fun p=>Ao (p.1=k)
def Fp (m:List (κ×β)) (k:κ) (d:β):β:=match m.find? (fun p=>Ao (p.1=k)) with
 | some p=>p.2
 | none=>d
def N4 (m:List (κ×β)) (k:κ) (v:β):List (κ×β):=match m with
 | []=>[(k,v)]
 | p::r=>if p.1=k then (k,v)::r else p::N4 r k v
theorem Azs {k:κ}{d:β}:Fp ([]:List (κ×β)) k d=d:=rfl
theorem Om {p:κ×β}{m:List (κ×β)}{k:κ}{d:β}:Fp (p::m) k d=if p.1=k then p.2 else Fp m k d:=by
 unfold Fp;rw[List.find?_cons];by_cases h:p.1=k <;> simp[h]
theorem Ol {m:List (κ×β)}{k k':κ}{v d:β}:Fp (N4 m k v) k' d=if k=k' then v else Fp m k' d:=by
 induction m with
 | nil=>unfold N4;rw[Om]
 | cons p m b =>
  unfold N4;by_cases h:p.1=k
  ·rw[Bg h,Om,Om]
   subst h;by_cases a:p.1=k' <;> simp[a]
  ·rw[Bb h,Om,Om,b]
   by_cases a:p.1=k'
   ·have:¬k=k':=fun e=>h (a.trans e.symm)
    simp[a,this]
   ·simp[a]
end
def kI (n:Int):Ak:=.int .i64 n
def kP (p:Int×Int):Ak:=.agg #[.int .i64 p.1,.int .i64 p.2]
def bv (b:Bool):Ak:=.bool b
structure KeyT (P:Bu) {κ:Type} [DecidableEq κ] (K:TypeId) (ke:κ→Ak):Prop where
 check:∀ k w b,(Af0 b 10000 K (ke k)).run P w=.ok () w
 find:∀ (k:κ) w (es:List MapEntry) (ks:List κ),es.map (·.key)=ks.map ke→∃ r,(Instr.findKey K (ke k) es).run P w=.ok r w ∧
  ((r=none∧∀ j∈ks,j≠k)∨(∃ i e,r=some (i,e.val)∧es[i]?=some e∧ks[i]?=some k∧∀ j<i,ks[j]?≠some k))
 same:∀ k,Instr.sameBits 10000 (ke k) (ke k)=true
theorem Aek {P:Bu}{κ:Type} [DecidableEq κ] {K:TypeId}{ke:κ→Ak} (l:∀ a b w,(Op.equal K (ke a) (ke b)).run P w=.ok (Ao (b=a)) w) (k:κ) (w:Aj):∀ (es:List MapEntry) (ks:List κ) (n:Nat),es.map (·.key)=ks.map ke →
  ∃ r,(Af6 K (ke k) es n).run P w=.ok r w∧((r=none∧∀ j∈ks,j≠k)∨(∃ i e,r=some (n+i,e.val)∧es[i]?=some e∧ks[i]?=some k∧∀ j<i,ks[j]?≠some k))
 | [],[],n,_=>⟨none,by simp[Af6],.inl ⟨rfl,fun j f=>by cases f⟩⟩
 | [],_::_,n,h=>by simp at h
 | _::_,[],n,h=>by simp at h
 | e::es,k'::ks,n,h=>by
  simp only[W9,List.cons.injEq] at h;have m:=l k k' w;by_cases g:k'=k
  ·subst g
   refine⟨some (n,e.val),?_,.inr ⟨0,e,rfl,rfl,rfl,fun j f=>Aa⟩⟩;simp[Af6,h.1,m]
  ·obtain⟨r,p,o⟩:=Aek l k w es ks (n+1) h.2
   refine⟨r,?_,?_⟩
   ·simp[Af6,h.1,m,g,p]
   ·rcases o with ⟨a,b⟩ | ⟨i,e',a,b,c,d⟩
    ·exact .inl ⟨a,fun j f=>by rcases Gl.1 f with rfl | f;exact g;exact b j f⟩
    ·refine .inr ⟨i+1,e',by rw[a];congr 2;omega,by simpa using b,by simpa using c,fun j f=>?_⟩
     cases j with
     | zero=>simpa using g
     | succ j=>simpa using d j Aa
theorem Aoz {P:Bu}{K:TypeId}{t:IntKind} (k:Int):∀ (es:List MapEntry) (ks:List Int) (n:Nat),es.map (·.key)=ks.map kI →
  ∃ r,Z1 (.int t) (kI k) es n=some r∧((r=none∧∀ j∈ks,j≠k)∨(∃ i e,r=some (n+i,e.val)∧es[i]?=some e∧ks[i]?=some k∧∀ j<i,ks[j]?≠some k))
 | [],[],n,_=>⟨none,by simp[Z1],.inl ⟨rfl,fun j f=>by cases f⟩⟩
 | [],_::_,n,h=>by simp at h
 | _::_,[],n,h=>by simp at h
 | e::es,k'::ks,n,h=>by
  simp only[W9,List.cons.injEq] at h;by_cases g:k'=k
  ·subst g
   exact⟨some (n,e.val),by simp[Z1,h.1,kI,Instr.sameNow],.inr ⟨0,e,rfl,rfl,rfl,fun j f=>Aa⟩⟩
  ·obtain⟨r,l,m⟩:=Aoz (P:=P) (K:=K) (t:=t) k es ks (n+1) h.2
   refine⟨r,?_,?_⟩
   ·have o:(k==k')=Ay:=by simp;exact fun e=>g e.symm
    unfold kI at l;simp[Z1,h.1,kI,Instr.sameNow,o,l]
   ·rcases m with ⟨a,b⟩ | ⟨i,e',a,b,c,d⟩
    ·exact .inl ⟨a,fun j f=>by rcases Gl.1 f with rfl | f;exact g;exact b j f⟩
    ·refine .inr ⟨i+1,e',by rw[a];congr 2;omega,by simpa using b,by simpa using c,fun j f=>?_⟩
     cases j with
     | zero=>simpa using g
     | succ j=>simpa using d j Aa
theorem KeyT.int {P:Bu}{K:TypeId} (h:P.underlying K=some (.int .i64)):KeyT P K kI where
 check:=fun k w b=>by rw[show (10000:Nat)=9999+1 from rfl,Af0];simp[Ev h,kI]
 find:=fun k w es ks d=>by
  obtain⟨r,a,c⟩:=Aoz (P:=P) (K:=K) (t:=.i64) k es ks 0 d;refine⟨r,by rw[run_findKey h a],?_⟩;simpa using c
 same:=fun k=>by simp[kI,Instr.sameBits]
theorem Awl {P:Bu}{K I:TypeId} (h:P.underlying K=some (.array 2 I)) (f:P.underlying I=some (.int .i64)) (hs:(P.info? I).map (·.size)=some 1):KeyT P K kP where
 check:=fun k w b=>by
  have g:(isAgg I).run P w=.ok Ay w:=by simp[isAgg,Ev f]
  have i:=Sd (w:=w) hs
  have m:∀ n:Int,(Af0 b 9999 I (.int .i64 n)).run P w=.ok () w:=fun n=>by rw[show (9999:Nat)=9998+1 from rfl,Af0];simp[Ev f]
  rw[show (10000:Nat)=9999+1 from rfl,Af0];simp only[Tq,Ev h,Ts,kP,Axq,Std.Legacy.Range.size,Nat.sub_zero,Nat.add_one_sub_one,Nat.div_one];simp[List.range',i,part,g,m]
 find:=fun k w es ks o=>by
  have p:∀ a b w,(Op.equal K (kP a) (kP b)).run P w=.ok (Ao (b=a)) w:=fun a b w=>by
   have g:(isAgg I).run P w=.ok Ay w:=by simp[isAgg,Ev f]
   have i:=Sd (w:=w) hs;have l:∀ x y:Int,(Td 9999 I (.int .i64 x) (.int .i64 y)).run P w=.ok (x==y) w:=fun x y=>run_equalIn_int (P:=P) (w:=w) 9998 I .i64 .i64 x y f;obtain⟨j,a2⟩:=a;obtain⟨b1,b2⟩:=b;simp only[Op.equal,Op.maxDepth,kP];rw[Td];simp only[Tq,Ev h,Ts,Axq,Std.Legacy.Range.size,Nat.sub_zero,Nat.add_one_sub_one,Nat.div_one];simp[List.range',i,part,g,l];by_cases c:j=b1
   ·subst c
    by_cases d:a2=b2
    ·subst d;simp
    ·have:¬b2=a2:=fun e=>d e.symm
     simp[d,this]
   ·have:¬b1=j:=fun e=>c e.symm
    simp[c,this]
  obtain⟨r,c,d⟩:=Aek p k w es ks 0 o
  have s:∀ es:List MapEntry,es≠[]→Z1 (.array 2 I) (kP k) es 0=none:=fun es q=>by
   cases es with
   | nil=>exact absurd rfl q
   | cons e es=>simp[Z1,Instr.sameNow]
  refine⟨r,?_,by simpa using d⟩
  cases es with
  | nil =>
   have:r=none:=by simpa[Af6] using c.symm
   subst this;simp[Instr.findKey,Ev h,Z1]
  | cons e es=>simp[Instr.findKey,Ev h,s (e::es) Ba,c]
 same:=fun k=>by simp[kP,Instr.sameBits]
end Go.Rd
namespace Go.Rd
open Go.RowKit Go.MapKept
section
variable {κ β : Type} {ke : κ → Ak} {ve : β → Ak}
structure MapOk (ke:κ→Ak) (ve:β→Ak) (es:Array MapEntry) (c:Nat) (L:List (κ×β)):Prop where
 size:es.size=L.length
 ent:∀ (i:Nat) (p:κ×β),L[i]?=some p→∃ n,es[i]?=some (MapEntry.mk (ke p.1) (ve p.2) n)∧n<c
 born:∀ (i j:Nat) (e e':MapEntry),es[i]?=some e→es[j]?=some e'→e.born=e'.born→i=j
theorem MapOk.nil:MapOk ke ve #[] 0 ([]:List (κ×β)):=⟨rfl,fun i p h=>by simp at h,fun i j e e' h=>by simp at h⟩
theorem MapOk.keys {es:Array MapEntry}{c:Nat}{L:List (κ×β)} (h:MapOk ke ve es c L):es.toList.map (·.key)=(L.map (·.1)).map ke:=by
 apply Wx;intro i;simp only[Aa1,Ad0]
 cases a:L[i]? with
 | none =>
  have:es[i]?=none:=by
   rw[Array.getElem?_eq_none_iff,h.size];exact List.getElem?_eq_none_iff.1 a
  simp[this]
 | some p =>
  obtain⟨n,b,_⟩:=h.ent i p a;simp[b]
theorem MapOk.setVal {es:Array MapEntry}{c:Nat}{L:List (κ×β)} (h:MapOk ke ve es c L) {i:Nat}{k:κ}{v:β} (t:∃ p:κ×β,L[i]?=some p∧p.1=k):MapOk ke ve (es.modify i fun e=>{ e with val:=ve v }) c (L.set i (k,v)):=by
 obtain⟨p,w,rfl⟩:=t;refine⟨by simp[h.size],fun j q d=>?_,fun a b e e' g l r=>?_⟩
 ·rw[Z3] at d
  rw[Ad1];by_cases m:i=j
  ·subst m
   obtain⟨n,u,s⟩:=h.ent i p w;split at d
   ·split at d
    ·cases d;exact⟨n,by simp[u],s⟩
    ·cases d
   ·contradiction
  ·rw[Bb m] at d ⊢
   exact h.ent j q d
 ·rw[Ad1] at g l
  have key:∀ a e,(if i=a then Option.map (fun e:MapEntry=>{ e with val:=ve v }) es[a]? else es[a]?)=some e→∃ f,es[a]?=some f∧f.born=e.born:=fun a e h=>by
   split at h
   ·cases d:es[a]? with
    | none=>simp[d] at h
    | some f=>simp[d] at h;exact⟨f,rfl,by rw[←h]⟩
   ·exact⟨e,h,rfl⟩
  obtain⟨f,x,y⟩:=key a e g;obtain⟨o,z,A⟩:=key b e' l;exact h.born a b f o x z (by rw[y,A,r])
theorem MapOk.push {es:Array MapEntry}{c:Nat}{L:List (κ×β)} (h:MapOk ke ve es c L) (k:κ) (v:β):MapOk ke ve (es.push { key:=ke k,val:=ve v,born:=c }) (c+1) (L++[(k,v)]):=by
 have old:∀ (i:Nat) (e:MapEntry),es[i]?=some e→e.born<c:=fun i e p=>by
  have o:i<L.length:=by rw[←h.size];exact(Q5.1 p).1
  obtain⟨n,d,f⟩:=h.ent i L[i] (E3 o);rw[p] at d;cases d;exact f
 refine⟨by simp[h.size],fun j q g=>?_,fun a b e e' d f m=>?_⟩
 ·rw[Array.getElem?_push]
  by_cases l:j=es.size
  ·rw[Bg l]
   have:q=(k,v):=by
    rw[l,h.size] at g;simpa using g.symm
   subst this;exact⟨c,rfl,Aa⟩
  ·rw[Bb l]
   have o:j<L.length:=by
    have:=(Aa6.1 g).1;simp at this;rw[h.size] at l;omega
   rw[Aa7 o] at g;obtain⟨n,r,s⟩:=h.ent j q g;exact⟨n,r,Aa⟩
 ·rw[Array.getElem?_push] at d f
  split at d <;> split at f
  ·omega
  ·cases d;have:=old b e' f;simp only at m;omega
  ·cases f;have:=old a e d;simp only at m;omega
  ·exact h.born a b e e' d f m
def Wn (b:Nat) (ke:κ→Ak) (ve:β→Ak) (L:List (κ×β)):Res where
 foot:=fun x=>x=b
 holds:=fun w=>∃ es c,w.heap[b]?=some (.map es c)∧MapOk ke ve es c L
 stable:=fun w w' ⟨es,c,h,a⟩ d=>⟨es,c,(d b rfl).trans h,a⟩
theorem MapOk.find {es:Array MapEntry}{c:Nat}{L:List (κ×β)} (h:MapOk ke ve es c L) {i:Nat}{e:MapEntry} (b:es[i]?=some e):es.findIdx? (fun x=>(x.born:Int)==(e.born:Int))=some i:=by
 obtain⟨hi,rfl⟩:=Q5.1 b;rw[Array.findIdx?_eq_some_iff_getElem];refine⟨hi,Ba,fun j f a=>?_⟩;have d:j<es.size:=Aa;have:=h.born j i _ _ (Ac1 d) (Ac1 hi) (by simp at a;omega);omega
variable [DecidableEq κ]
theorem Ae4 {k:κ}{d:β}:∀ {L:List (κ×β)}{i:Nat},(L.map (·.1))[i]?=some k→(∀ j<i,(L.map (·.1))[j]?≠some k)→∃ p:κ×β,L[i]?=some p∧p.1=k∧Fp L k d=p.2
 | [],i,h,_=>by simp at h
 | p::L,0,h,_=>by
  simp at h;exact⟨p,rfl,h,by rw[Om,Bg h]⟩
 | p::L,i+1,h,hj=>by
  have a:¬p.1=k:=by simpa using hj 0 Aa
  obtain⟨q,b,c,e⟩:=Ae4 (k:=k) (d:=d) (L:=L) (i:=i) (by simpa using h) (fun j f=>by simpa using hj (j+1) Aa);exact⟨q,by simpa using b,c,by rw[Om,Bb a,e]⟩
theorem Ag2 {k:κ}{d:β}:∀ {L:List (κ×β)},(∀ j∈L.map (·.1),j≠k)→Fp L k d=d
 | [],_=>rfl
 | p::L,h=>by
  rw[Om,Bb (h p.1 Ba),Ag2 fun j a=>h j (by simp at a ⊢;exact .inr a)]
theorem Amd {k:κ}{v:β}:∀ {L:List (κ×β)}{i:Nat},(L.map (·.1))[i]?=some k→(∀ j<i,(L.map (·.1))[j]?≠some k)→N4 L k v=L.set i (k,v)
 | [],i,h,_=>by simp at h
 | p::L,0,h,_=>by
  simp at h;simp[N4,h]
 | p::L,i+1,h,hj=>by
  have a:¬p.1=k:=by simpa using hj 0 Aa
  unfold N4;rw[Bb a,List.set_cons_succ,Amd (L:=L) (i:=i) (by simpa using h) (fun j b=>by simpa using hj (j+1) Aa)]
theorem Ab0 {k:κ}{v:β}:∀ {L:List (κ×β)},(∀ j∈L.map (·.1),j≠k)→N4 L k v=L++[(k,v)]
 | [],_=>rfl
 | p::L,h=>by
  unfold N4;rw[Bb (h p.1 Ba),Ab0 fun j a=>h j (by simp at a ⊢;exact .inr a)];rfl
def Akh (b:Nat) (ke:κ→Ak) (ve:β→Ak) (a:β) (L:List (κ×β)):Res where
 foot:=fun x=>x=b
 holds:=fun w=>∃ L',(Wn b ke ve L').holds w∧∀ key,Fp L' key a=Fp L key a
 stable:=fun w w' ⟨L',h,c⟩ d=>⟨L',(Wn b ke ve L').stable w w' h d,c⟩
def Aq3 (b:Nat) (ke:κ→Ak) (ve:β→Ak) (a:β) (L:List (κ×β)) (k:κ) (s:Nat):Res where
 foot:=fun x=>x=b
 holds:=fun w=>∃ es c i,w.heap[b]?=some (.map es c)∧(∃ L',MapOk ke ve es c L'∧∀ key,Fp L' key a=Fp L key a)∧es.findIdx? (fun e=>(e.born:Int)==(s:Int))=some i∧∀ v,MapOk ke ve (es.modify i fun e=>{ e with val:=ve v }) c (N4 L k v)
 stable:=fun w w' ⟨es,c,i,h,d⟩ f=>⟨es,c,i,(f b rfl).trans h,d⟩
end
section
variable {P : Bu} {n : Nat} {σ : Env} {M : Nat → Prop} {w0 : Aj} {H : List Res} {d : Option Tmp} {T U E Kt : TypeId} {pos : String} {after : Array Edge} {gd : Option (Nat × Bool)} {x y z : Eb} {g g' g'' : Bool} {v : Ak}
 {K:Act→Aj→Prop}{Q:Exit→Act→Aj→Prop}{κ β:Type}{ke:κ→Ak}{ve:β→Ak}{L:List (κ×β)}{b:Nat}
def Aqd (P:Bu) (U Kt E:TypeId):Prop:=P.underlying U=some (.map Kt E)
def Akl (P:Bu) (E:TypeId) (v:Ak):Prop:=((P.info? E).map fun i=>i.zero)=some (some v)
theorem Ajb {w:Aj} (h:Akl P E v):(zeroValue E).run P w=.ok v w:=by
 obtain⟨i,hi,a⟩:=Ks.1 h;simp[zeroValue,typeInfo,hi,a]
theorem EV.makeMap {dd:Nat} (f:dd<n) (kk:∀ b,WK n K ((dd,(true,.map (some b)))::σ) (Own M w0 (Wn b ke ve ([]:List (κ×β))::H))):EV P n ⟨some dd,.makeMap U none,T,pos,after,gd⟩ σ (Own M w0 H) K Q:=fun a w c i=>by
 refine .inl ?_
 have h:(execOp a.eval ⟨some dd,.makeMap U none,T,pos,after,gd⟩).run P w=.ok (.value (.map (some w.heap.size))) (w.alloc (.map #[] 0)):=by
  simp[execOp,Instr.makeMap,newObj,I2,Qz]
 unfold H3;rw[h];show K (a.put (some dd) _) _;refine kk w.heap.size _ _ (c.put f true _) (i.push (w':=w.alloc (.map #[] 0)) ?_ (Wn w.heap.size ke ve []) ⟨#[],0,Acq w _,MapOk.nil⟩ ?_)
 ·exact Ap2 _
 ·intro b e
  cases e
  simp
def Ang:=@EV.makeMap
variable [DecidableEq κ]
theorem Ahp {w:Aj}{k:κ}{a:β}{ok:Bool} (q:Aqd P U Kt E) (l:KeyT P Kt ke) (N:Akl P E (ve a)) (h:(Wn b ke ve L).holds w):(Instr.lookup U (.map (some b)) (ke k) ok).run P w=.ok (if ok then .tuple #[ve (Fp L k a),.bool (Awv L k)] else ve (Fp L k a)) w:=by
 obtain⟨es,c,G,o⟩:=h;obtain⟨r,j,F⟩:=l.find k w es.toList (L.map (·.1)) o.keys
 have u:(getObj b).run P w=.ok (.map es c) w:=by simp[getObj,I2,G]
 have s:=l.check k w es.isEmpty;unfold Instr.lookup;rcases F with ⟨rfl,A⟩ | ⟨i,e,rfl,t,J,I⟩
 ·have C:Fp L k a=a:=Ag2 A
  have f:Awv L k=Ay:=by
   unfold Awv;rw[List.any_eq_false];intro p K;simpa using A p.1 (Agb K)
  simp[Ev q,u,s,j,Ajb N,C,f]
 ·obtain⟨p,B,O,Q⟩:=Ae4 (d:=a) J I
  obtain⟨m,R,_⟩:=o.ent i p B
  have:e.val=ve p.2:=by rw[Ad0,R] at t;cases t;rfl
  have f:Awv L k=true:=by
   unfold Awv;rw[List.any_eq_true];exact⟨p,Wz B,by simpa using O⟩
  simp[Ev q,u,s,j,Q,this,f]
theorem QV.lookup {k:κ} (j:Nat) (c:β) (h:Aqd P U Kt E) (f:KeyT P Kt ke) (r:Akl P E (ve c)) (p:σ.ev x=some (g,.map (some b))) (i:g=true) (q:σ.ev y=some (g',ke k)) (l:g'=true) (m:H[j]?=some (Wn b ke ve L)) :
  QV P ⟨d,.lookup U x y Ay,T,pos,after,gd⟩ σ (Own M w0 H) (ve (Fp L k c)):=.of_run fun n a e w o=>by
 have:=Ahp (k:=k) (ok:=Ay) h f r (o.at j m);simp only[execOp,e.ev p i,e.ev q l,Tq,this,Ts,Tg];rfl
theorem Xo {w:Aj}{o:Obj}{c:Res}{j:Nat}{r:Res} (q:Own M w0 H w) (k:H[j]?=some r) (h:∀ x,r.foot x↔x=b) (i:∀ x,c.foot x↔x=b) {s:Obj} (f:w.heap[b]?=some s) (p:c.holds { w with heap:=w.heap.setIfInBounds b o }) :
  Own M w0 (H.set j c) { w with heap:=w.heap.setIfInBounds b o }:=by
 have l:b<w.heap.size:=(Q5.1 f).1;refine q.upd j k rfl rfl ⟨rfl,Cf _⟩ Ba (fun x a m=>?_) p fun x a=>?_
 ·exact(heap_set f).2 x fun e=>m ((h x).2 e)
 ·exact⟨.inl ((h x).2 ((i x).1 a)),by rw[(i x).1 a];simpa using l⟩
theorem EV.mapEntry {dd:Nat} (a0:dd<n) (k:κ) (j:Nat) (f:β) (N:Aqd P U Kt E) (u:KeyT P Kt ke) (a9:Akl P E (ve f)) (a1:σ.ev x=some (g,.map (some b))) (S:g=true) (a2:σ.ev y=some (g',ke k)) (V:g'=true) (B:H[j]?=some (Wn b ke ve L))
  (kk:∀ s:Nat,WK n K ((dd,(true,.tuple #[ve (Fp L k f),.int .i64 s]))::σ) (Own M w0 (H.set j (Aq3 b ke ve f L k s)))):EV P n ⟨some dd,.mapEntry U x y,T,pos,after,gd⟩ σ (Own M w0 H) K Q:=fun a w o G=>by
 refine .inl ?_;obtain⟨es,c,l,h⟩:=G.at j B;obtain⟨r,J,a4⟩:=u.find k w es.toList (L.map (·.1)) h.keys
 have W:(getObj b).run P w=.ok (.map es c) w:=by simp[getObj,I2,l]
 have O:=u.check k w Ay;rcases a4 with ⟨rfl,C⟩ | ⟨i,e,rfl,R,Y,X⟩
 ·have I:Fp L k f=f:=Ag2 C
  have F:(execOp a.eval ⟨some dd,.mapEntry U x y,T,pos,after,gd⟩).run P w=.ok (.value (.tuple #[ve (Fp L k f),.int .i64 c])) { w with heap:=w.heap.setIfInBounds b (.map (es.push { key:=ke k,val:=ve f,born:=c }) (c+1)) }:=by
   simp[execOp,Instr.mapEntry,o.ev a1 S,o.ev a2 V,Ev N,W,O,J,Ajb a9,run_setObj_map _ l,I,goInt,Qz]
  unfold H3;rw[F];show K (a.put (some dd) _) _;have A:=h.push k f;refine kk c _ _ (o.put a0 true _) (Xo G B (fun _=>N7) (fun _=>N7) l ⟨_,_,es.size,(heap_set l).1,⟨_,A,fun key=>?_⟩,?_,fun v=>?_⟩)
  ·rw[←Ab0 (v:=f) C,Ol]
   split
   ·rename_i e;subst e;exact I.symm
   ·rfl
  ·exact A.find (e:={ key:=ke k,val:=ve f,born:=c }) Ba
  ·have:=A.setVal (i:=es.size) (k:=k) (v:=v) ⟨(k,f),by rw[h.size];simp,rfl⟩
   rw[Ab0 C];rw[h.size] at this ⊢;simpa using this
 ·obtain⟨p,a3,b0,b1⟩:=Ae4 (d:=f) Y X
  obtain⟨m,t,b2⟩:=h.ent i p a3
  have a5:e=⟨ke p.1,ve p.2,m⟩:=by rw[Ad0,t] at R;cases R;rfl
  subst a5;subst b0
  have a8:(Ak2 (ke p.1) (ke p.1)).run P w=.ok (ke p.1) w:=by simp[Ak2,u.same]
  have a6:(es.modify i fun e=>{ e with key:=ke p.1 })=es:=by
   apply Ak3;intro q;rw[Ad1];split
   ·rename_i a7;subst a7;rw[t];rfl
   ·rfl
  have F:(execOp a.eval ⟨some dd,.mapEntry U x y,T,pos,after,gd⟩).run P w=.ok (.value (.tuple #[ve (Fp L p.1 f),.int .i64 m])) { w with heap:=w.heap.setIfInBounds b (.map es c) }:=by
   simp[execOp,Instr.mapEntry,o.ev a1 S,o.ev a2 V,Ev N,W,O,J,t,a8,a6,run_setObj_map _ l,b1,goInt,Qz]
  unfold H3;rw[F];show K (a.put (some dd) _) _;refine kk m _ _ (o.put a0 true _) (Xo G B (fun _=>N7) (fun _=>N7) l ⟨_,_,i,(heap_set l).1,⟨_,h,fun _=>rfl⟩,h.find t,fun v=>?_⟩);rw[Amd Y X];exact h.setVal ⟨p,a3,rfl⟩
theorem EV.entryStore (k:κ) (j:Nat) (u:β) (s:Nat) (F:σ.ev x=some (g,.map (some b))) (r:g=true) (G:σ.ev y=some (g',.int .i64 s)) (t:g'=true) (I:σ.ev z=some (g'',ve u)) (A:g''=true) {o:β} (l:H[j]?=some (Aq3 b ke ve o L k s))
  (kk:WK n K σ (Own M w0 (H.set j (Wn b ke ve (N4 L k u))))):EV P n ⟨none,.entryStore U x y z,T,pos,after,gd⟩ σ (Own M w0 H) K Q:=fun a w f m=>by
 refine .inl ?_;obtain⟨es,c,i,h,_,q,p⟩:=m.at j l
 have B:(getObj b).run P w=.ok (.map es c) w:=by simp[getObj,I2,h]
 have C:(execOp a.eval ⟨none,.entryStore U x y z,T,pos,after,gd⟩).run P w=.ok .skip { w with heap:=w.heap.setIfInBounds b (.map (es.modify i fun e=>{ e with val:=ve u }) c) }:=by
  simp[execOp,Instr.entryStore,f.ev F r,f.ev G t,f.ev I A,B,q,asInt,asIntOf,run_setObj_map _ h,Qz]
 unfold H3;rw[C];show K (a.put none undef) _;exact kk a _ f (Xo m l (fun _=>N7) (fun _=>N7) h ⟨_,_,(heap_set h).1,p u⟩)
theorem EV.mapUpdate (k:κ) (j:Nat) (u:β) (F:Aqd P U Kt E) (o:KeyT P Kt ke) (W:σ.ev x=some (g,.map (some b))) (J:g=true) (X:σ.ev y=some (g',ke k)) (N:g'=true) (Y:σ.ev z=some (g'',ve u)) (O:g''=true) (s:H[j]?=some (Wn b ke ve L))
  (kk:WK n K σ (Own M w0 (H.set j (Wn b ke ve (N4 L k u))))):EV P n ⟨none,.mapUpdate U x y z,T,pos,after,gd⟩ σ (Own M w0 H) K Q:=fun a w f A=>by
 refine .inl ?_;obtain⟨es,c,h,l⟩:=A.at j s;obtain⟨r,C,a1⟩:=o.find k w es.toList (L.map (·.1)) l.keys
 have R:(getObj b).run P w=.ok (.map es c) w:=by simp[getObj,I2,h]
 have G:=o.check k w Ay;rcases a1 with ⟨rfl,a4⟩ | ⟨i,e,rfl,I,V,S⟩
 ·have t:(execOp a.eval ⟨none,.mapUpdate U x y z,T,pos,after,gd⟩).run P w=.ok .skip { w with heap:=w.heap.setIfInBounds b (.map (es.push { key:=ke k,val:=ve u,born:=c }) (c+1)) }:=by
   simp[execOp,Instr.mapUpdate,f.ev W J,f.ev X N,f.ev Y O,Ev F,R,G,C,run_setObj_map _ h,Qz]
  unfold H3;rw[t];show K (a.put none undef) _;refine kk a _ f (Xo A s (fun _=>N7) (fun _=>N7) h ⟨_,_,(heap_set h).1,?_⟩);rw[Ab0 a4];exact l.push k u
 ·obtain⟨p,a0,a7,a8⟩:=Ae4 (d:=u) V S
  obtain⟨m,B,a9⟩:=l.ent i p a0
  have a2:e=⟨ke p.1,ve p.2,m⟩:=by rw[Ad0,B] at I;cases I;rfl
  subst a2;subst a7
  have a6:(Ak2 (ke p.1) (ke p.1)).run P w=.ok (ke p.1) w:=by simp[Ak2,o.same]
  have a3:(es.modify i fun e=>{ e with key:=ke p.1,val:=ve u })=(es.modify i fun e=>{ e with val:=ve u }):=by
   apply Ak3;intro q;rw[Ad1,Ad1];split
   ·rename_i a5;subst a5;rw[B];rfl
   ·rfl
  have t:(execOp a.eval ⟨none,.mapUpdate U x y z,T,pos,after,gd⟩).run P w=.ok .skip { w with heap:=w.heap.setIfInBounds b (.map (es.modify i fun e=>{ e with val:=ve u }) c) }:=by
   simp[execOp,Instr.mapUpdate,f.ev W J,f.ev X N,f.ev Y O,Ev F,R,G,C,B,a6,a3,run_setObj_map _ h,Qz]
  unfold H3;rw[t];show K (a.put none undef) _;refine kk a _ f (Xo A s (fun _=>N7) (fun _=>N7) h ⟨_,_,(heap_set h).1,?_⟩);rw[Amd V S];exact l.setVal ⟨p,a0,rfl⟩
theorem Own.weak {r c:Res}{w:Aj} (k:Nat) (a:H[k]?=some r) (i:r.holds w→c.holds w) (f:∀ x,c.foot x→r.foot x) (h:Own M w0 H w):Own M w0 (H.set k c) w :=
 h.upd k a rfl rfl ⟨rfl,Cf _⟩ (Cf _) (fun _ _ _=>rfl) (i (h.at k a)) fun b e=>⟨.inl (f b e),(h.2.lt r (Wz a) b (f b e)).2⟩
theorem Yb {w:Aj} (k:Nat) (a:β) (c:H[k]?=some (Wn b ke ve L)) (h:Own M w0 H w):Own M w0 (H.set k (Akh b ke ve a L)) w :=
 h.weak k c (fun x=>⟨L,x,fun _=>rfl⟩) fun _ x=>x
theorem Ya {w:Aj} (k:Nat) {a:β}{key:κ}{s:Nat} (l:H[k]?=some (Aq3 b ke ve a L key s)) (h:Own M w0 H w):Own M w0 (H.set k (Akh b ke ve a L)) w :=
 h.weak k l (fun ⟨es,c,i,e,⟨L',f,j⟩,_⟩=>⟨L',⟨es,c,e,f⟩,j⟩) fun _ x=>x
theorem Aap {k:κ} (j:Nat) (c:β) (l:Aqd P U Kt E) (i:KeyT P Kt ke) (t:Akl P E (ve c)) (r:σ.ev x=some (g,.map (some b))) (m:g=true) (s:σ.ev y=some (g',ke k)) (o:g'=true) (p:H[j]?=some (Akh b ke ve c L)) :
  QV P ⟨d,.lookup U x y Ay,T,pos,after,gd⟩ σ (Own M w0 H) (ve (Fp L k c)):=.of_run fun n a e w q=>by
 obtain⟨L',f,h⟩:=q.at j p;have:=Ahp (k:=k) (ok:=Ay) l i t f;rw[h] at this;simp only[execOp,e.ev r m,e.ev s o,Tq,this,Ts,Tg];rfl
end
end Go.Rd
end
section
namespace Go.Rd
open Go.RowKit
theorem Ou:∀ (vs a c:List Ak) (off:Nat),off+vs.length≤a.length→Nh (a++c) off vs=Nh a off vs++c
 | [],a,c,off,_=>rfl
 | v::vs,a,c,off,h=>by
  simp only[Dx] at h;unfold Nh;rw[List.set_append_left _ _ Aa,Ou vs (a.set off v) c (off+1) (by simp;omega)]
theorem Vr:∀ (vs a c:List Ak) (off:Nat),Nh (a++c) (a.length+off) vs=a++Nh c off vs
 | [],a,c,off=>rfl
 | v::vs,a,c,off=>by
  unfold Nh;rw[List.set_append_right _ _ Aa,Nat.add_sub_cancel_left,Nat.add_assoc,Vr vs a (c.set off v) (off+1)]
theorem V2 {sz:Nat}{vs:List Ak}{off:Nat} (b:off+vs.length≤sz):∀ {rows:List (List Ak)}{i:Nat},(∀ r∈rows,r.length=sz)→i<rows.length→Nh rows.flatten (i * sz+off) vs=(rows.set i (Nh (rows.getD i []) off vs)).flatten
 | [],i,_,h=>by simp at h
 | r::rows,0,hr,_=>by
  have:=hr r Ba;simp[Ou vs r rows.flatten off Aa]
 | r::rows,i+1,hr,h=>by
  have a:=hr r Ba;have d:=V2 (vs:=vs) (off:=off) b (rows:=rows) (i:=i) (fun q c=>hr q (by simp[c])) (by simpa using h);rw[Aa2,show (i+1) * sz+off=r.length+(i * sz+off) from by rw[a,W6];omega,Vr,d];simp
theorem Aca {α:Type} [Inhabited α] {enc:α→List Ak}{xs:List α}{i:Nat}{z:α}{off:Nat}{vs:List Ak} (hi:i<xs.length) (a:enc z=Nh (enc (xs.getD i default)) off vs):(xs.map enc).set i (Nh ((xs.map enc).getD i []) off vs)=(xs.set i z).map enc:=by
 have:(xs.map enc).getD i []=enc (xs.getD i default):=by simp[Dy,E3 hi]
 rw[this,←a,List.map_set]
section
variable {P : Bu} {n : Nat} {σ : Env} {M : Nat → Prop} {w0 : Aj} {H : List Res} {d : Option Tmp} {T U E S T2 : TypeId} {pos : String} {after : Array Edge} {gd : Option (Nat × Bool)} {x y z : Eb} {g g' g'' : Bool} {v yv : Ak}
 {K:Act→Aj→Prop}{Q:Exit→Act→Aj→Prop}
theorem Awp {α:Type} [Inhabited α] {enc:α→List Ak}{sz:Nat} (k:Nat) (u:α) {xs:List α}{i:Int}{p q:Addr}{off:Nat}{vs:List Ak} (c1:σ.ev x=some (g,.pointer (some q))) (a2:g=true) (c2:σ.ev y=some (g',yv)) (a3:g'=true)
  (J:H[k]?=some (vec v E sz (xs.map enc))) (N:Li v i sz p) (hi:IX i (ln xs)) (b2:q=p.add off) (b9:yv.cells=vs.toArray) (hs:Dg P T vs.length) (a6:off+vs.length≤sz) (b1:∀ u∈vs,u.oneCell'=true) (F:enc u=Nh (enc (ele xs i)) off vs)
  (kk:WK n K σ (Own M w0 (H.set k (vec v E sz ((upd xs i u).map enc))))):EV P n ⟨none,.store T x y,U,pos,after,gd⟩ σ (Own M w0 H) K Q:=fun a w o R=>by
 refine .inl ?_;have c0:=R.at k J;obtain⟨⟨X,Y⟩,h⟩:=c0;rcases Y with ⟨rfl,_⟩ | ⟨b,cap,f,rfl,a0,I,L,a1,C,b8⟩
 ·obtain⟨a,n,V,j,_⟩:=N;simp at j
 obtain⟨c9,d7,V,j,d0,d3,rfl⟩:=N;simp only[I3,Gf] at j;obtain⟨rfl,d4,rfl⟩:=j
 have m:i.toNat<xs.length:=by have:=hi.2;unfold ln at this;omega
 have A:(xs.map enc).length=xs.length:=Ge _
 have b3:q=⟨b,i.toNat * sz+off,none⟩:=by rw[b2,My,Sr];simp
 subst b3
 have d2:f.toList.length=cap * sz:=by simpa using C
 have a7:(i.toNat+1) * sz≤cap * sz:=Zd _ (by rw[A] at L;omega);rw[W6] at a7;obtain⟨w',c3,c4,c5,d9,c6,c7,c8⟩:=Gj (P:=P) vs ⟨b,i.toNat * sz+off,none⟩ 0 (i.toNat * sz+off) f.toList w (by simpa using I) (by simp[Lw]) Aa b1;obtain⟨d5,a5,b7⟩:=Ks.1 hs
 have b5:(execOp a.eval ⟨none,.store T x y,U,pos,after,gd⟩).run P w=.ok .skip w':=by
  simp[execOp,o.ev c1 a2,o.ev c2 a3,Instr.storeAt,Qt,storeVar,b9,sizeOf,typeInfo,a5,b7,c3]
 unfold H3;rw[b5];show K (a.put none undef) w';have d1:b<w.heap.size:=(Q5.1 I).1;have t:=C9 h
 have O:((upd xs i u).map enc).flatten=Nh (xs.map enc).flatten (i.toNat * sz+off) vs:=by
  rw[V2 a6 h (by rw[A];exact m),Aca m F];rfl
 have l:((upd xs i u).map enc).length=(xs.map enc).length:=by simp[upd]
 have a4:(vec (.slice (some ⟨b,0,none⟩) (xs.map enc).length cap) E sz ((upd xs i u).map enc)).holds w':=by
  refine⟨⟨by rw[O,Ga,l];exact X,.inr ⟨b,cap,(Nh f.toList (i.toNat * sz+off) vs).toArray,by rw[l],a0,c4,by rw[l];exact L,a1,by simp[Ga,C],?_⟩⟩,fun r b4=>?_⟩
  ·rw[O]
   have W:f.toList=(xs.map enc).flatten++f.toList.drop ((xs.map enc).length * sz):=by
    conv=>lhs;rw[←Ld ((xs.map enc).length * sz) f.toList]
    rw[b8]
   have a9:(i.toNat+1) * sz≤(xs.map enc).length * sz:=Zd _ (by rw[A];omega);rw[W6] at a9;rw[W,Ou vs _ _ _ (by rw[t];omega),l,Aqx (by rw[Ga,t];exact Cf _),Wf (by rw[Ga,t];exact Cf _)]
  ·obtain⟨s,b6,rfl⟩:=Iv.1 b4
   rcases Agf b6 with a8 | rfl
   ·exact h _ (Agb a8)
   ·rw[F,Ga]
    have:=h (enc (ele xs i)) (Agb (by unfold ele;rw[Dy,E3 m];exact Uz m));exact this
 refine kk a w' o (R.upd k J c6 c7 c8 Aa (fun c B b0=>c5 c fun e=>b0 (by subst e;exact⟨_,_,rfl⟩)) a4 fun c B=>?_);obtain⟨d8,d6,G⟩:=B;simp only[I3,Gf,O1] at G;obtain⟨⟨rfl,_⟩,_⟩:=G;exact⟨.inl ⟨_,_,rfl⟩,Aa⟩
theorem A3e {f:Array TypeId}{k:IntKind}{i j m:Int} (p:σ.ev x=some (g,.int k i)) (h:g=true) (q:σ.ev y=some (g',.int k j)) (l:g'=true) (r:σ.ev z=some (g'',.int k m)) (o:g''=true) {C:Aj→Prop} :
  QV P ⟨d,.call ⟨.builtin .max,#[x,y,z],f⟩,T,pos,after,gd⟩ σ C (.int k (max (max i j) m)):=.of_run fun n s c w t=>by
 have e:∀ a b:Int,(if b>a then b else a)=max a b:=fun a b=>by split <;> omega
 simp[execOp,resolve,invoke,builtin,c.ev p h,c.ev q l,c.ev r o,Builtin.max_,Builtin.max2,List.foldlM,e,Int.max_assoc]
theorem N1 {fn:Func}{R:Ending→Aj→Prop}{C:Aj→Prop}{t u s:Nat}{v1 v2 v3:Ak} (j:fn.results=#[.tmp t,.tmp u,.tmp s]) (e:σ.look t=some (true,v1)) (f:σ.look u=some (true,v2)) (i:σ.look s=some (true,v3)) (h:∀ w,C w→R (.returned (.tuple #[v1,v2,v3])) w) :
  WK n (bodyPost P fn R .ret) σ C:=fun a w b k=>by
 refine⟨b.defers,_,?_,h w k⟩;have c:=b.look t true v1 e;have a2:=b.look u true v2 f;have a3:=b.look s true v3 i;simp at c a2 a3;simp[results,j,c,a2,a3]
theorem J7 {fn:Func}{R:Ending→Aj→Prop}{C:Aj→Prop}{ty:TypeId}{p u s sz:Nat}{q:Addr}{cs:List Ak}{v2 v3:Ak} (o:fn.results=#[.cell p ty,.tmp u,.tmp s]) (j:Rs P ty sz) (l:cs.length=sz) (m:σ.look p=some (true,.pointer (some q)))
  (f:σ.look u=some (true,v2)) (i:σ.look s=some (true,v3)) (k:∀ w,C w→CellsAt w q cs 0) (h:∀ w,C w→R (.returned (.tuple #[.agg cs.toArray,v2,v3])) w):WK n (bodyPost P fn R .ret) σ C:=fun a w b e=>by
 refine⟨b.defers,_,?_,h w e⟩;have c:=b.look p true _ m;have a2:=b.look u true v2 f;have a3:=b.look s true v3 i;simp at c a2 a3;have:=Jo (P:=P) j l (k w e);simp[results,o,c,asAddr,this,a2,a3]
def Aq0 (b off m:Nat):List Ak:=(List.range m).map fun j=>.pointer (some ⟨b,off+j,none⟩)
theorem Aio {b m off:Nat}{k:IntKind}{i:Int}{C:Aj→Prop} (o:P.underlying U=some (.array m E)) (l:No P E) (hs:Dg P E 1) (A:σ.ev x=some (g,.agg (Aq0 b off m).toArray)) (p:g=true) (B:σ.ev y=some (g',.int k i)) (q:g'=true) (hi:IX i m) :
  QV P ⟨d,.index U x y,T,pos,after,gd⟩ σ C (.pointer (some (((⟨b,0,none⟩:Addr).add off).add (i.toNat * 1)))):=.of_run fun n a c w F=>by
 obtain⟨G,s,u⟩:=Ks.1 hs;have f:=hi.1;have h:=hi.2;have t:i.toNat<m:=Aa;have j:=Qy l w
 have e:(((⟨b,0,none⟩:Addr).add off).add (i.toNat * 1))=⟨b,off+i.toNat,none⟩:=by rw[Nat.mul_one,Sr,Sr,Sq]
 have r:(Aq0 b off m)[i.toNat]?=some (.pointer (some ⟨b,off+i.toNat,none⟩)):=by simp[Aq0,t]
 rw[e];simp[execOp,c.ev A p,c.ev B q,Instr.index,asIntOf,Ev o,f,h,sizeOf,typeInfo,s,u,part,j,r]
theorem Akb {xs:List Int}{m:Nat}{k:IntKind}{i:Int}{C:Aj→Prop} (l:P.underlying U=some (.array m E)) (j:No P E) (hs:Dg P E 1) (u:σ.ev x=some (g,.agg (xs.map Dz).toArray)) (o:g=true) (A:σ.ev y=some (g',.int k i)) (p:g'=true) (B:xs.length=m) (hi:IX i m) :
  QV P ⟨d,.index U x y,T,pos,after,gd⟩ σ C (.int .i64 (ele xs i)):=.of_run fun n a b w F=>by
 obtain⟨G,s,t⟩:=Ks.1 hs;have e:=hi.1;have f:=hi.2;have c:i.toNat<xs.length:=Aa;have h:=Qy j w
 have q:(xs.map Dz)[i.toNat]?=some (.int .i64 (ele xs i)):=by
  rw[Aa1,E3 c];simp[ele,Dy,E3 c,Dz]
 have r:(List.map Dz xs).toArray[i.toNat]?=some (.int .i64 (ele xs i)):=by simpa using q
 simp[execOp,b.ev u o,b.ev A p,Instr.index,asIntOf,Ev l,e,f,sizeOf,typeInfo,s,t,part,h,-List.map_toArray,-List.getElem?_toArray,r]
end
end Go.Rd
end
section
namespace Go.Rd
open Go.RowKit
theorem Al4 {α:Type}{xs:List α}{i j:Int} (h:SX i j (ln xs)):(sub xs i j).length=(j - i).toNat:=by
 obtain⟨a,b,c⟩:=h;unfold sub ln at *;rw[Kb,M5];omega
theorem Uc {α:Type}{xs:List α}{v:Ak}{sz:Nat}{i j:Int} (b:SliceLen v xs.length) (h:SX i j (ln xs)):SliceLen (Ng v sz i.toNat j.toNat) (sub xs i j).length:=by
 rw[Al4 h];obtain⟨c,d,a⟩:=h;unfold ln at a;have:=Aoc (sz:=sz) b (l:=i.toNat) (h:=j.toNat) Aa Aa;rwa [show (j - i).toNat=j.toNat - i.toNat from Aa]
section
variable {P : Bu} {n : Nat} {σ : Env} {M : Nat → Prop} {w0 : Aj} {H : List Res} {d : Option Tmp} {T U E : TypeId} {pos : String} {after : Array Edge} {gd : Option (Nat × Bool)} {x y : Eb} {g g' : Bool} {v : Ak}
 {K:Act→Aj→Prop}{Q:Exit→Act→Aj→Prop}
theorem Arb {α:Type}{enc:α→List Ak}{z:α}{sz m:Nat} (a:(enc z).length=sz) (l:0<sz):(Builtin.zeroCells (enc z).toArray m).toList=((List.replicate m z).map enc).flatten:=by
 apply Wx;intro j
 have c:∀ r∈(List.replicate m z).map enc,r.length=sz:=by intro r t;obtain⟨u,h,rfl⟩:=Iv.1 t;rw[Acv] at h;rw[h.2,a]
 have p:((List.replicate m z).map enc).flatten.length=m * sz:=by rw[C9 c];simp
 have hs:(enc z).toArray.size=sz:=by simpa using a
 by_cases b:j<m * sz
 ·have s:j / sz<m:=Ak4 (by rwa [Qu] at b)
  have o:=Ji (sz:=sz) (rows:=(List.replicate m z).map enc) (i:=j / sz) (r:=enc z) c (by simp[s]);have f:j % sz<sz:=Nat.mod_lt _ l
  have k:((List.replicate m z).map enc).flatten[j]?=(enc z)[j % sz]?:=by
   have:(enc z)[j % sz]?=((((List.replicate m z).map enc).flatten.drop (j / sz * sz)).take (enc z).length)[j % sz]?:=by rw[o]
   rw[this,Rv,a,Bg f,Xb,Qu,Af1]
  rw[k]
  have q:j % sz<(enc z).length:=by rw[a];exact f
  simp[Builtin.zeroCells,b,a,E3 q]
 ·have e:=Z2 b
  rw[Qi (by rw[Z6,size_zeroCells,hs];exact e),Qi (by rw[p];exact e)]
def clr {α:Type} (xs:List α) (i:Int) (z:α):List α:=xs.take i.toNat++List.replicate (xs.length - i.toNat) z
theorem Mn (p:Addr):p=p.add 0:=(by cases p;simp[Lw])
theorem Amq {α:Type}{xs:List α}{i:Int}{z:α} (h:i≤ln xs):(clr xs i z).length=xs.length:=by
 unfold clr ln at *;rw[B2,Kb,Acy];omega
theorem Agx:∀ (vs a:List Ak) (off:Nat),off+vs.length=a.length→Nh a off vs=a.take off++vs
 | [],a,off,h=>by simp only[Ew,Nat.add_zero] at h;subst h;simp[Nh]
 | v::vs,a,off,h=>by
  simp only[Dx] at h;unfold Nh;rw[Agx vs (a.set off v) (off+1) (by simp;omega)]
  have:(a.set off v).take (off+1)=a.take off++[v]:=by
   rw[Af8,List.take_set_of_le (Cf _),Ala Aa];rfl
  rw[this,Gw];rfl
theorem Acd {sz:Nat}:∀ {rows:List (List Ak)} (i:Nat),(∀ r∈rows,r.length=sz)→(rows.take i).flatten=rows.flatten.take (i * sz)
 | [],i,_=>Ba
 | r::rows,0,_=>Ba
 | r::rows,i+1,h=>by
  have a:=h r Ba;rw[List.take_succ_cons,Aa2,Aa2,Acd i (fun q b=>h q (by simp[b])),show (i+1) * sz=r.length+i * sz from by rw[a,W6];omega,List.take_length_add_append]
theorem EV.clear {α:Type}{enc:α→List Ak}{sz:Nat} (k:Nat) (z:α) {xs:List α}{lo hi:Int} (b6:I1 P U E sz) (c5:ZeroT P E (enc z)) (a6:∀ u,(enc u).length=sz) (b3:0<sz) (b4:∀ c∈enc z,c.oneCell'=true)
  (V:σ.ev x=some (g,Ng v sz lo.toNat hi.toNat)) (L:g=true) (f:H[k]?=some (vec v E sz (xs.map enc))) (b5:SX lo hi (ln xs)) (C:hi=ln xs) {dd:Nat} (I:d=some dd∧dd<n∨d=none)
  (kk:WK n K σ (Own M w0 (H.set k (vec v E sz ((clr xs lo z).map enc))))) (c7:∀ dd,d=some dd→WK n K ((dd,(true,.tuple #[]))::σ) (Own M w0 (H.set k (vec v E sz ((clr xs lo z).map enc))))) :
  EV P n ⟨d,.call ⟨.builtin .clear,#[x],#[U]⟩,T,pos,after,gd⟩ σ (Own M w0 H) K Q:=fun a w l F=>by
 refine .inl ?_;obtain⟨e6,d5,b1⟩:=b5;subst C;obtain⟨⟨c8,c9⟩,Y⟩:=F.at k f;obtain⟨G,d9⟩:=b6;obtain⟨e2,d7,d6,z2,z3⟩:=c5.out;have s:(xs.map enc).length=xs.length:=Ge _
 have a4:(ln xs).toNat=xs.length:=by unfold ln;omega
 have J:∀ w',(vec v E sz ((clr xs lo z).map enc)).holds w'→Own M w0 (H.set k (vec v E sz ((clr xs lo z).map enc))) w'→K (a.put d (.tuple #[])) w':=fun w' _ a8=>by
  cases d with
  | none=>exact kk a w' l a8
  | some d8 =>
   rcases I with ⟨b9,c0⟩ | I
   ·cases b9;exact c7 _ rfl _ w' (l.put c0 true _) a8
   ·cases I
 rcases c9 with ⟨rfl,O⟩ | ⟨b,cap,i,rfl,b7,C,R,b8,a1,c3⟩
 ·have c4:xs=[]:=Zg.1 (by rw[←s];exact O)
  subst c4
  have O:lo=0:=by unfold ln at b1;simp at b1;omega
  subst O
  have t:(execOp a.eval ⟨d,.call ⟨.builtin .clear,#[x],#[U]⟩,T,pos,after,gd⟩).run P w=.ok (.value (.tuple #[])) w:=by
   simp[execOp,resolve,invoke,builtin,l.ev V L,Builtin.clear_,Ev G,Ng,ln,Qz]
  unfold H3;rw[t];have e:clr ([]:List α) 0 z=[]:=rfl
  have es:H.set k (vec (.slice none 0 0) E sz (([]:List α).map enc))=H:=by
   apply Wx;intro j;rw[Z3];split
   ·rename_i N;subst N
    split
    ·exact f.symm
    ·rw[Qi Aa] at f;cases f
   ·rfl
  have p:Own M w0 (H.set k (vec (.slice none 0 0) E sz ((clr ([]:List α) 0 z).map enc))) w:=by rw[e,es];exact F
  exact J w (p.at k (by rw[Ala (Aa6.1 f).1])) p
 ·by_cases a7:xs.length - lo.toNat=0
  ·have e:clr xs lo z=xs:=by unfold clr;rw[a7,List.replicate_zero,Nl,Wf Aa]
   have es:H.set k (vec (.slice (some ⟨b,0,none⟩) (xs.map enc).length cap) E sz (xs.map enc))=H:=by
    apply Wx;intro j;rw[Z3];split
    ·rename_i N;subst N
     split
     ·exact f.symm
     ·rw[Qi Aa] at f;cases f
    ·rfl
   have t:(execOp a.eval ⟨d,.call ⟨.builtin .clear,#[x],#[U]⟩,T,pos,after,gd⟩).run P w=.ok (.value (.tuple #[])) w:=by
    have ex:=l.ev V L;simp only[Ng,a4,a7] at ex;split at ex <;> simp[execOp,resolve,invoke,builtin,ex,Builtin.clear_,Ev G,Qz]
   unfold H3;rw[t]
   have p:Own M w0 (H.set k (vec (.slice (some ⟨b,0,none⟩) (xs.map enc).length cap) E sz ((clr xs lo z).map enc))) w:=by rw[e,es];exact F
   exact J w (p.at k (by rw[Ala (Aa6.1 f).1])) p
  ·have S:¬cap=lo.toNat:=by rw[s] at R;omega
   have b0:(enc z).length=sz:=a6 z;have W:=Arb (enc:=enc) (z:=z) (m:=xs.length - lo.toNat) b0 b3;have B:=C9 (sz:=sz) (rows:=(List.replicate (xs.length - lo.toNat) z).map enc) (by intro r q;obtain⟨u,h,rfl⟩:=Iv.1 q;rw[Acv] at h;rw[h.2,b0]);rw[Ge,Acy] at B
   have e1:i.toList.length=cap * sz:=by simpa using a1
   have c2:(lo.toNat+(xs.length - lo.toNat)) * sz≤cap * sz:=Zd _ (by rw[s] at R;omega);rw[Qs] at c2
   obtain⟨w',X,d0,d1,e5,d2,d3,d4⟩:=Gj (P:=P) ((List.replicate (xs.length - lo.toNat) z).map enc).flatten ⟨b,lo.toNat * sz,none⟩ 0 (lo.toNat * sz) i.toList w (by simpa using C) (by simp[Lw]) (by rw[B];omega)
    (fun u h=>by obtain⟨r,q,h⟩:=List.mem_flatten.1 h;obtain⟨v,a9,rfl⟩:=Iv.1 q;rw[Acv] at a9;rw[a9.2] at h;exact b4 u h)
   have t:(execOp a.eval ⟨d,.call ⟨.builtin .clear,#[x],#[U]⟩,T,pos,after,gd⟩).run P w=.ok (.value (.tuple #[])) w':=by
    have ex:=l.ev V L;simp only[Ng,a4,Bb S,Aku,Sr,Sq] at ex;obtain⟨m',c1⟩:∃ m',xs.length - lo.toNat=m'+1:=⟨xs.length - lo.toNat - 1,Aa⟩;rw[c1] at ex W X;rw[List.map_replicate] at W X
    have c6:(zeroValue E).run P w=.ok d7 w:=by simp[zeroValue,typeInfo,d6,z2]
    simp[execOp,resolve,invoke,builtin,ex,Builtin.clear_,Ev G,Qz,c6,z3,W,X]
   unfold H3;rw[t];have e0:b<w.heap.size:=(Q5.1 C).1
   have A:((clr xs lo z).map enc).length=(xs.map enc).length:=by rw[Ge,Ge,Amq d5]
   have a3:((clr xs lo z).map enc).flatten=Nh (xs.map enc).flatten (lo.toNat * sz) ((List.replicate (xs.length - lo.toNat) z).map enc).flatten:=by
    have o:=C9 Y;rw[Agx _ _ _ (by rw[B,o,s,←Qs];congr 1;omega),←Acd _ Y];unfold clr;rw[Qh,Xd,Afx]
   have a5:(vec (.slice (some ⟨b,0,none⟩) (xs.map enc).length cap) E sz ((clr xs lo z).map enc)).holds w':=by
    refine⟨⟨by rw[a3,Ga,A];exact c8,.inr ⟨b,cap,(Nh i.toList (lo.toNat * sz) ((List.replicate (xs.length - lo.toNat) z).map enc).flatten).toArray,by rw[A],b7,d0,by rw[A];exact R,b8,by simp[Ga,a1],?_⟩⟩,fun r q=>?_⟩
    ·have b2:i.toList=(xs.map enc).flatten++i.toList.drop ((xs.map enc).length * sz):=by
      conv=>lhs;rw[←Ld ((xs.map enc).length * sz) i.toList]
      rw[c3]
     have o:=C9 Y;rw[a3,b2,Ou _ _ _ _ (by rw[B,o,s,←Qs];exact Zd _ Aa),A,Aqx (by rw[Ga,o];exact Cf _),Wf (by rw[Ga,o];exact Cf _)]
    ·obtain⟨u,h,rfl⟩:=Iv.1 q
     exact a6 u
   refine J w' a5 (F.upd k f d2 d3 d4 Aa (fun c a0 S=>d1 c fun e=>S (by subst e;exact⟨_,_,rfl⟩)) a5 fun c a0=>?_);obtain⟨e4,e3,a2⟩:=a0;simp only[I3,Gf,O1] at a2;obtain⟨⟨rfl,_⟩,_⟩:=a2;exact⟨.inl ⟨_,_,rfl⟩,Aa⟩
end
def Aeu (a b:Edg):Int:=if a.fr<b.fr then -1 else if b.fr<a.fr then 1 else if a.tO<b.tO then -1 else if b.tO<a.tO then 1 else if a.bk<b.bk then -1 else if b.bk<a.bk then 1 else if a.wt<b.wt then -1 else if b.wt<a.wt then 1 else 0
def Afl (xs:List Edg):List Edg:=xs.mergeSort fun x y=>!Ao (Aeu y x<0)
def Aam (xs:List Edg):Option (List Edg):=ck (xs.length<4611686018427387904) (some (Afl xs))
def Aax {α β:Type} (o:Option α) (a:Option β) (f:α→Option β):Option β:=match o with | none=>a | some y=>f y
theorem Yx {α β:Type}{o:Option α}{a:Option β}{f:α→Option β}{r:β} (h:o=none) (b:Aax o a f=some r):a=some r:=by subst h;exact b
theorem Yw {α β:Type}{o:Option α}{a:Option β}{f:α→Option β}{r:β}{y:α} (h:o=some y) (b:Aax o a f=some r):f y=some r:=by subst h;exact b
abbrev Qr:Type:=List Int×List Stm×List Int×Int×Int×List Int×List Int×List Int
def LayAt (K:Aj) (v:Ak):Option Qr→Prop
 | none=>v=.pointer none
 | some y=>∃ p a b c d e f,v=.pointer (some p)∧CellsAt K p [a,b,c,.int .i64 y.2.2.2.1,.int .i64 y.2.2.2.2.1,d,e,f] 0∧Arr K a 1 (y.1.map Ar)∧Arr K b 9 (y.2.1.map Stm.cells)∧Arr K c 1 (y.2.2.1.map Ar)∧Arr K d 1 (y.2.2.2.2.2.1.map Ar)∧Arr K e 1 (y.2.2.2.2.2.2.1.map Ar)∧Arr K f 1 (y.2.2.2.2.2.2.2.map Ar)
theorem LayAt.none {K:Aj}:LayAt K (.pointer none) Option.none:=rfl
def Afh:=@LayAt.none
theorem LayAt.mk {K:Aj}{p:Addr}{i j k l m n:Ak}{a c f g h:List Int}{b:List Stm}{d e:Int} (r:CellsAt K p [i,j,k,.int .i64 d,.int .i64 e,l,m,n] 0) (o:Arr K i 1 (a.map Ar)) (a2:Arr K j 9 (b.map Stm.cells)) (a3:Arr K k 1 (c.map Ar)) (a4:Arr K l 1 (f.map Ar)) (a5:Arr K m 1 (g.map Ar)) (q:Arr K n 1 (h.map Ar)) :
  LayAt K (.pointer (some p)) (some (a,b,c,d,e,f,g,h)):=⟨p,i,j,k,l,m,n,rfl,r,o,a2,a3,a4,a5,q⟩
theorem LayAt.nil {K:Aj}{v:Ak}{o:Option Qr} (h:LayAt K v o) (e:o=Option.none):v=.pointer Option.none:=by subst e;exact h
theorem LayAt.at {K:Aj}{v:Ak}{o:Option Qr}{y:Qr} (h:LayAt K v o) (e:o=some y):∃ p a b c d f g,v=.pointer (some p)∧CellsAt K p [a,b,c,.int .i64 y.2.2.2.1,.int .i64 y.2.2.2.2.1,d,f,g] 0∧Arr K a 1 (y.1.map Ar)∧Arr K b 9 (y.2.1.map Stm.cells)∧Arr K c 1 (y.2.2.1.map Ar)∧Arr K d 1 (y.2.2.2.2.2.1.map Ar)∧Arr K f 1 (y.2.2.2.2.2.2.1.map Ar)∧Arr K g 1 (y.2.2.2.2.2.2.2.map Ar):=by subst e;exact h
end Go.Rd
end
section
namespace Go.Rd
noncomputable def Md (a:Int):Option (Bool) :=
 some ((Ao (a≥(-64)))&&(Ao (a≤64)))
noncomputable def L3 (step plus a log:Int):Option (Int) :=
 bdG (!((Ao (log<0)) || (Ao (log>5)))) (Md step) fun b =>
 bdG (!(((Ao (log<0)) || (Ao (log>5))) || (!b))) (Md plus) fun c =>
 br ((((((Ao (log<0)) || (Ao (log>5))) || (!b)) || (!c)) || (Ao (a<0))) || (Ao (a>200))) (
 some 0) (
 ck (IR (step * a)) <|
 ck (IR ((step * a)+plus)) <|
 ck (0≤log) <|
 ck (IR ((shlD 1 log) - 1)) <|
 some (R8 ((step * a)+plus) ((shlD 1 log) - 1)))
noncomputable def Qk (a:Bool):Option (Int) :=
 br a (
 some 1) (
 some 0)
noncomputable def T5 (op a b:Int):Option (Int) :=
 br (op==1) (
 some (IntKind.i64.wrap (a+b))) (
 br (op==2) (
 some (IntKind.i64.wrap (a - b))) (
 br (op==3) (
 some (IntKind.i64.wrap (a * b))) (
 br (op==4) (
 some (R8 a b)) (
 br (op==5) (
 some (bitOr a b)) (
 br (op==6) (
 some (A59 a b)) (
 br (op==7) (
 bd (Qk (Ao (a<b))) fun c =>
 some c) (
 br (op==8) (
 bd (Qk (a==b)) fun d =>
 some d) (
 some 0))))))))
noncomputable def E8 (op:Int):Option (Int) :=
 br (op==3) (
 br (op==3) (
 some 2) (
 br (op==13) (
 some 1) (
 some 0))) (
 br (op==4) (
 some 2) (
 br (op==13) (
 some 1) (
 some 0)))
noncomputable def Aao (op:Int):Option (Int) :=
 br ((op==3) || (op==4)) (
 some 2) (
 br (op==13) (
 some 1) (
 some 0))
noncomputable def Vy (log:Int):(Int×Int)→Option (Stp (Int×Int) (Empty)):=fun (a,b) =>
 br (Ao (b<log)) (
 ck (IR (a+a)) <|
 ck (IR (b+1)) <|
 some (.next ((a+a),(b+1)))) (
 some (.brk (a,b)))
noncomputable def Y3 (log:Int):Option (Int) :=
 bd (lp (Vy log) (1,0)) fun b=>b.on (fun (a,c) =>
 some a) (fun r=>r.elim)
noncomputable def Y4 (a b:Int):Option (Int) :=
 ck (b≠0) <|
 br (Ao ((Int.tmod a b)<0)) (
 ck (IR ((Int.tmod a b)+b)) <|
 some ((Int.tmod a b)+b)) (
 some (Int.tmod a b))
theorem Xy (step plus a log:Int):L3 step plus a log=some (idx step plus a log):=by
 unfold L3 Md bdG idx;simp only[bd_ret,Zm];by_cases h:Afs step plus a log
 ·have e:=h
  unfold Afs at e;obtain⟨f,i,c,d,j,k,l,m⟩:=e;have o:=Ml log.toNat Aa;have p:=Ai7 c d l m;have n:=A5x h;have hs:shlD 1 log=2 ^ log.toNat:=Ae1 log f i;simp only[show ¬log<0 from Aa,show ¬log>5 from Aa,show step≥-64 from c,d,show plus≥-64 from j,k,show ¬a<0 from Aa,show ¬a>200 from Aa,decide_false,decide_true,Rt,Afy,F0,Jz,Na,Bool.or_false,Bool.false_eq_true,if_false,Bg h,hs];rw[Av Aa Aa,Av Aa Aa,Au Aa,Av Aa Aa];congr 1;unfold R8;rw[Ag9 _ _ Aa,I6]
  ·have:=Q3 (step * a+plus) (show (2:Int) ^ log.toNat≠0 from Aa)
   omega
  ·have:=Q4 (step * a+plus) (show (0:Int)<2 ^ log.toNat from Aa)
   omega
 ·rw[Bb h]
  unfold Afs at h;by_cases g1:log<0∨log>5
  ·rcases g1 with g | g <;> simp[g]
  ·by_cases b:step≥-64∧step≤64
   ·by_cases g3:plus≥-64∧plus≤64
    ·by_cases g4:a<0∨a>200
     ·rcases g4 with g | g <;> simp[g,show ¬log<0 from Aa,show ¬log>5 from Aa,b.1,b.2,g3.1,g3.2]
     ·exact absurd ⟨Aa,Aa,Aa,Aa,Aa,Aa,Aa,Aa⟩ h
    ·have:(Ao (plus≥-64)&&Ao (plus≤64))=Ay:=by simp;omega
     simp[this,show ¬log<0 from Aa,show ¬log>5 from Aa,b.1,b.2]
   ·have:(Ao (step≥-64)&&Ao (step≤64))=Ay:=by simp;omega
    simp[this,show ¬log<0 from Aa,show ¬log>5 from Aa]
theorem Aom (op a b:Int):T5 op a b=some (opV op a b):=by
 unfold T5 Qk opV;simp only[Zm,C8];(repeat' split) <;> (try simp_all) <;> (try rfl)
theorem Ov (op:Int):E8 op=some (Ka op):=by
 unfold E8 Ka;simp only[Zm,C8];(repeat' split) <;> simp_all
theorem Apl (op:Int):Aao op=some (Ka op):=by
 unfold Aao Ka;simp only[Zm,Wd,C8];(repeat' split) <;> simp_all
theorem Aka (log:Int) (a:log≤5):∀ (m i:Nat),i+m=log.toNat→lp (Vy log) (2 ^ i,i)=some (.go (2 ^ log.toNat,(log.toNat:Int)))
 | 0,i,h=>by
  have hi:i=log.toNat:=Aa;subst hi;refine C2 ?_;unfold Vy;exact Ch Aa
 | m+1,i,h=>by
  have b:=Ml i Aa;refine Bz ?_ (Aka log a m (i+1) Aa);unfold Vy;simp only;rw[Ce Aa,Av Aa Aa,Av Aa Aa,Azi];rfl
theorem Ayn (log:Int) (a:log≤5):Y3 log=some (2 ^ log.toNat):=by
 have:=Aka log a log.toNat 0 Aa;unfold Y3;rw[show ((1:Int),(0:Int))=((2:Int) ^ 0,((0:Nat):Int)) from rfl,this];rfl
theorem Ayo (a b:Int) (d:0<b) (e:b≤9223372036854775807):Y4 a b=some (a % b):=by
 have f:=T0 a d;have c:=Ayz (a:=a) d;unfold Y4;rw[Au Aa];by_cases h:Int.tmod a b<0
 ·rw[Bg h] at c
  rw[Ce h,Av Aa Aa,c]
 ·rw[Bb h] at c
  rw[Ch h,c]
noncomputable def Nv (t:Tgt):Int→Option (Stp (Int) (Bool)):=fun a =>
 br (Ao (a<3)) (
 ck (IX a 3) <|
 ck ((!(Ao ((Cq t.u0 t.u1 t.u2 a)<1)))=true→IX a 3) <|
 ck ((!((Ao ((Cq t.u0 t.u1 t.u2 a)<1)) || (Ao ((Cq t.u0 t.u1 t.u2 a)>4))))=true→IX a 3) <|
 ck ((!(((Ao ((Cq t.u0 t.u1 t.u2 a)<1)) || (Ao ((Cq t.u0 t.u1 t.u2 a)>4))) || (Ao ((Cq t.w0 t.w1 t.w2 a)<1))))=true→IX a 3) <|
 br ((((Ao ((Cq t.u0 t.u1 t.u2 a)<1)) || (Ao ((Cq t.u0 t.u1 t.u2 a)>4))) || (Ao ((Cq t.w0 t.w1 t.w2 a)<1))) || (Ao ((Cq t.w0 t.w1 t.w2 a)>6))) (
 some (.ret Ay)) (
 ck (IR (a+1)) <|
 some (.next (a+1)))) (
 some (.brk a))
noncomputable def Gn (t:Tgt):Option (Bool) :=
 bd (lp (Nv t) 0) fun a=>a.on (fun b =>
 some ((Ao (t.regs≥1))&&(Ao (t.regs≤128)))) (fun r=>some r)
noncomputable def Gr (t:Tgt) (op:Int):Option (Int) :=
 bd (Gn t) fun b =>
 br (!b) (
 some 0) (
 bd (E8 op) fun a =>
 ck (IX a 3) <|
 some (Cq t.w0 t.w1 t.w2 a))
noncomputable def Adt (t:Tgt):Int→Option (Stp (Int) (Bool)):=fun a =>
 br (Ao (a<3)) (
 ck (IX a 3) <|
 ck ((!(Ao ((Cq t.u0 t.u1 t.u2 a)<1)))=true→IX a 3) <|
 ck ((!((Ao ((Cq t.u0 t.u1 t.u2 a)<1)) || (Ao ((Cq t.u0 t.u1 t.u2 a)>4))))=true→IX a 3) <|
 ck ((!(((Ao ((Cq t.u0 t.u1 t.u2 a)<1)) || (Ao ((Cq t.u0 t.u1 t.u2 a)>4))) || (Ao ((Cq t.w0 t.w1 t.w2 a)<1))))=true→IX a 3) <|
 br ((((Ao ((Cq t.u0 t.u1 t.u2 a)<1)) || (Ao ((Cq t.u0 t.u1 t.u2 a)>4))) || (Ao ((Cq t.w0 t.w1 t.w2 a)<1))) || (Ao ((Cq t.w0 t.w1 t.w2 a)>6))) (
 some (.ret Ay)) (
 ck (IR (a+1)) <|
 some (.next (a+1)))) (
 some (.brk a))
noncomputable def Ahd (t:Tgt):Option (Bool) :=
 bd (lp (Adt t) 0) fun a=>a.on (fun b =>
 some ((Ao (t.regs>0))&&(Ao (t.regs≤128)))) (fun r=>some r)
noncomputable def Ads (t:Tgt) (op:Int):Option (Int) :=
 bd (Ahd t) fun b =>
 br (!b) (
 some 0) (
 bd (Aao op) fun a =>
 ck (IX a 3) <|
 some (Cq t.w0 t.w1 t.w2 a))
noncomputable def F8 (a b below:Int):Option (Bool) :=
 some ((Ao (a≥b))&&(Ao (a<below)))
noncomputable def E9 (s:Stm):Option (List Rf) :=
 br (s.op==4) (
 some [s.a]) (
 br (Ao (s.op>10)) (
 some [s.a,s.b]) (
 some []))
noncomputable def Sg (l:Lp) (c:Int) (a:Rf):Option (Bool) :=
 br (a.bk==0) (
 bd (F8 a.bk 0 4) fun x5 =>
 bdG (x5) (F8 a.st 0 c) fun e =>
 some (x5&&e)) (
 bd (F8 a.bk 0 4) fun b =>
 bdG (b) (F8 a.st 0 (ln l.body)) fun d =>
 some (b&&d))
noncomputable def Hl (l:Lp) (c:Int) (b:List Rf):Int→Option (Stp (Int) (Bool)):=fun a =>
 br (Ao (a<(ln b))) (
 ck (IX a (ln b)) <|
 bd (Sg l c (ele b a)) fun d =>
 br (!d) (
 some (.ret Ay)) (
 ck (IR (a+1)) <|
 some (.next (a+1)))) (
 some (.brk a))
noncomputable def Ql (l:Lp) (c:Int):Option (Bool) :=
 ck (IX c (ln l.body)) <|
 bd (F8 ((ele l.body c).ar) 0 (ln l.logs)) fun d =>
 bdG (d) (F8 ((ele l.body c).sp) (-64) 65) fun e =>
 bdG (d&&e) (F8 ((ele l.body c).pl) (-64) 65) fun f =>
 bd (E9 (Stm.mk ((ele l.body c).op) ((ele l.body c).a) ((ele l.body c).b) ((ele l.body c).ar) ((ele l.body c).sp) ((ele l.body c).pl) ((ele l.body c).n))) fun h =>
 bd (lp (Hl l c h) 0) fun g=>g.on (fun j =>
 br ((ele l.body c).op==1) (
 some ((((((ele l.body c).ar==0)&&((ele l.body c).sp==0))&&((ele l.body c).pl==0))&&([((ele l.body c).a).st,((ele l.body c).a).bk]==[0,0]))&&([((ele l.body c).b).st,((ele l.body c).b).bk]==[0,0]))) (
 br ((ele l.body c).n != 0) (
 some Ay) (
 br ((ele l.body c).op==2) (
 some ((((((ele l.body c).ar==0)&&((ele l.body c).sp==0))&&((ele l.body c).pl==0))&&([((ele l.body c).a).st,((ele l.body c).a).bk]==[0,0]))&&([((ele l.body c).b).st,((ele l.body c).b).bk]==[0,0]))) (
 br ((ele l.body c).op==3) (
 some ((((d&&e)&&f)&&([((ele l.body c).a).st,((ele l.body c).a).bk]==[0,0]))&&([((ele l.body c).b).st,((ele l.body c).b).bk]==[0,0]))) (
 br ((ele l.body c).op==4) (
 some (((d&&e)&&f)&&([((ele l.body c).b).st,((ele l.body c).b).bk]==[0,0]))) (
 bdG ((((ele l.body c).ar==0)&&((ele l.body c).sp==0))&&((ele l.body c).pl==0)) (F8 (IntKind.i64.wrap ((ele l.body c).op - 10)) 1 9) fun i =>
 some (((((ele l.body c).ar==0)&&((ele l.body c).sp==0))&&((ele l.body c).pl==0))&&i))))))) (fun r=>some r)
noncomputable def Ke (l:Lp):Int→Option (Stp (Int) (Bool)):=fun a =>
 br (Ao (a<(ln l.logs))) (
 ck (IX a (ln l.logs)) <|
 bd (F8 (ele l.logs a) 0 6) fun b =>
 br (!b) (
 some (.ret Ay)) (
 ck (IR (a+1)) <|
 some (.next (a+1)))) (
 some (.brk a))
noncomputable def Kd (l:Lp):(Int×Int)→Option (Stp (Int×Int) (Bool)):=fun (b,a) =>
 br (Ao (a<(ln l.outs))) (
 ck (IX a (ln l.outs)) <|
 ck (IR (b+1)) <|
 bd (F8 (ele l.outs a) (b+1) (ln l.body)) fun c =>
 br (!c) (
 some (.ret Ay)) (
 ck (IR (a+1)) <|
 some (.next ((ele l.outs a),(a+1))))) (
 some (.brk (b,a)))
noncomputable def Hp (l:Lp):Int→Option (Stp (Int) (Bool)):=fun a =>
 br (Ao (a<(ln l.body))) (
 bdG (!(Ao ((ln l.body)>16))) (Ql l a) fun b =>
 br ((Ao ((ln l.body)>16)) || (!b)) (
 some (.ret Ay)) (
 ck (IR (a+1)) <|
 some (.next (a+1)))) (
 some (.brk a))
noncomputable def Ib (l:Lp):Option (Bool) :=
 bd (lp (Ke l) 0) fun b=>b.on (fun e =>
 bd (lp (Kd l) ((-1),0)) fun c=>c.on (fun (d,f) =>
 bd (lp (Hp l) 0) fun a=>a.on (fun g =>
 some ((Ao ((ln l.logs)≤3))&&(Ao ((ln l.body)>0)))) (fun r=>some r)) (fun r=>some r)) (fun r=>some r)
noncomputable def Km (s:Sta):Int→Option (Stp (Int) (Bool)):=fun a =>
 br (Ao (a<(ln s.bef))) (
 ck (IX a (ln s.bef)) <|
 br ((ln (ele s.bef a)) != 3) (
 some (.ret Ay)) (
 ck (IR (a+1)) <|
 some (.next (a+1)))) (
 some (.brk a))
noncomputable def Kl (l:Lp) (s:Sta):Int→Option (Stp (Int) (Bool)):=fun a =>
 br (Ao (a<(ln s.mem))) (
 ck (IX a (ln s.mem)) <|
 ck (IX a (ln l.logs)) <|
 ck (0≤(ele l.logs a)) <|
 br ((ln (ele s.mem a)) != (shlD 1 (ele l.logs a))) (
 some (.ret Ay)) (
 ck (IR (a+1)) <|
 some (.next (a+1)))) (
 some (.brk a))
noncomputable def Ow (l:Lp) (s:Sta):Option (Bool) :=
 bd (Ib l) fun c =>
 br (((!c) || ((ln s.bef) != (ln l.body))) || ((ln s.mem) != (ln l.logs))) (
 some Ay) (
 bd (lp (Km s) 0) fun b=>b.on (fun d =>
 bd (lp (Kl l s) 0) fun a=>a.on (fun e =>
 some true) (fun r=>some r)) (fun r=>some r))
noncomputable def Adu (s:Stm):Option (List Rf) :=
 br (s.op==4) (
 some [s.a]) (
 br (Ao (s.op>10)) (
 some [s.a,s.b]) (
 some []))
end Go.Rd
end
section
namespace Go.Rd
open Go.RowKit Go.ChangeShapes Go.WideShapes Go.ChangeAt
section
variable {H : Type} {enc : TypeId × Ak → H} {P : Bu} {w : Aj} {base : Nat} {spare : Nat → Bool} {held : Bool}
end
end Go.Rd
end
section
namespace Go.Rd
open Go.RowKit Go.ChangeShapes Go.WideShapes Go.ChangeAt
section
variable {H : Type} {enc : TypeId × Ak → H} {P : Bu} {w : Aj} {base : Nat} {spare : Nat → Bool} {held : Bool}
def Opr.InRo (o:Opr):Prop:=∀ x∈[o.slot,o.stage,o.op,o.dest,o.a,o.b,o.ar,o.sp,o.pl,o.n],InR x
structure KrnRep (w:Aj) (v:Ak) (k:Krn):Prop where
 ops:Arr w v 10 (k.ops.map Opr.cells)
 pace:InR k.pace
 stages:InR k.stages
 rops:∀ o∈k.ops,o.InRo
 len:k.ops.length≤maxLen
structure PlnRep (w:Aj) (v:Ak) (k:Pln):Prop where
 times:Arr w v 1 (k.times.map Ar)
 pace:InR k.pace
 rtimes:∀ o∈k.times,InR o
 len:k.times.length≤maxLen
structure RowsOk (xss:List (List Int)):Prop where
 rng:∀ xs∈xss,∀ x∈xs,InR x
 lens:∀ xs∈xss,xs.length≤maxLen
 len:xss.length≤maxLen
end
end Go.Rd
end
section
namespace Go.Rd
theorem Dm {p:Prop} (h:p):tb p=true:=A3n h
theorem Cw {p:Prop} (h:¬p):tb p=Ay:=Axt h
def Aiu (t:Tgt) (i:Nat):Prop:=1≤Cq t.u0 t.u1 t.u2 i∧Cq t.u0 t.u1 t.u2 i≤4∧1≤Cq t.w0 t.w1 t.w2 i∧Cq t.w0 t.w1 t.w2 i≤6
theorem Ai4 (t:Tgt):(∀ i,i<3→Aiu t i)↔((1≤t.u0∧t.u0≤4∧1≤t.w0∧t.w0≤6)∧(1≤t.u1∧t.u1≤4∧1≤t.w1∧t.w1≤6)∧(1≤t.u2∧t.u2≤4∧1≤t.w2∧t.w2≤6)):=by
 constructor
 ·intro h
  exact⟨h 0 Aa,h 1 Aa,h 2 Aa⟩
 ·rintro⟨a,b,c⟩ i hi
  match i,hi with
  | 0,_=>exact a
  | 1,_=>exact b
  | 2,_=>exact c
theorem An8 (t:Tgt) (i:Nat) (hi:i<3) (f:Int→Option (Stp Int Bool)) (b:f i=br (Ao ((i:Int)<3)) (
  ck (IX (i:Int) 3)<|ck ((!(Ao ((Cq t.u0 t.u1 t.u2 i)<1)))=true→IX (i:Int) 3)<|ck ((!((Ao ((Cq t.u0 t.u1 t.u2 i)<1)) || (Ao ((Cq t.u0 t.u1 t.u2 i)>4))))=true→IX (i:Int) 3) <|
  ck ((!(((Ao ((Cq t.u0 t.u1 t.u2 i)<1)) || (Ao ((Cq t.u0 t.u1 t.u2 i)>4))) || (Ao ((Cq t.w0 t.w1 t.w2 i)<1))))=true→IX (i:Int) 3) <|
  br ((((Ao ((Cq t.u0 t.u1 t.u2 i)<1)) || (Ao ((Cq t.u0 t.u1 t.u2 i)>4))) || (Ao ((Cq t.w0 t.w1 t.w2 i)<1))) || (Ao ((Cq t.w0 t.w1 t.w2 i)>6))) (some (.ret Ay)) (ck (IR ((i:Int)+1))<|some (.next ((i:Int)+1)))) (some (.brk (i:Int)))) :
  (Aiu t i→f i=some (.next ((i:Int)+1)))∧(¬Aiu t i→f i=some (.ret Ay)):=by
 have a:IX (i:Int) 3:=⟨Aa,Aa⟩;rw[b,Ce Aa,Au a,Fc (fun _=>a),Fc (fun _=>a),Fc (fun _=>a),Av Aa Aa];unfold Aiu;constructor
 ·intro h
  have:((((Ao ((Cq t.u0 t.u1 t.u2 i)<1)) || (Ao ((Cq t.u0 t.u1 t.u2 i)>4))) || (Ao ((Cq t.w0 t.w1 t.w2 i)<1))) || (Ao ((Cq t.w0 t.w1 t.w2 i)>6)))=Ay:=by
   simp only[Ss,H5];omega
  rw[this];rfl
 ·intro h
  have:((((Ao ((Cq t.u0 t.u1 t.u2 i)<1)) || (Ao ((Cq t.u0 t.u1 t.u2 i)>4))) || (Ao ((Cq t.w0 t.w1 t.w2 i)<1))) || (Ao ((Cq t.w0 t.w1 t.w2 i)>6)))=true:=by
   simp only[Wd,H4];omega
  rw[this];rfl
theorem Jd (t:Tgt):Gn t=some (C4 t):=by
 unfold Gn;have b:=Ai4 t;rcases U4 (f:=Nv t) (n:=3) (p:=Aiu t) (fun i hi _=>An8 t i hi _ rfl) (by unfold Nv;exact Ch Aa) with ⟨h,e⟩ | ⟨h,e⟩
 ·rw[e,bd_ret,Out.on_go]
  congr 1;rw[b] at h;unfold C4;rw[←Bool.decide_and];exact decide_eq_decide.2 ⟨fun a=>⟨h.1,h.2.1,h.2.2,a⟩,fun a=>a.2.2.2⟩
 ·rw[e,bd_ret,Out.on_ret]
  congr 1;rw[b] at h;exact(Ai3.2 fun a=>h ⟨a.1,a.2.1,a.2.2.1⟩).symm
theorem Arm (t:Tgt):Ahd t=some (C4 t):=by
 unfold Ahd;have b:=Ai4 t;rcases U4 (f:=Adt t) (n:=3) (p:=Aiu t) (fun i hi _=>An8 t i hi _ rfl) (by unfold Adt;exact Ch Aa) with ⟨h,e⟩ | ⟨h,e⟩
 ·rw[e,bd_ret,Out.on_go]
  congr 1;rw[b] at h;unfold C4;rw[←Bool.decide_and];exact decide_eq_decide.2 ⟨fun a=>⟨h.1,h.2.1,h.2.2,a⟩,fun a=>a.2.2.2⟩
 ·rw[e,bd_ret,Out.on_ret]
  congr 1;rw[b] at h;exact(Ai3.2 fun a=>h ⟨a.1,a.2.1,a.2.2.1⟩).symm
theorem Nu (t:Tgt) (op:Int):Gr t op=some (E4 t op):=by
 have a:=Ki op;unfold Gr E4;rw[Jd,bd_ret]
 cases h:C4 t with
 | true=>simp only[F0,br_false,Na];rw[Ov,bd_ret,A7 a.1 a.2]
 | false=>rfl
theorem Arn (t:Tgt) (op:Int):Ads t op=some (E4 t op):=by
 have a:=Ki op;unfold Ads E4;rw[Arm,bd_ret]
 cases h:C4 t with
 | true=>simp only[F0,br_false,Na];rw[Apl,bd_ret,A7 a.1 a.2]
 | false=>rfl
theorem Aai (s:Stm):E9 s=some (Bk s):=by
 unfold E9 Bk;simp only[Zm,C8,H4];(repeat' split) <;> rfl
theorem Aro (s:Stm):Adu s=some (Bk s):=by
 unfold Adu Bk;simp only[Zm,C8,H4];(repeat' split) <;> rfl
theorem ref_s (l:Lp) (k:Int) (r:Rf):Sg l k r=some (tb (RefOk l.body.length k r)):=by
 unfold Sg F8 bdG;simp only[bd_ret,Zm,C8];by_cases a:r.bk=0
 ·rw[Bg a,a]
  simp only[show ((0:Int)≥0) from Aa,show ((0:Int)<4) from Aa,decide_true,Afy,Na,Q0];congr 1;refine Ls ?_;simp only[E0,H4];unfold RefOk;omega
 ·rw[Bb a]
  by_cases b:0≤r.bk∧r.bk<4
  ·simp only[show r.bk≥0 from b.1,b.2,decide_true,Afy,Na,Q0]
   congr 1;refine Ls ?_;simp only[E0,H4];unfold RefOk ln;omega
  ·have:(Ao (r.bk≥0)&&Ao (r.bk<4))=Ay:=by
    simp only[Aa4,H5];omega
   rw[this];simp only[Bool.false_eq_true,if_false,Acs];congr 1;exact(Cw (by unfold RefOk;omega)).symm
structure Lp.Fine (l:Lp):Prop where
 rlogs:∀ x∈l.logs,InR x
 rbody:∀ x∈l.body,x.InR
 routs:∀ x∈l.outs,InR x
 llogs:l.logs.length≤maxLen
 lbody:l.body.length≤maxLen
 louts:l.outs.length≤maxLen
theorem LpRep.fine {w:Aj}{v1 v2 v3:Ak}{l:Lp} (h:LpRep w v1 v2 v3 l):l.Fine:=⟨h.rlogs,h.rbody,h.routs,h.llogs,h.lbody,h.louts⟩
theorem Ej:maxLen=9223372036854775807:=rfl
theorem A3k (r:Rf):([r.st,r.bk]==[(0:Int),0])=tb r.isZero:=by
 refine Ls ?_;simp[Rf.isZero]
theorem Au2 (l:Lp) (k:Int) (s:Stm) (g:l.body.length≤maxLen):(Aq7 l.body.length k (Bk s).length s∧lp (Hl l k (Bk s)) 0=some (.go ((Bk s).length:Int))) ∨
  (¬Aq7 l.body.length k (Bk s).length s∧lp (Hl l k (Bk s)) 0=some (.ret Ay)):=by
 have d:=Oj s
 have:=U4 (f:=Hl l k (Bk s)) (n:=(Bk s).length) (p:=fun i=>RefOk l.body.length k ((Bk s).getD i Rf.zero)) (fun i hi _=>by
  have e:Hl l k (Bk s) i=br (!tb (RefOk l.body.length k ((Bk s).getD i Rf.zero))) (some (.ret Ay)) (some (.next ((i:Int)+1))):=by
   unfold Hl;rw[Ce (by unfold ln;omega),A7 Aa (by unfold ln;omega),ref_s,bd_ret,Av Aa Aa];rfl
  constructor
  ·intro h;rw[e,Dm h];rfl
  ·intro h;rw[e,Cw h];rfl) (by unfold Hl;exact Ch (by unfold ln;omega))
 rcases this with ⟨h,e⟩ | ⟨h,e⟩
 ·exact .inl ⟨fun j c b=>h j b,e⟩
 ·exact .inr ⟨fun a=>h fun i hi=>a i Aa hi,e⟩
theorem A5b (s:Stm):((s.ar==0&&s.sp==0)&&s.pl==0)=tb (Mk s):=by
 refine Ls ?_;simp[Mk,Ur]
theorem wordB (nl:Int) (s:Stm):(((Ao (s.ar≥0)&&Ao (s.ar<nl))&&(Ao (s.sp≥-64)&&Ao (s.sp<65)))&&(Ao (s.pl≥-64)&&Ao (s.pl<65)))=tb (Lc nl s):=by
 refine Ls ?_;simp only[E0,H4];unfold Lc;omega
theorem Aaa {p q:Prop}:(tb p&&tb q)=tb (p∧q):=by
 refine Ls ?_;rw[E0,Alf,Alf]
theorem A49 (l:Lp) (k:Nat) (v:k<l.body.length) (o:l.Fine):Ql l k=some (tb (Vc l.logs.length l.body.length k (ele l.body k))):=by
 have t:(ele l.body k).InR:=Vj o.rbody v;have q:=t.1;unfold Rd.InR at q;have x:=o.lbody;rw[Ej] at x;generalize hs:ele l.body k=s at *;have z:(Stm.mk s.op s.a s.b s.ar s.sp s.pl s.n)=s:=rfl;unfold Ql;rw[A7 Aa (by unfold ln;omega),hs,z,Aai];unfold F8;simp only[bd_ret,On];rcases Au2 l k s o.lbody with ⟨p,e⟩ | ⟨p,e⟩
 ·rw[e]
  simp only[bd_ret,Out.on_go];rw[Hh (Au3 (nl:=l.logs.length) p Aa),A5b,A3k,A3k];have w:∀ A B C:Bool,((A&&(if A=true then B else Ay))&&(if (A&&(if A=true then B else Ay))=true then C else Ay))=((A&&B)&&C):=Ai;rw[w,show ln l.logs=(l.logs.length:Int) from rfl,wordB];simp only[Zm,C8,Te];by_cases d:s.op=1
  ·rw[Bg d,Hh (A5h d),Aaa,Aaa,Hh (Ur)]
  ·rw[Bb d]
   by_cases c:s.n=0
   ·rw[Bb (by simpa using c)]
    by_cases f:s.op=2
    ·rw[Bg f,Hh (A5g f c),Aaa,Aaa,Hh (Ur)]
    ·rw[Bb f]
     by_cases g:s.op=3
     ·rw[Bg g,Hh (A5f g c),Aaa,Aaa,Hh (Ur)]
     ·rw[Bb g]
      by_cases i:s.op=4
      ·rw[Bg i,Hh (A5e i c),Aaa]
      ·rw[Bb i,Hh (A5d d f g i c)]
       have y:=Azp q
       have r:(Ao (IntKind.i64.wrap (s.op - 10)≥1)&&Ao (IntKind.i64.wrap (s.op - 10)<9))=tb (11≤s.op∧s.op≤18):=by
        refine Ls ?_;rw[E0,H4,H4];exact y
       rw[r];by_cases m:Mk s
       ·rw[Dm m,Bg rfl,Q0]
        congr 1;exact Hh ⟨fun h=>⟨m,h⟩,fun h=>h.2⟩
       ·rw[Cw m,Acs]
        congr 1;exact(Cw fun h=>m h.1).symm
   ·rw[Bg (by simpa using c)]
    congr 1;exact(Cw (A5c d c)).symm
 ·rw[e]
  simp only[bd_ret,Out.on_ret];congr 1;refine(Cw fun h=>p fun j E u=>?_).symm;exact(An5.2 ⟨h.1,h.2.1⟩) j u
def Axo (l:Lp) (j:Nat):Prop:=0≤l.logs.getD j 0∧l.logs.getD j 0≤5
theorem A18 {l:Lp}:Alv l l.logs.length↔∀ i,i<l.logs.length→Axo l i:=⟨fun h i hi=>h i Aa,fun h j a=>h j Aa⟩
def Aq9 (l:Lp) (j:Nat):Prop:=Vc l.logs.length l.body.length j (l.body.getD j Stm.zero)
theorem A25 {l:Lp}:Alw l l.body.length↔∀ i,i<l.body.length→Aq9 l i:=⟨fun h i hi=>h i Aa,fun h j a=>h j Aa⟩
theorem Abm (l:List Int) (i:Nat):ele l (i:Int)=l.getD i 0:=rfl
theorem A2x (l:List Stm) (i:Nat):ele l (i:Int)=l.getD i Stm.zero:=rfl
theorem A5t (l:Lp) (a:l.Fine):(Alv l l.logs.length∧lp (Ke l) 0=some (.go (l.logs.length:Int)))∨(¬Alv l l.logs.length∧lp (Ke l) 0=some (.ret Ay)):=by
 have b:=a.llogs;rw[Ej] at b;rw[A18];refine U4 (fun i hi _=>?_) (by unfold Ke;exact Ch (by unfold ln;omega))
 have e:Ke l i=br (!(Ao (l.logs.getD i 0≥0)&&Ao (l.logs.getD i 0<6))) (some (.ret Ay)) (some (.next ((i:Int)+1))):=by
  unfold Ke F8;rw[Ce (by unfold ln;omega),A7 Aa (by unfold ln;omega),bd_ret,Av Aa Aa];rfl
 rw[e];constructor
 ·intro h
  rw[show (Ao (l.logs.getD i 0≥0)&&Ao (l.logs.getD i 0<6))=true from by simp only[E0,H4];unfold Axo at h;omega];rfl
 ·intro h
  rw[show (Ao (l.logs.getD i 0≥0)&&Ao (l.logs.getD i 0<6))=Ay from by simp only[Aa4,H5];unfold Axo at h;omega];rfl
theorem Ax3 (l:Lp) (f:l.Fine):∀ (m i:Nat),i+m=l.outs.length→Aaj l i →
  (Aaj l l.outs.length∧∃ x,lp (Kd l) (Kh l i,i)=some (.go (x,(l.outs.length:Int))))∨(¬Aaj l l.outs.length∧lp (Kd l) (Kh l i,i)=some (.ret Ay))
 | 0,i,h,hp=>by
  have hi:i=l.outs.length:=Aa;subst hi;exact .inl ⟨hp,_,C2 (by unfold Kd;exact Ch (by unfold ln;omega))⟩
 | m+1,i,h,hp=>by
  have p:=f.louts;have o:=f.lbody;rw[Ej] at p o;have r:=Ar0 Aa hp;have g:=Azo (l:=l) (i:=i) Aa hp;rw[Iw] at g
  have e:Kd l (Kh l i,i)=br (!(Ao (l.outs.getD i 0≥Kh l i+1)&&Ao (l.outs.getD i 0<l.body.length))) (some (.ret Ay)) (some (.next (l.outs.getD i 0,(i:Int)+1))):=by
   unfold Kd F8;simp only;rw[Ce (by unfold ln;omega),A7 Aa (by unfold ln;omega),Av Aa Aa,bd_ret,Av Aa Aa];rfl
  by_cases c:Kh l i+1≤l.outs.getD i 0∧l.outs.getD i 0<l.body.length
  ·have d:(Ao (l.outs.getD i 0≥Kh l i+1)&&Ao (l.outs.getD i 0<l.body.length))=true:=by simp only[E0,H4];exact c
   rw[d,F0,br_false] at e;have q:Aaj l ((i:Int)+1):=A1p hp Aa (by rw[Iw];exact g.1 c);have j:=Am6 (l:=l) (i:=i) Aa;rw[Iw] at j;have k:=Ax3 l f m (i+1) Aa q;rw[show ((i+1:Nat):Int)=(i:Int)+1 from rfl,j] at k;rcases k with ⟨a,x,b⟩ | ⟨a,b⟩
   ·exact .inl ⟨a,x,(Lk e).trans b⟩
   ·exact .inr ⟨a,(Lk e).trans b⟩
  ·have d:(Ao (l.outs.getD i 0≥Kh l i+1)&&Ao (l.outs.getD i 0<l.body.length))=Ay:=by simp only[Aa4,H5];omega
   rw[d,Jz,br_true] at e;exact .inr ⟨fun n=>c (g.2 (n i Aa)),Hk e⟩
theorem A58 (l:Lp) (b:l.Fine) (c:l.body.length≤16):(Alw l l.body.length∧lp (Hp l) 0=some (.go (l.body.length:Int)))∨(¬Alw l l.body.length∧lp (Hp l) 0=some (.ret Ay)):=by
 rw[A25];refine U4 (fun i hi _=>?_) (by unfold Hp;exact Ch (by unfold ln;omega))
 have e:Hp l i=br (!tb (Aq9 l i)) (some (.ret Ay)) (some (.next ((i:Int)+1))):=by
  have a:¬ln l.body>16:=by unfold ln;omega
  unfold Hp;rw[Ce (by unfold ln;omega),A49 l i hi b,Wc a,Av Aa Aa,A2x];simp only[Jz,bdG_t,bd_ret,Wb,Aq9]
 rw[e];exact⟨fun h=>by rw[Dm h];rfl,fun h=>by rw[Cw h];rfl⟩
theorem Afu (l:Lp) (i:l.Fine):Ib l=some (tb (LoopOk l)):=by
 unfold Ib;rcases A5t l i with ⟨d,a⟩ | ⟨d,a⟩
 ·rw[a,bd_ret,Out.on_go]
  have j:=Ax3 l i l.outs.length 0 Aa (A1o);rw[show Kh l ((0:Nat):Int)=-1 from rfl] at j;rcases j with ⟨f,x,b⟩ | ⟨f,b⟩
  ·rw[show ((-1:Int),(0:Int))=(-1,((0:Nat):Int)) from rfl,b,bd_ret,Out.on_go]
   simp only;by_cases e:l.body.length≤16
   ·rcases A58 l i e with ⟨g,c⟩ | ⟨g,c⟩
    ·rw[c,bd_ret,Out.on_go]
     congr 1;refine Ls ?_;simp only[E0,H4];unfold ln;exact⟨fun h=>⟨Aa,Aa,e,d,f,g⟩,fun h=>⟨by have:=h.1;omega,by have:=h.2.1;omega⟩⟩
    ·rw[c,bd_ret,Out.on_ret]
     congr 1;exact(Cw fun h=>g h.2.2.2.2.2).symm
   ·have:Hp l 0=some (.ret Ay):=by
     unfold Hp;rw[Ce (by unfold ln;omega),show (Ao (ln l.body>16))=true from Lr (by unfold ln;omega)];rfl
    rw[Hk this,bd_ret,Out.on_ret];congr 1;exact(Cw fun h=>e h.2.2.1).symm
  ·rw[show ((-1:Int),(0:Int))=(-1,((0:Nat):Int)) from rfl,b,bd_ret,Out.on_ret]
   congr 1;exact(Cw fun h=>f h.2.2.2.2.1).symm
 ·rw[a,bd_ret,Out.on_ret]
  congr 1;exact(Cw fun h=>d h.2.2.2.1).symm
theorem Ao5 (l:List (List Int)) (i:Nat):ele l (i:Int)=l.getD i []:=rfl
theorem LoopOk.log {l:Lp} (h:LoopOk l) (i:Nat) (hi:i<l.logs.length):0≤l.logs.getD i 0∧l.logs.getD i 0≤5:=h.2.2.2.1 i Aa
theorem LoopOk.out {l:Lp} (h:LoopOk l) (i:Nat) (hi:i<l.outs.length):0≤l.outs.getD i 0∧l.outs.getD i 0<l.body.length:=⟨(h.2.2.2.2.1 i Aa).1,(h.2.2.2.2.1 i Aa).2.1⟩
theorem LoopOk.stm {l:Lp} (h:LoopOk l) (i:Nat) (hi:i<l.body.length):Vc l.logs.length l.body.length i (l.body.getD i Stm.zero):=h.2.2.2.2.2 i Aa
theorem neB {a b:Int}:(a != b)=!tb (a=b):=by
 have:(!(a != b))=tb (a=b):=Ls Ba;rw[←this,Acn]
theorem T4 {l:Lp} (h:LoopOk l):l.outs.length≤16:=by
 have a:=h.2.2.2.2.1
 have key:∀ i:Nat,i<l.outs.length→(i:Int)≤l.outs.getD i 0:=by
  intro i
  induction i with
  | zero=>intro hi;exact(a 0 Aa).1
  | succ i f =>
   intro hi;have b:=f Aa;have c:=(a (i+1) Aa).2.2 i rfl;omega
 rcases Uv 16 l.outs.length with e | d
 ·have b:=key 16 e
  have c:=(a 16 Aa).2.1;have:=h.2.2.1;omega
 ·exact d
theorem AL8 {n:Nat} (h:n≤100000):AL n 8:=⟨by rw[Ej];omega,Aa⟩
theorem A1c {n:Nat} (h:n≤100000):AL n 24:=⟨by rw[Ej];omega,Aa⟩
theorem Gy {γ ρ:Type}{f:γ→Option (Stp γ ρ)} (st:Nat→γ) (n:Nat) (step:∀ i,i<n→f (st i)=some (.next (st (i+1)))) (a:f (st n)=some (.brk (st n))):lp f (st 0)=some (.go (st n)):=by
 have key:∀ m i:Nat,i+m=n→lp f (st i)=some (.go (st n)):=by
  intro m
  induction m with
  | zero =>
   intro i hi;have:i=n:=Aa;subst this;exact C2 a
  | succ m b=>exact fun i hi=>Bz (step i Aa) (b (i+1) Aa)
 exact key n 0 Aa
theorem Ll {γ ρ:Type}{f:γ→Option (Stp γ ρ)} (st:Nat→γ) (n:Nat) (p:Nat→Prop) (q:Nat→ρ) (step:∀ i,i<n→(∀ j,j<i→p j)→(p i→f (st i)=some (.next (st (i+1))))∧(¬p i→f (st i)=some (.ret (q i)))) (s:f (st n)=some (.brk (st n))) :
  ((∀ i,i<n→p i)∧lp f (st 0)=some (.go (st n)))∨(∃ i,i<n∧¬p i∧(∀ j,j<i→p j)∧lp f (st 0)=some (.ret (q i))):=by
 have key:∀ m i:Nat,i+m=n→(∀ j,j<i→p j)→((∀ i,i<n→p i)∧lp f (st i)=some (.go (st n)))∨(∃ k,k<n∧¬p k∧(∀ j,j<k→p j)∧lp f (st i)=some (.ret (q k))):=by
  intro m
  induction m with
  | zero =>
   intro i hi g;have:i=n:=Aa;subst this;exact .inl ⟨g,C2 s⟩
  | succ m u =>
   intro i hi g;obtain⟨l,r⟩:=step i Aa g;by_cases h:p i
   ·have t:∀ j,j<i+1→p j:=fun j o=>by
     by_cases e:j=i
     ·subst e;exact h
     ·exact g j Aa
    rcases u (i+1) Aa t with ⟨a,b⟩ | ⟨k,a,b,c,d⟩
    ·exact .inl ⟨a,Bz (l h) b⟩
    ·exact .inr ⟨k,a,b,c,Bz (l h) d⟩
   ·exact .inr ⟨i,Aa,h,g,Hk (r h)⟩
 exact key n 0 Aa (fun j o=>absurd o (Q2 _))
theorem Amf {α γ ρ:Type}{f:γ→Option (Stp γ ρ)} (mk:α→Int→γ) {n:Nat} (Inv:Nat→α→Prop) (step:∀ (i:Nat) g,i<n→Inv i g→∃ g',f (mk g (i:Int))=some (.next (mk g' ((i:Int)+1)))∧Inv (i+1) g') (k:∀ g,f (mk g (n:Int))=some (.brk (mk g (n:Int)))) (g0:α) (c:Inv 0 g0) :
  ∃ g,lp f (mk g0 0)=some (.go (mk g (n:Int)))∧Inv n g:=by
 have key:∀ m i:Nat,i+m=n→∀ g,Inv i g→∃ g',lp f (mk g (i:Int))=some (.go (mk g' (n:Int)))∧Inv n g':=by
  intro m
  induction m with
  | zero =>
   intro i hi g a;have:i=n:=Aa;subst this;exact⟨g,C2 (k g),a⟩
  | succ m l =>
   intro i hi g a;obtain⟨g',d,e⟩:=step i g Aa a;obtain⟨b,h,j⟩:=l (i+1) Aa g' e;exact⟨b,Bz d h,j⟩
 exact key n 0 Aa g0 c
theorem A16 {α ρ:Type}{f:α×Int→Option (Stp (α×Int) ρ)}{n:Nat} (Inv:Nat→α→Prop) (Rr:ρ→Prop) (step:∀ (i:Nat) g,i<n→Inv i g→(∃ g',f (g,(i:Int))=some (.next (g',(i:Int)+1))∧Inv (i+1) g')∨(∃ r,f (g,(i:Int))=some (.ret r)∧Rr r)) (k:∀ g,f (g,(n:Int))=some (.brk (g,(n:Int)))) (g0:α) (j:Inv 0 g0) :
  (∃ g,lp f (g0,0)=some (.go (g,(n:Int)))∧Inv n g)∨(∃ r,lp f (g0,0)=some (.ret r)∧Rr r):=by
 have key:∀ m i:Nat,i+m=n→∀ g,Inv i g→(∃ g',lp f (g,(i:Int))=some (.go (g',(n:Int)))∧Inv n g')∨(∃ r,lp f (g,(i:Int))=some (.ret r)∧Rr r):=by
  intro m
  induction m with
  | zero =>
   intro i hi g e;have:i=n:=Aa;subst this;exact .inl ⟨g,C2 (k g),e⟩
  | succ m l =>
   intro i hi g e;rcases step i g Aa e with ⟨g',a,b⟩ | ⟨r,a,b⟩
   ·rcases l (i+1) Aa g' b with ⟨h,c,d⟩ | ⟨r,c,d⟩
    ·exact .inl ⟨h,Bz a c,d⟩
    ·exact .inr ⟨r,Bz a c,d⟩
   ·exact .inr ⟨r,Hk a,b⟩
 exact key n 0 Aa g0 j
theorem H7 {α:Type} [Inhabited α] {n:Nat}{g:Nat→α}{i:Nat} (h:i<n):ele ((List.range n).map g) (i:Int)=g i:=by
 rw[C7,Dy,Aa1,List.getElem?_range h];rfl
theorem Ad8 {α:Type}{n:Nat}{g:Nat→α}:ln ((List.range n).map g)=n:=by unfold ln;simp
theorem rm_succ {α:Type}{n:Nat}{g:Nat→α}:(List.range n).map g++[g n]=(List.range (n+1)).map g:=by rw[Uy,Qh];rfl
theorem Z8 {α:Type} [Inhabited α] {n:Nat}{g:Nat→α}{i:Nat} (h:i<n) {x:α}:upd ((List.range n).map g) (i:Int) x=(List.range n).map (fun j=>if j=i then x else g j):=by
 apply Wx;intro j;unfold upd;rw[Z3,Aa1];by_cases a:j<n
 ·rw[Aa1,List.getElem?_range a]
  by_cases e:j=i
  ·subst e;simp[h]
  ·simp[show ¬i=j from fun h=>e h.symm,e]
 ·rw[Aa1,Qi (by simp;omega)]
  have:¬i=j:=Aa;simp[this]
theorem J4 {α:Type}{n:Nat}{g h:Nat→α} (e:∀ i,i<n→g i=h i):(List.range n).map g=(List.range n).map h:=Aql fun i hi=>e i (Ux.1 hi)
theorem AL80 {n:Nat} (h:n≤100000):AL n 80:=⟨by show n≤9223372036854775807;omega,Aa⟩
end Go.Rd
end
section
namespace Go.Rd
open Go.RowKit
section
variable {P : Bu} {n : Nat} {σ : Env} {M : Nat → Prop} {w0 : Aj} {H : List Res} {d : Option Tmp} {T U E S : TypeId} {pos : String} {after : Array Edge} {gd : Option (Nat × Bool)} {x y : Eb} {g g' : Bool} {v yv : Ak}
 {K:Act→Aj→Prop}{Q:Exit→Act→Aj→Prop}
end
def Ago (n:Int):Option (List UInt8):=ck (IR n) (some (E5 n))
def Ma (n b:Int):Option (List UInt8):=ck (IR n∧b=10) (some (E5 n))
theorem Ajr {w w':Aj} (h:w'=w):Grow w w':=h▸Anb w
open Go.Proofs Go.Shelf in
theorem Ajo {w w':Aj}{k:Nat}{os:Array Obj} (h:w'=Sort.grow (w.drewN k) os):Grow w w':=by
 subst h;refine .of ?_ ?_
 ·exact⟨rfl,rfl,rfl,by simp[Sort.grow,World.drewN],fun b a=>by simp[Sort.grow,World.drewN,Array.getElem?_append,a]⟩
 ·simp[Sort.grow,World.drewN]
def U5 : List String := ["internal/strconv.uint64pow10", "strings.asciiSpace", "strconv.ErrSyntax", "strconv.ErrRange", "internal/bytealg.MaxLen"]
structure Glb (P : Bu) (w : Aj) : Prop where
 pow : Lib.TabIs P w "internal/strconv.uint64pow10" .u64 Lib.pow10Tab
 sp : Lib.TabIs P w "strings.asciiSpace" .u8 Lib.asciiSpaceTab
 syn : (P.globalNamed "strconv.ErrSyntax").isSome = true → ∃ t p, w.var? P "strconv.ErrSyntax" = some #[.iface t p]
 rng : (P.globalNamed "strconv.ErrRange").isSome = true → ∃ t p, w.var? P "strconv.ErrRange" = some #[.iface t p]
 mx : ∀ g, P.globalNamed "internal/bytealg.MaxLen" = some g → ∃ m, w.cell? ⟨g, 0, none⟩ = some (.int .i64 m)
theorem Agh {P:Bu}{w:Aj}{nm:String}{cs:Array Ak}{g:Nat} (h:w.var? P nm=some cs) (b:P.globalNamed nm=some g):g<w.heap.size:=by
 unfold World.var? at h;rw[b] at h;simp only[Option.bind_some] at h;rcases Uv g w.heap.size with a | a
 ·exact a
 ·rw[Ad2 a] at h;exact absurd h Ba
theorem Abs {P:Bu}{w w':Aj}{nm:String}{cs:Array Ak} (h:w.var? P nm=some cs) (b:∀ g,P.globalNamed nm=some g→g<w.heap.size→w'.heap[g]?=w.heap[g]?):w'.var? P nm=some cs:=by
 cases a:P.globalNamed nm with
 | none=>unfold World.var? at h;rw[a] at h;exact absurd h Ba
 | some g =>
  have e:=b g a (Agh h a);unfold World.var? at h ⊢;rw[a] at h ⊢;simp only[Option.bind_some] at h ⊢;rw[e];exact h
theorem Glb.kept {P:Bu}{w w':Aj} (h:Glb P w) (b:∀ nm∈U5,∀ g,P.globalNamed nm=some g→g<w.heap.size→w'.heap[g]?=w.heap[g]?):Glb P w' where
 pow:=Abs h.pow (b _ (by simp[U5]))
 sp:=Abs h.sp (b _ (by simp[U5]))
 syn:=fun hs=>let ⟨t,p,a⟩:=h.syn hs;⟨t,p,Abs a (b _ (by simp[U5]))⟩
 rng:=fun hs=>let ⟨t,p,a⟩:=h.rng hs;⟨t,p,Abs a (b _ (by simp[U5]))⟩
 mx:=fun g c=>let ⟨m,a⟩:=h.mx g c;⟨m,by rw[Acx (w:=w) (w':=w') (b _ (by simp[U5]) g c (Acz _ _ a))];exact a⟩
theorem Glb.lt {P:Bu}{w:Aj} (h:Glb P w) {nm:String} (c:nm∈U5) {g:Nat} (a:P.globalNamed nm=some g):g<w.heap.size:=by
 simp only[U5,Gl,List.mem_nil_iff,or_false] at c;rcases c with rfl | rfl | rfl | rfl | rfl
 ·exact Agh h.pow a
 ·exact Agh h.sp a
 ·obtain⟨_,_,b⟩:=h.syn (by rw[a];rfl);exact Agh b a
 ·obtain⟨_,_,b⟩:=h.rng (by rw[a];rfl);exact Agh b a
 ·obtain⟨_,b⟩:=h.mx _ a;exact Acz _ _ b
structure GlbM (P:Bu) (M:Nat→Prop) (w:Aj):Prop where
 glb:Glb P w
 out:∀ nm∈U5,∀ g,P.globalNamed nm=some g→¬M g
theorem GlbM.of {P:Bu}{w:Aj} (h:Glb P w):GlbM P noM w:=⟨h,fun _ _ _ _ x=>x⟩
def Zb:=@GlbM.of
theorem GlbM.at {P:Bu}{M:Nat→Prop}{w0 w:Aj}{H:List Res} (h:GlbM P M w0) (d:Own M w0 H w):Glb P w :=
 h.glb.kept fun nm c g a b=>d.1.block g b (h.out nm c g a)
theorem GlbM.lend {P:Bu}{M:Nat→Prop}{w0 w k0 k:Aj}{R e:List Res} (h:GlbM P M w0) (d:Own M w0 (kn M w0.heap.size k0 k::(R++e)) w):GlbM P (Acj R) w :=
 ⟨h.at d,fun nm c g b ⟨r,j,i⟩=>by
  obtain⟨f,_,_⟩:=Asq.1 d.2.2;rcases (f.lt r j g i).1 with a | a
  ·exact h.out nm c g b a
  ·exact Nat.lt_irrefl _ (Aa3 (h.glb.lt c b) a)⟩
section
variable {P : Bu} {n : Nat} {σ : Env} {M : Nat → Prop} {w0 k0 k : Aj} {d : Option Tmp} {T : TypeId} {pos : String} {after : Array Edge} {gd : Option (Nat × Bool)} {K : Act → Aj → Prop} {Q : Exit → Act → Aj → Prop}
theorem Akd {X:Type}{R h:List Res}{f:FuncId}{xs:List Eb}{vs:List Ak}{i:Array TypeId} (G:X→Ak) (R':X→List Res) (g:X→Aj) (F:X→Prop) (m:GlbM P M w0) (j:Base M k0 w0) (r:∀ dd,d=some dd→dd<n) (p:Enters P f) (v:EvAll σ xs vs)
  (o:∀ M' w,GlbM P M' w→Base M' k w→Own M' w R w→Calls P f vs.toArray w (fun e w'=>∃ X,e=.returned (G X)∧Own M' w (kn M' w.heap.size k (g X)::R' X) w'∧F X))
  (kk:∀ X,F X→Le k (g X)→WK n K ((match d with | some dd=>[(dd,(true,G X))] | none=>[])++σ) (Own M w0 (kn M w0.heap.size k0 (g X)::(R' X++h)))) :
  EV P n ⟨d,.call ⟨.value (.func f),xs.toArray,i⟩,T,pos,after,gd⟩ σ (Own M w0 (kn M w0.heap.size k0 k::(R++h))) K Q:=fun a w b c=>by
 refine .inl ?_;have q:=v.map b
 have t:(execOp a.eval ⟨d,.call ⟨.value (.func f),xs.toArray,i⟩,T,pos,after,gd⟩).run P w=.ok (.enter f vs.toArray) w:=by
  simp[execOp,resolve,Acp,Act.eval,invoke,Pe p,q]
 unfold H3;rw[t];obtain⟨x,y⟩:=c.lend j;refine(o _ w (m.lend c) x y).mono ?_;rintro e z ⟨u,rfl,s,l⟩;obtain⟨b1,b2⟩:=c.back j s;refine kk u l b2 _ _ ?_ b1
 cases d with
 | none=>exact b
 | some dd=>exact b.put (r dd rfl) true _
theorem crG {X:Type}{R b H:List Res}{f:FuncId}{xs:List Eb}{vs:List Ak}{c:Array TypeId}{G:X→Ak}{R':X→List Res}{a:X→Aj}{F:X→Prop} (t:List Nat) (i:GlbM P M w0) (l:Base M k0 w0) (o:Enters P f) (r:Ap8 σ xs=some vs)
  (m:∀ M' w,GlbM P M' w→Base M' k w→Own M' w R w→Calls P f vs.toArray w (fun e w'=>∃ X,e=.returned (G X)∧Own M' w (kn M' w.heap.size k (a X)::R' X) w'∧F X)) (j:pickE t H=some (kn M w0.heap.size k0 k::(R++b)))
  (kk:∀ X,F X→Le k (a X)→WK n K ((match d with | some dd=>[(dd,(true,G X))] | none=>[])++σ) (Own M w0 (kn M w0.heap.size k0 (a X)::(R' X++b)))) (q:∀ dd,d=some dd→dd<n:=by intro _ h;cases h;decide) :
  EV P n ⟨d,.call ⟨.value (.func f),xs.toArray,c⟩,T,pos,after,gd⟩ σ (Own M w0 H) K Q:=EV.of (fun _ s=>s.pickE j) (Akd G R' a F i l q o (ea r) m fun X g p=>by have h:=kk X g p;cases d <;> exact h)
theorem cqG {X:Type}{R b H:List Res}{f:FuncId}{xs:List Eb}{vs:List Ak}{c:Array TypeId}{G:X→Ak}{R':X→List Res}{a:X→Aj}{F:X→Prop} (i:GlbM P M w0) (l:Base M k0 w0) (o:Enters P f) (r:Ap8 σ xs=some vs)
  (m:∀ M' w,GlbM P M' w→Base M' k w→Own M' w R w→Calls P f vs.toArray w (fun e w'=>∃ X,e=.returned (G X)∧Own M' w (kn M' w.heap.size k (a X)::R' X) w'∧F X)) (j:H=kn M w0.heap.size k0 k::(R++b))
  (kk:∀ X,F X→Le k (a X)→WK n K ((match d with | some dd=>[(dd,(true,G X))] | none=>[])++σ) (Own M w0 (kn M w0.heap.size k0 (a X)::(R' X++b)))) (q:∀ dd,d=some dd→dd<n:=by intro _ h;cases h;decide) :
  EV P n ⟨d,.call ⟨.value (.func f),xs.toArray,c⟩,T,pos,after,gd⟩ σ (Own M w0 H) K Q:=j▸(Akd G R' a F i l q o (ea r) m fun X g p=>by have h:=kk X g p;cases d <;> exact h)
end
def opsT:List UInt8:=[97,100,100,32,115,117,98,32,109,117,108,32,97,110,100,32,111,114,32,120,111,114,32,108,101,115,115,32,115,97,109,101]
def opsW:List (List UInt8):=[[97,100,100],[115,117,98],[109,117,108],[97,110,100],[111,114],[120,111,114],[108,101,115,115],[115,97,109,101]]
def Ab5 (s:List UInt8):Option (List (List UInt8)):=ck (s=opsT) (some opsW)
theorem Ar8:Lib.fields opsT=opsW:=Ag
theorem Av9:∀ (j:Nat) b,(opsT.toArray.toList)[j]?=some b→b.toNat<128:=fun j b h=>by
 have a:∀ b∈opsT,b.toNat<128:=Ai;exact a b (Wz (by simpa using h))
theorem Ai5 {M:Nat→Prop}{w w' c:Aj}{T:TypeId} (l:List (List UInt8)) (d:Base M c w) (k:Own M w [] w) (e:l.length≤maxLen) (g:w'=w.alloc (.cells (l.map fun (q:List UInt8)=>Acl ⟨q.toArray⟩).toArray T)) :
  ∃ X:Ak×Aj,(Value.slice (some ⟨w.heap.size,0,none⟩) l.length l.length)=X.1∧Own M w (kn M w.heap.size c X.2::[]) w'∧Arr X.2 X.1 1 (l.map Wi):=by
 subst g
 have h:(l.map Wi).flatten=l.map fun (q:List UInt8)=>Acl ⟨q.toArray⟩:=by
  induction l with
  | nil=>rfl
  | cons x l m=>rw[W9,W9,Aa2,m (by simp at e;omega)];rfl
 have a:=(Aw d k).push (w':=w.alloc (.cells (l.map fun (q:List UInt8)=>Acl ⟨q.toArray⟩).toArray T)) (Ap2 _) (blk w.heap.size (l.map fun (q:List UInt8)=>Acl ⟨q.toArray⟩) T) (Acq w _) (fun b a=>by
  have:b=w.heap.size:=a;subst this
  simp)
 have j:=a.blkVec Wi l h Ava e;obtain⟨k',_,i,f⟩:=(j.front 1 rfl).freeze d;exact⟨(_,k'),rfl,f,Cn i⟩
open Go.Proofs Go.Shelf in
theorem Ar7 {P : Bu} {ρ : Ren} (L : Lays.n157 P ρ) (n : (P.info? (ρ.t 9)).map (fun i => (i.zero, i.size, i.bytes)) = some (some (.string ByteArray.empty), 1, 16)) (m : P.globalNamed "strings.asciiSpace" = some (ρ.g 0)) {s : List UInt8} {r : List (List UInt8)} {b : Aj} (p : Ab5 s = some r) (M : Nat → Prop) (w : Aj) (l : GlbM P M w) (o : Base M b w) (q : Own M w [] w) :
  Calls P (ρ.f 157) #[Cs s] w (fun e w' => ∃ X : Ak × Aj, e = .returned (X.1) ∧ Own M w (kn M w.heap.size b X.2 :: []) w' ∧ Arr X.2 X.1 1 (r.map Wi)) := by
 obtain⟨rfl, a⟩ := Qb p;obtain rfl := Ad a;refine(Any.strings_Fields L n m ⟨opsT.toArray⟩ w Ai Av9 l.glb.sp).mono ?_;rintro e w' ⟨c, d⟩;have h : (Nj opsT.toArray).data.toList = opsT := Ba;rw[h, Ar8] at c d;obtain⟨X, j, a, k⟩ := Ai5 opsW o q Ai d;exact⟨X, by rw[c, ← j], a, k⟩
open Go.Proofs Go.Shelf in
theorem Az5 {P:Bu}{ρ:Ren} (L:LaysM.n171 P ρ) {n:Int}{r:List UInt8} (w:Aj) (d:Ago n=some r) (c:Glb P w):Calls P (ρ.f 171) #[.int .i64 n] w (fun e w'=>e=.returned (Cs r)∧Grow w w'):=by
 obtain⟨h,a⟩:=Qb d;obtain rfl:=Ad a;refine(Any.strconv_Itoa L n h.1 h.2 w c.pow).mono ?_;rintro e w' ⟨b,k,os,g⟩;exact⟨b,Ajo g⟩
open Go.Proofs Go.Shelf in
theorem Ar5 {P:Bu}{ρ:Ren} (L:LaysM.n173 P ρ) {n b:Int}{r:List UInt8} (w:Aj) (g:Ma n b=some r) (d:Glb P w):Calls P (ρ.f 173) #[.int .i64 n,.int .i64 b] w (fun e w'=>e=.returned (Cs r)∧Grow w w'):=by
 obtain⟨⟨h,rfl⟩,a⟩:=Qb g;obtain rfl:=Ad a;refine(Any.strconv_FormatInt_10 L n h.1 h.2 w d.pow).mono ?_;rintro e w' ⟨c,k,os,i⟩;exact⟨c,Ajo i⟩
end Go.Rd
end
section
namespace Go.Rd
noncomputable def Ns (a:Int):Option (List UInt8) :=
 bd (Ma a 10) fun b =>
 some b
noncomputable def Qd :((List UInt8)×Int)→Option (Stp ((List UInt8)×Int) (Empty)):=fun (c,a) =>
 bd (show Option (Out (Int) (Empty)) from br (Ao ((Int.tmod a 10)<0)) (
 ck (IR (-(Int.tmod a 10))) <|
 some (.go (-(Int.tmod a 10)))) (
 some (.go (Int.tmod a 10)))) fun d=>d.on (fun b =>
 ck (IR (48+b)) <|
 ck (SL ([(bt (48+b))]++c)) <|
 ck (IR (Int.tdiv a 10)) <|
 br ((Int.tdiv a 10)==0) (
 some (.brk (([(bt (48+b))]++c),(Int.tdiv a 10)))) (
 some (.next (([(bt (48+b))]++c),(Int.tdiv a 10))))) (fun r=>r.elim)
noncomputable def Rk (b:Int):Option (List UInt8) :=
 bd (lp (Qd) ([],b)) fun c=>c.on (fun (a,d) =>
 br (Ao (b<0)) (
 ck (SL ([45]++a)) <|
 some ([45]++a)) (
 some a)) (fun r=>r.elim)
theorem Ly {u:Nat} (h:u<10):Lq u=[Pr (48+u)]:=by rw[Lq,dif_pos h]
theorem Va {u:Nat} (h:¬u<10):Lq u=Lq (u / 10)++[Pr (48+u % 10)]:=by rw[Lq,dif_neg h]
theorem Ac8:∀ (k u:Nat),u<10 ^ (k+1)→(Lq u).length≤k+1
 | 0,u,h=>by rw[Ly (by simpa using h)];simp
 | k+1,u,h=>by
  by_cases a:u<10
  ·rw[Ly a];simp
  ·rw[Va a,B2]
   have:=Ac8 k (u / 10) (by rw[Acm] at h;omega);simp only[Dx,Ew];omega
theorem Ag4 {n:Int} (h:InR n):(E5 n).length≤20:=by
 obtain⟨a,b⟩:=h;unfold E5;split
 ·have:=Ac8 18 n.natAbs Aa;simp only[Dx];omega
 ·have:=Ac8 18 n.toNat Aa;omega
theorem Ael {left:Int}{s:List UInt8} (h:InR left) (hs:s.length≤1000) :
  Qd (s,left)=some (if left.natAbs<10 then .brk ([Pr (48+left.natAbs % 10)]++s,0) else .next ([Pr (48+left.natAbs % 10)]++s,Int.tdiv left 10)):=by
 obtain⟨l,n⟩:=h;have i:∃ m:Nat,left.natAbs=m:=⟨_,rfl⟩;obtain⟨m,d⟩:=i
 have key:br (Ao (Int.tmod left 10<0)) (ck (IR (-(Int.tmod left 10)))<|some (Out.go (-(Int.tmod left 10)):Out Int Empty)) (some (.go (Int.tmod left 10)))=some (.go ((m % 10:Nat):Int))∧(Int.tdiv left 10=((m / 10:Nat):Int)∨Int.tdiv left 10=-((m / 10:Nat):Int)):=by
  rcases Int.natAbs_eq left with e | e
  ·rw[d] at e
   have b:Int.tmod left 10=((m % 10:Nat):Int):=by rw[e];exact(Int.ofNat_tmod m 10).symm
   have c:Int.tdiv left 10=((m / 10:Nat):Int):=by rw[e];exact(Akr m 10).symm
   rw[b,Ch Aa];exact⟨rfl,.inl c⟩
  ·rw[d] at e
   have b:Int.tmod left 10=-((m % 10:Nat):Int):=by rw[e,Int.neg_tmod];exact congrArg (- ·) (Int.ofNat_tmod m 10).symm
   have c:Int.tdiv left 10=-((m / 10:Nat):Int):=by rw[e,Int.neg_tdiv];exact congrArg (- ·) (Akr m 10).symm
   rw[b];refine⟨?_,.inr c⟩;by_cases f:m % 10=0
   ·rw[f,Ch Ba];rfl
   ·rw[Ce Aa,Av Aa Aa];simp
 have g:bt (48+((m % 10:Nat):Int))=Pr (48+m % 10):=by
  unfold bt;congr 1;omega
 have j:IR (Int.tdiv left 10):=by rcases key.2 with e | e <;> rw[e] <;> exact⟨Aa,Aa⟩
 have f:(Int.tdiv left 10==0)=Ao (m<10):=by
  by_cases a:m<10
  ·rw[Lr a]
   rcases key.2 with e | e <;> rw[e] <;> simp <;> omega
  ·rw[Wc a]
   rcases key.2 with e | e <;> rw[e] <;> simp <;> omega
 have k:m<10→Int.tdiv left 10=0:=fun a=>by rcases key.2 with e | e <;> rw[e] <;> omega
 unfold Qd;simp only;rw[key.1,bd_ret,Out.on_go,Av Aa Aa,g,A4i (by simp only[B2,Dx,Ew];omega),Au j,f,d];by_cases a:m<10
 ·rw[Ce a,Bg a,k a]
 ·rw[Ch a,Bb a]
theorem Ay1 (left:Int):(Int.tdiv left 10).natAbs=left.natAbs / 10:=by
 rcases Int.natAbs_eq left with e | e
 ·generalize left.natAbs=m at e
  rw[e,show Int.tdiv (m:Int) 10=((m / 10:Nat):Int) from (Akr m 10).symm];omega
 ·generalize left.natAbs=m at e
  rw[e,Int.neg_tdiv,show Int.tdiv (m:Int) 10=((m / 10:Nat):Int) from (Akr m 10).symm];omega
theorem Ajz:∀ (k:Nat) (left:Int) (s:List UInt8),left.natAbs<10 ^ (k+1)→InR left→s.length+k≤1000→lp Qd (s,left)=some (.go (Lq left.natAbs++s,0))
 | 0,left,s,h,hr,hs=>by
  have e:=Ael hr (by omega:s.length≤1000)
  have a:left.natAbs<10:=by simpa using h
  rw[Bg a,Akw a] at e;rw[C2 e,Ly a]
 | k+1,left,s,h,hr,hs=>by
  have e:=Ael hr (by omega:s.length≤1000);by_cases a:left.natAbs<10
  ·rw[Bg a,Akw a] at e
   rw[C2 e,Ly a]
  ·rw[Bb a] at e
   have b:=Ay1 left;have:=Ajz k (Int.tdiv left 10) ([Pr (48+left.natAbs % 10)]++s) (by rw[b];rw[Acm] at h;omega) (by unfold InR at hr ⊢;omega) (by simp only[B2,Dx,Ew];omega);rw[Bz e this,Va a,b,Gw]
theorem Apd {n:Int} (h:InR n):Rk n=some (E5 n):=by
 have e:=Ajz 18 n [] (by unfold InR at h;omega) h Ba;have b:=Ac8 18 n.natAbs (by unfold InR at h;omega);unfold Rk E5;rw[e,bd_ret,Out.on_go,Nl];dsimp only;by_cases a:n<0
 ·rw[Ce a,Bg a,A4i (by simp only[B2,Dx,Ew];omega)];rfl
 ·rw[Ch a,Bb a,show n.natAbs=n.toNat from Aa]
theorem Ayq {n:Int} (h:InR n):Ago n=some (E5 n):=Au h
theorem Azr {n:Int} (h:InR n):Ns n=some (E5 n):=by unfold Ns Ma;rw[Au ⟨h,rfl⟩,bd_ret]
def Auk (r:Rf):List UInt8:=35::(E5 r.st++if r.bk=0 then [] else 126::E5 r.bk)
def Aq1 (s:Stm):List UInt8:=E5 s.ar++32::(E5 s.sp++32::E5 s.pl)
def A00 (s:Stm):List UInt8 :=
 if s.op=1 then [99,111,110,115,116,32]++E5 s.n else if s.op=2 then [116,117,114,110] else if s.op=3 then [108,111,97,100,32]++Aq1 s
 else if s.op=4 then [115,116,111,114,101,32]++(Aq1 s++32::Auk s.a) else ele opsW (s.op - 11)++32::(Auk s.a++32::Auk s.b)
structure StmNum (s:Stm):Prop where
 r:s.InR
 a0:s.op=4∨s.op>10→0≤s.a.bk
 b0:s.op>10→0≤s.b.bk
 op:s.op=1∨s.op=2∨s.op=3∨s.op=4∨(11≤s.op∧s.op≤18)
theorem A0w:Ab5 [97,100,100,32,115,117,98,32,109,117,108,32,97,110,100,32,111,114,32,120,111,114,32,108,101,115,115,32,115,97,109,101]=some opsW:=Au (c:=_=opsT) rfl
def arrT (n:Int):List UInt8:=[97,114,114,97,121,32]++(E5 n++[10])
def lnT (s:Stm):List UInt8:=A00 s++[10]
def outT (n:Int):List UInt8:=[111,117,116,32]++(E5 n++[10])
def U0 (l:Lp):List UInt8:=((l.logs.map arrT).flatten++(l.body.map lnT).flatten)++(l.outs.map outT).flatten
end Go.Rd
end
section
namespace Go.Rd
open Go.RowKit
theorem Ve (l:List UInt8):(Nj l.toArray).size=l.length:=by simp[ByteArray.size]
theorem Ex (l:List UInt8):(Nj l.toArray).data.toList=l:=Ba
def Sx (s a:List UInt8):Option (List (List UInt8)):=ck (s.length<4294967281∧1≤a.length) (some (Us s a))
def As5 (s a:List UInt8):Option (List UInt8×List UInt8×Bool):=ck (s.length<4294967281) (some (Lib.cut s a))
def Jl (s p:List UInt8):Option (List UInt8):=some (Ru s p)
def Mb (s p:List UInt8):Option (List UInt8×Bool):=some (Ru s p,Og s p)
def Aq2 (B:Nat) (s:List UInt8):Int×Bool :=
 match R3 B s with
 | .ok v=>(v,Ay)
 | .range=>(Lib.intSat B s,true)
 | _=>(0,true)
def Vz (s:List UInt8) (b z:Int):Option (Int×Bool):=ck ((b=10∧z=64)∧s.length≤281474976710656) (some (Aq2 64 s))
def Aqe (v:Ak) (b:Bool):Prop:=if b=true then ∃ t p,v=.iface t p else v=.nilIface
section
variable {P : Bu} {n : Nat} {σ : Env} {d : Option Tmp} {T U : TypeId} {pos : String} {after : Array Edge} {gd : Option (Nat × Bool)} {x : Eb} {g : Bool} {v : Ak} {b : Bool} {ms : Array (String × TypeId)}
theorem Ajc {w:Aj} (e:Nat) (h:P.underlying U=some (.interface ms)) (a:Aqe v b):(Td (e+1) U v .nilIface).run P w=.ok (!b) w:=by
 cases b with
 | true=>obtain⟨t,p,rfl⟩:=a;simp[Td,Ev h]
 | false=>obtain rfl:v=.nilIface:=a;simp[Td,Ev h]
theorem Awj {C:Aj→Prop}{z:TypeId} (j:P.underlying U=some (.interface ms)) (m:σ.ev x=some (g,v)) (l:g=true) (c:Aqe v b) :
  QV P ⟨d,.binOp .eql U x (.const .nilIface) z,T,pos,after,gd⟩ σ C (.bool (!b)):=.of_run fun n a k w o=>by
 have e:=k.ev m l;have f:a.eval (.const .nilIface)=.nilIface:=rfl
 have h:(eqGuard .eql U x (.const .nilIface) v .nilIface).run P w=.ok () w:=by
  cases b with
  | true=>obtain⟨t,p,rfl⟩:=c;simp[eqGuard]
  | false=>obtain rfl:v=.nilIface:=c;rw[eqGuard_nil_constR];rfl
 have i:(binOp .eql U v .nilIface).run P w=.ok (.bool (!b)) w:=by
  simp only[binOp];simp[Op.equal,Op.maxDepth,Ajc (P:=P) (w:=w) 9999 j c]
 simp only[execOp,e,f,Tq,h,i,Ts,Tg]
theorem Awh {C:Aj→Prop}{z:TypeId} (j:P.underlying U=some (.interface ms)) (m:σ.ev x=some (g,v)) (l:g=true) (c:Aqe v b) :
  QV P ⟨d,.binOp .neq U x (.const .nilIface) z,T,pos,after,gd⟩ σ C (.bool b):=.of_run fun n a k w o=>by
 have e:=k.ev m l;have f:a.eval (.const .nilIface)=.nilIface:=rfl
 have h:(eqGuard .neq U x (.const .nilIface) v .nilIface).run P w=.ok () w:=by
  cases b with
  | true=>obtain⟨t,p,rfl⟩:=c;simp[eqGuard]
  | false=>obtain rfl:v=.nilIface:=c;rw[eqGuard_nil_constR];rfl
 have i:(binOp .neq U v .nilIface).run P w=.ok (.bool b) w:=by
  simp only[binOp];simp[Op.equal,Op.maxDepth,Ajc (P:=P) (w:=w) 9999 j c]
 simp only[execOp,e,f,Tq,h,i,Ts,Tg]
end
section
variable {P : Bu} {n : Nat} {σ : Env} {C : Aj → Prop} {d : Option Tmp} {T U : TypeId} {pos : String} {after : Array Edge} {gd : Option (Nat × Bool)} {x lo hi : Eb} {g g' g'' : Bool} {l : List UInt8} {k k' : IntKind} {i j : Int}
theorem Aps (l:List UInt8) (i j:Int) (a:0≤i) (b:i≤j):(Nj l.toArray).extract i.toNat j.toNat=Nj (Rd.sub l i j).toArray:=by
 have e:((Nj l.toArray).extract i.toNat j.toNat).data.toList=Rd.sub l i j:=by
  rw[Lib.extract_data,Ex];unfold Rd.sub;rw[show j.toNat - i.toNat=(j - i).toNat from Aa]
 rw[←e]
theorem A3b (b:P.underlying U=some .string) (q:σ.ev x=some (g,Cs l)) (m:g=true) (p:σ.ev hi=some (g'',.int k' j)) (o:g''=true) (h:SX 0 j (ln l)) :
  QV P ⟨d,.slice U x none (some hi) none,T,pos,after,gd⟩ σ C (Cs (Rd.sub l 0 j)):=.of_run fun n a c w r=>by
 have f:=run_slice_string_to_if (P:=P) w U ⟨l.toArray⟩ k' j b;have e:=Aps l 0 j (E6 _) h.2.1;rw[Bg ⟨h.2.1,by rw[Ve];exact h.2.2⟩,show (0:Nat)=(0:Int).toNat from rfl,e] at f;simp[execOp,c.ev q m,c.ev p o,Cs,run_sliceAt_string _ _ _ _ _ _ b,f]
end
def Afo (b:Nat) (i:Int):List Ak:=[.pointer (some ⟨b,i.toNat,none⟩)]
theorem Aje {b:Nat}:∀ u:Int,(Afo b u).length=1:=fun _=>rfl
def Zi (ns:List Int):Stm:=⟨ns.getD 0 0,⟨ns.getD 1 0,ns.getD 2 0⟩,⟨ns.getD 3 0,ns.getD 4 0⟩,ns.getD 5 0,ns.getD 6 0,ns.getD 7 0,ns.getD 8 0⟩
theorem Apf {ns:List Int} (h:ns.length=9):ns.map Dz=(Zi ns).cells:=by
 match ns,h with
 | [_,_,_,_,_,_,_,_,_],_=>rfl
section
variable {P : Bu} {n : Nat} {σ : Env} {M : Nat → Prop} {w0 : Aj} {H : List Res} {T U E : TypeId} {pos : String} {after : Array Edge} {gd : Option (Nat × Bool)} {x y : Eb} {g g' : Bool} {v : Ak} {K : Act → Aj → Prop} {Q : Exit → Act → Aj → Prop} {b : Nat}
theorem Asn {xs:List Int} (k:Nat) (i a z2:Int) {q:Addr} (o:σ.ev x=some (g,.pointer (some q))) (e:g=true) (p:σ.ev y=some (g',v)) (f:g'=true) (j:H[k]?=some (blk b (xs.map Dz) E)) (l:q=⟨b,i.toNat,none⟩) (hi:IX i (ln xs)) (h:IX (i+1) (ln xs))
  (m:v.cells=[Dz a,Dz z2].toArray) (hs:Dg P T 2) (kk:WK n K σ (Own M w0 (H.set k (blk b ((upd (upd xs i a) (i+1) z2).map Dz) E)))):EV P n ⟨none,.store T x y,U,pos,after,gd⟩ σ (Own M w0 H) K Q:=by
 have r:=hi.1;have d:=h.2;unfold ln at d;refine EV.store k (vs:=[Dz a,Dz z2]) o e p f j l m hs (by simp;omega) (fun u c=>by simp at c;rcases c with rfl | rfl <;> rfl) ?_;rw[show Nh (xs.map Dz) i.toNat [Dz a,Dz z2]=(upd (upd xs i a) (i+1) z2).map Dz from by simp[Nh,upd,List.map_set,show (i+1).toNat=i.toNat+1 from Aa]];exact kk
theorem X0 {fn:Func}{R:Ending→Aj→Prop}{C:Aj→Prop}{ty j:TypeId}{p e sz sz2:Nat}{q i:Addr}{cs cs2:List Ak} (B:fn.results=#[.cell p ty,.cell e j]) (m:Rs P ty sz) (t:cs.length=sz) (z:σ.look p=some (true,.pointer (some q))) (r:∀ w,C w→CellsAt w q cs 0)
  (o:Rs P j sz2) (u:cs2.length=sz2) (A:σ.look e=some (true,.pointer (some i))) (s:∀ w,C w→CellsAt w i cs2 0)
  (h:∀ w,C w→R (.returned (.tuple #[.agg cs.toArray,.agg cs2.toArray])) w):WK n (bodyPost P fn R .ret) σ C:=fun a w c d=>by
 refine⟨c.defers,_,?_,h w d⟩;have f:=c.look p true _ z;have a2:=c.look e true _ A;simp at f a2;have k:=Jo (P:=P) m t (r w d);have l:=Jo (P:=P) o u (s w d);simp[results,B,f,a2,asAddr,k,l]
end
open Go.Proofs Go.Shelf in
theorem Au5 {P : Bu} {ρ : Ren} (L : Lays.n146 P ρ) (x : (P.info? (ρ.t 9)).map (fun i => (i.zero, i.size, i.bytes)) = some (some (.string ByteArray.empty), 1, 16)) (v : P.globalNamed "internal/bytealg.MaxLen" = some (ρ.g 1)) {s a : List UInt8} {r : List (List UInt8)} {h : Aj} (z : Sx s a = some r) (M : Nat → Prop) (w : Aj) (u : GlbM P M w) (y : Base M h w) (C : Own M w [] w) :
  Calls P (ρ.f 146) #[Cs s, Cs a] w (fun e w' => ∃ X : Ak × Aj, e = .returned (X.1) ∧ Own M w (kn M w.heap.size h X.2 :: []) w' ∧ Arr X.2 X.1 1 (r.map Wi)) := by
 obtain⟨⟨o, j⟩, p⟩ := Qb z;obtain rfl := Ad p;obtain⟨mx, A⟩ := u.glb.mx _ v;refine(Any.strings_Split L x ⟨s.toArray⟩ ⟨a.toArray⟩ mx w (by rw[Ve]; exact o) A (by rw[Ve]; exact j)).mono ?_;rintro e w' ⟨m, d⟩;have c := Lib.splitB_data ⟨a.toArray⟩ 0 (Lib.countB ⟨s.toArray⟩ ⟨a.toArray⟩) ⟨s.toArray⟩;rw[Ex, Ex] at c
 have k : Lib.countB ⟨s.toArray⟩ ⟨a.toArray⟩ = Lib.count s a := by unfold Lib.countB; rw[Ex, Ex]
 rw[k] at c m d;have l : (Lib.splitB ⟨a.toArray⟩ 0 (Lib.count s a) ⟨s.toArray⟩).map (·.data.toList) = Us s a := c
 have B : (Lib.splitB ⟨a.toArray⟩ 0 (Lib.count s a) ⟨s.toArray⟩).map Acl = (Us s a).map fun (q : List UInt8) => Acl ⟨q.toArray⟩ := by
  rw[← l, List.map_map];exact Aql fun b _ => Ba
 have n : (Us s a).length = Lib.count s a + 1 := by
  rw[← l, Ge];have := Lib.splitB_all ⟨a.toArray⟩ (by rw[Ve]; exact j) 0 _ ⟨s.toArray⟩ rfl;rw[k] at this;exact this
 rw[B] at d;have H : Lib.count s a ≤ s.length + 1 := Lib.count_le _ _;obtain⟨X, E, F, G⟩ := Ai5 (Us s a) y C (by rw[n]; show _ ≤ 9223372036854775807; omega) d;exact⟨X, by rw[m, ← E, n], F, G⟩
theorem Asb (w:Aj) (k:Nat):Grow w (w.drewN k):=.of ⟨rfl,rfl,rfl,Cf _,fun _ _=>rfl⟩ (by simp[World.drewN])
open Go.Proofs Go.Shelf in
theorem A22 {P : Bu} {ρ : Ren} (L : Lays.n145 P ρ) (i : P.globalNamed "internal/bytealg.MaxLen" = some (ρ.g 1)) {s a : List UInt8} {r : List UInt8 × List UInt8 × Bool} (w : Aj) (j : As5 s a = some r) (h : Glb P w) : Calls P (ρ.f 145) #[Cs s, Cs a] w (fun e w' => e = .returned (.tuple #[Cs r.1, Cs r.2.1, .bool r.2.2]) ∧ Grow w w') := by
 obtain⟨c, d⟩ := Qb j;obtain rfl := Ad d;obtain⟨mx, l⟩ := h.mx _ i;refine(Any.strings_Cut L ⟨s.toArray⟩ ⟨a.toArray⟩ mx w (by rw[Ve]; exact c) l).mono ?_;rintro e w' ⟨b, k, rfl⟩;rw[Ex, Ex] at b;exact⟨b, Asb w k⟩
open Go.Proofs Go.Shelf in
theorem Ayy {P:Bu}{ρ:Ren} (L:Lays.n101 P ρ) {s p r:List UInt8} (w:Aj) (b:Jl s p=some r):Calls P (ρ.f 101) #[Cs s,Cs p] w (fun e w'=>e=.returned (Cs r)∧Grow w w'):=by
 obtain rfl:=Ad b;refine(Any.strings_TrimPrefix L ⟨s.toArray⟩ ⟨p.toArray⟩ w).mono ?_;rintro e w' ⟨a,c⟩;rw[Ex,Ex] at a;exact⟨a,Ajr c⟩
open Go.Proofs Go.Shelf in
theorem A0d {P:Bu}{ρ:Ren} (L:Lays.n103 P ρ) {s p:List UInt8}{r:List UInt8×Bool} (w:Aj) (b:Mb s p=some r):Calls P (ρ.f 103) #[Cs s,Cs p] w (fun e w'=>e=.returned (.tuple #[Cs r.1,.bool r.2])∧Grow w w'):=by
 obtain rfl:=Ad b;refine(Any.strings_CutPrefix L ⟨s.toArray⟩ ⟨p.toArray⟩ w).mono ?_;rintro e w' ⟨a,c⟩;rw[Ex,Ex] at a;exact⟨a,Ajr c⟩
section
open Go.Proofs Go.Shelf
variable {P : Bu} {ρ : Ren}
set_option maxHeartbeats 4000000 in
set_option maxRecDepth 100000 in
theorem Ahx (L:LaysM.n316 P ρ) (s:ByteArray) (w:Aj) (F:s.size≤281474976710656):Calls P (ρ.f 316) #[.string s] w fun e w'=>e=.returned (.string s)∧Grow w w':=by
 have mixed:=L.mixed;have t5:=L.t5;have a5:=L.a5;have z5:=L.z5;have v5:=L.v5;have t9:=L.t9;have a9:=L.a9;have z9:=L.z9;have v9:=L.v9;have t3:=L.t3;have a3:=L.a3;have z3:=L.z3;have v3:=L.v3;have t4:=L.t4;have a4:=L.a4;have z4:=L.z4;have v4:=L.v4;have t37:=L.t37;have a37:=L.a37;have z37:=L.z37;have v37:=L.v37;have t0:=L.t0;have a0:=L.a0;have z0:=L.z0;have v0:=L.v0;have t127:=L.t127;have a127:=L.a127;have z127:=L.z127;have v127:=L.v127;rcases Akz s.size with a | a
 ·obtain rfl:s=⟨#[]⟩:=ByteArray.ext (Array.eq_empty_of_size_eq_zero a)
  go_enter L.f316,Body.n316_ntmps ρ;go_wp2;go_ret;exact⟨rfl,Anb _⟩
 ·obtain⟨i0,hi,z,d,A⟩:=info_parts L.i5
  have v:(P.info? (ρ.t 5)).map (·.size)=some 1:=by rw[hi];simp[d]
  have u:P.cellsOf (ρ.t 5)=1:=by simp[Program.cellsOf,hi,d]
  obtain⟨Z,c⟩:∃ Z,madeCells (Value.int .u8 0).cells (((s.size:Nat):Int).toNat * i0.size)=Z:=⟨_,rfl⟩
  have C:Z.size=s.size:=by rw[←c,size_madeCells,d];simp
  have G:∀ W:Aj,(Instr.makeSlice (ρ.t 37) (.int .i64 (s.size:Int)) (.int .i64 (s.size:Int))).run P W=.ok (.slice (some ⟨W.heap.size,0,none⟩) s.size s.size) (W.alloc (.cells Z (ρ.t 5))):=fun W=>by
   have h:=run_make (P:=P) W (ρ.t 37) (ρ.t 5) i0 (.int .u8 0) L.t37 hi z .i64 .i64 (s.size:Int) (s.size:Int) Aa Aa (by rw[A];omega) Aa;rw[c] at h;simpa using h
  clear c;obtain⟨w1,m⟩:∃ w1,w.alloc (.cells Z (ρ.t 5))=w1:=⟨_,rfl⟩
  have l:w1.heap[w.heap.size]?=some (.cells Z (ρ.t 5) (0,0)):=by rw[←m];exact Acq w _
  have q:=Lib.run_copy_row_string (P:=P) w1 (ρ.t 37) (ρ.t 9) (ρ.t 3) (ρ.t 5) w.heap.size 0 s.size s.size s Z (ρ.t 5) L.t37 v l (Cf _) Aa;obtain⟨Y,b⟩:∃ Y,(Z.toList.take 0++Lib.byteCells s.data.toList++Z.toList.drop (0+s.size)).toArray=Y:=⟨_,rfl⟩;rw[b] at q
  have g:Y.toList=Lib.byteCells s.data.toList:=by
   rw[←b,List.toList_toArray,List.take_zero,Ww,List.drop_of_length_le (by rw[Z6];omega),Nl]
  have i:(w1.setRow w.heap.size Y).heap[w.heap.size]?=some (.cells Y (ρ.t 5) (0,0)):=setRow_heap _ _ Z _ (ρ.t 5) (0,0) l
  have B:Y.size=s.size:=by rw[←Z6,g,Lib.byteCells_length,←Afv]
  have r:s.data.toList≠[]:=fun e=>by rw[Afv,e] at a;exact absurd a Ba
  have n:=Lib.run_unsafeString_row (P:=P) (w1.setRow w.heap.size Y) (ρ.t 127) (ρ.t 3) (ρ.t 9) (ρ.t 5) L.t127 u w.heap.size Y.size (by unfold World.shape?;rw[i]) s.data.toList r (by rw[←Afv];omega) (by rw[←Afv];omega)
   (fun j x y=>Lib.cells_of_row i Y.size j _ (by rw[Wf (by rw[Z6];exact Cf _),g];simp[Lib.byteCells,y]))
  rw[←Afv] at n;clear b;subst m;go_enter L.f316,Body.n316_ntmps ρ;go_wp2;go_ret;have o:Below w.heap.size w ((w.alloc (.cells Z (ρ.t 5))).setRow w.heap.size Y):=((Below.refl _ w).alloc (Cf _) _).trans ⟨rfl,rfl,rfl,Ba,fun k E=>setRow_other _ _ _ _ Aa⟩;exact⟨rfl,.of (Lib.below_freeze o (p:=⟨w.heap.size,0,none⟩) (Cf _) _) (by rw[V4];exact Cf _)⟩
theorem Ajy (w:Aj):Grow w w.drew:=.of ⟨rfl,rfl,rfl,Cf _,fun _ _=>rfl⟩ (Nat.le_succ _)
set_option maxHeartbeats 6400000 in
set_option maxRecDepth 100000 in
theorem Ape (L:LaysM.n279 P ρ) (fn s:ByteArray) (te:TypeId) (a:Ak) (w:Aj) (h:s.size≤281474976710656) (c:w.cell? ⟨(ρ.g 15),0,none⟩=some (.iface te a)) :
  Calls P (ρ.f 279) #[.string fn,.string s] w fun e w'=>∃ N,e=.returned (.pointer (some ⟨N,0,none⟩))∧Grow w w':=by
 have mixed:=L.mixed;have t9:=L.t9;have a9:=L.a9;have z9:=L.z9;have v9:=L.v9;have t168:=L.t168;have a168:=L.a168;have z168:=L.z168;have v168:=L.v168;have t75:=L.t75;have a75:=L.a75;have z75:=L.z75;have v75:=L.v75;have t210:=L.t210;have l:=Ev L.t210;have a210:=L.a210;have z210:=L.z210;have v210:=L.v210;have j:∀ args w,(callFunc (ρ.f 316) args).run P w=.ok (.enter (ρ.f 316) args) w:=enters_of L.f316 Ag rfl;have d:(ρ.g 15)<w.heap.size:=Acr c;have i:w.drew.cell? ⟨(ρ.g 15),0,none⟩=some (.iface te a):=c;go_enter L.f279,Body.n279_ntmps ρ;go_wp2
 go_region_with_o (
   go_at_fn (ρ.f 316);refine(Ahx { L with } s _ h).mono ?_;rintro e w2 ⟨rfl,b⟩
   have k:w2.cell? ⟨(ρ.g 15),0,none⟩=some (.iface te a):=(b.cell (show (⟨(ρ.g 15),0,none⟩:Addr).block<w.drew.heap.size from d)).trans i)
 all_goals (
  go_wp2;go_ret
  exact⟨_,rfl,((Ajy w).trans b).trans (Ap2 _)⟩)
set_option maxHeartbeats 6400000 in
set_option maxRecDepth 100000 in
theorem Apj (L:LaysM.n280 P ρ) (fn s:ByteArray) (te:TypeId) (a:Ak) (w:Aj) (h:s.size≤281474976710656) (c:w.cell? ⟨(ρ.g 16),0,none⟩=some (.iface te a)) :
  Calls P (ρ.f 280) #[.string fn,.string s] w fun e w'=>∃ N,e=.returned (.pointer (some ⟨N,0,none⟩))∧Grow w w':=by
 have mixed:=L.mixed;have t9:=L.t9;have a9:=L.a9;have z9:=L.z9;have v9:=L.v9;have t168:=L.t168;have a168:=L.a168;have z168:=L.z168;have v168:=L.v168;have t75:=L.t75;have a75:=L.a75;have z75:=L.z75;have v75:=L.v75;have t210:=L.t210;have l:=Ev L.t210;have a210:=L.a210;have z210:=L.z210;have v210:=L.v210;have j:∀ args w,(callFunc (ρ.f 316) args).run P w=.ok (.enter (ρ.f 316) args) w:=enters_of L.f316 Ag rfl;have d:(ρ.g 16)<w.heap.size:=Acr c;have i:w.drew.cell? ⟨(ρ.g 16),0,none⟩=some (.iface te a):=c;go_enter L.f280,Body.n280_ntmps ρ;go_wp2
 go_region_with_o (
   go_at_fn (ρ.f 316);refine(Ahx { L with } s _ h).mono ?_;rintro e w2 ⟨rfl,b⟩
   have k:w2.cell? ⟨(ρ.g 16),0,none⟩=some (.iface te a):=(b.cell (show (⟨(ρ.g 16),0,none⟩:Addr).block<w.drew.heap.size from d)).trans i)
 all_goals (
  go_wp2;go_ret
  exact⟨_,rfl,((Ajy w).trans b).trans (Ap2 _)⟩)
set_option maxHeartbeats 4000000 in
set_option maxRecDepth 100000 in
theorem Ai1 (L:LaysC.n245 P ρ) (fn s:ByteArray) (base bits:Int) (te:TypeId) (a:Ak) (w:Aj) (c:s.size≤281474976710656) (d:w.cell? ⟨(ρ.g 15),0,none⟩=some (.iface te a)) :
  Calls P (ρ.f 245) #[.string fn,.string s,.int .i64 base,.int .i64 bits,.iface (ρ.t 167) (.int .i64 2)] w fun e w'=>∃ N,e=.returned (.iface (ρ.t 168) (.pointer (some ⟨N,0,none⟩)))∧Grow w w':=by
 have mixed:=L.mixed;have t9:=L.t9;have a9:=L.a9;have z9:=L.z9;have v9:=L.v9;have t3:=L.t3;have a3:=L.a3;have z3:=L.z3;have v3:=L.v3;have t75:=L.t75;have a75:=L.a75;have z75:=L.z75;have v75:=L.v75;have t167:=L.t167;have a167:=L.a167;have z167:=L.z167;have v167:=L.v167;have t4:=L.t4;have a4:=L.a4;have z4:=L.z4;have v4:=L.v4;have t168:=L.t168;have a168:=L.a168;have z168:=L.z168;have v168:=L.v168;have ent:∀ args w,(callFunc (ρ.f 279) args).run P w=.ok (.enter (ρ.f 279) args) w:=enters_of L.f279 Ag rfl;have h:∀ W,(binOp .eql (ρ.t 75) (.iface (ρ.t 167) (.int .i64 2)) (.iface (ρ.t 167) (.int .i64 2))).run P W=.ok (.bool true) W:=fun W=>Aqp W 2 2 L.t75 L.c167 L.t167;go_enter L.f245,Body.n245_ntmps ρ;go_wp2_with (go_at_fn (ρ.f 279);refine(Ape { L with } fn s te a _ c ?_).mono ?_)
 ·exact d
 rintro e w2 ⟨N,rfl,b⟩;go_wp2;go_ret;exact⟨N,rfl,b⟩
set_option maxHeartbeats 4000000 in
set_option maxRecDepth 100000 in
theorem Ai2 (L:LaysC.n245 P ρ) (fn s:ByteArray) (base bits:Int) (te:TypeId) (a:Ak) (w:Aj) (c:s.size≤281474976710656) (d:w.cell? ⟨(ρ.g 16),0,none⟩=some (.iface te a)) :
  Calls P (ρ.f 245) #[.string fn,.string s,.int .i64 base,.int .i64 bits,.iface (ρ.t 167) (.int .i64 1)] w fun e w'=>∃ N,e=.returned (.iface (ρ.t 168) (.pointer (some ⟨N,0,none⟩)))∧Grow w w':=by
 have mixed:=L.mixed;have t9:=L.t9;have a9:=L.a9;have z9:=L.z9;have v9:=L.v9;have t3:=L.t3;have a3:=L.a3;have z3:=L.z3;have v3:=L.v3;have t75:=L.t75;have a75:=L.a75;have z75:=L.z75;have v75:=L.v75;have t167:=L.t167;have a167:=L.a167;have z167:=L.z167;have v167:=L.v167;have t4:=L.t4;have a4:=L.a4;have z4:=L.z4;have v4:=L.v4;have t168:=L.t168;have a168:=L.a168;have z168:=L.z168;have v168:=L.v168;have ent:∀ args w,(callFunc (ρ.f 280) args).run P w=.ok (.enter (ρ.f 280) args) w:=enters_of L.f280 Ag rfl;have i:∀ W,(binOp .eql (ρ.t 75) (.iface (ρ.t 167) (.int .i64 1)) (.iface (ρ.t 167) (.int .i64 2))).run P W=.ok (.bool Ay) W:=fun W=>Aqp W 1 2 L.t75 L.c167 L.t167;have h:∀ W,(binOp .eql (ρ.t 75) (.iface (ρ.t 167) (.int .i64 1)) (.iface (ρ.t 167) (.int .i64 1))).run P W=.ok (.bool true) W:=fun W=>Aqp W 1 1 L.t75 L.c167 L.t167;go_enter L.f245,Body.n245_ntmps ρ;go_wp2_with (go_at_fn (ρ.f 280);refine(Apj { L with } fn s te a _ c ?_).mono ?_)
 ·exact d
 rintro e w2 ⟨N,rfl,b⟩;go_wp2;go_ret;exact⟨N,rfl,b⟩
theorem P5 (w:Aj) (e:TypeId) (s:ByteArray):Grow w (Lib.bytesWorld w e s):=.of (Lib.bytesWorld_below _ _ _) (by unfold Lib.bytesWorld;rw[V4];exact Nat.le_succ _)
set_option maxHeartbeats 4000000 in
set_option maxRecDepth 100000 in
theorem Avg (L:LaysC.n174 P ρ) (s:ByteArray) (te:TypeId) (b:Ak) (w:Aj) (l:s.size≤281474976710656) (h:R3 64 s.data.toList=R3 64 []) (d:w.cell? ⟨(ρ.g 15),0,none⟩=some (.iface te b)) :
  Calls P (ρ.f 174) #[.string s,.int .i64 10,.int .i64 64] w fun e w'=>∃ N,e=.returned (.tuple #[.int .i64 (0),.iface (ρ.t 168) (.pointer (some ⟨N,0,none⟩))])∧Grow w w':=by
 have mixed:=L.mixed;have t9:=L.t9;have a9:=L.a9;have z9:=L.z9;have v9:=L.v9;have t3:=L.t3;have a3:=L.a3;have z3:=L.z3;have v3:=L.v3;have t2:=L.t2;have a2:=L.a2;have z2:=L.z2;have v2:=L.v2;have t75:=L.t75;have a75:=L.a75;have z75:=L.z75;have v75:=L.v75;have t85:=L.t85;have a85:=L.a85;have z85:=L.z85;have v85:=L.v85;have t4:=L.t4;have a4:=L.a4;have z4:=L.z4;have v4:=L.v4;have q:∀ args w,(callFunc (ρ.f 247) args).run P w=.ok (.enter (ρ.f 247) args) w:=enters_of L.f247 Ag rfl;have p:∀ args w,(callFunc (ρ.f 245) args).run P w=.ok (.enter (ρ.f 245) args) w:=enters_of L.f245 Ag rfl;have a:=Any.internal_strconv_ParseInt_10_all64 { L with } s Aa w;rw[h] at a;generalize Lib.intSat 64 s.data.toList=sat at a ⊢
 have a:Calls P (ρ.f 247) #[.string s,.int .i64 10,.int .i64 64] w fun e w'=>e=.returned (.tuple #[.int .i64 (0),.iface (ρ.t 167) (.int .i64 2)])∧Grow w w':=a.mono fun e w' ⟨k,n⟩=>⟨k,by
  rcases n with rfl | ⟨t,rfl⟩
  ·exact Anb _
  ·exact P5 _ _ _⟩
 clear h;go_enter L.f174,Body.n174_ntmps ρ;go_wp2_with (go_at_fn (ρ.f 247);refine a.mono ?_);rintro e i ⟨rfl,c⟩;have m:i.cell? ⟨(ρ.g 15),0,none⟩=some (.iface te b):=(c.cell (show (⟨(ρ.g 15),0,none⟩:Addr).block<w.heap.size from Acr d)).trans d;go_wp2_with (go_at_fn (ρ.f 245);refine(Ai1 { L with } ⟨#[80,97,114,115,101,73,110,116]⟩ s 10 64 te b _ l ?_).mono ?_)
 ·exact m
 rintro e o ⟨N,rfl,j⟩;go_wp2;go_ret2;exact⟨N,rfl,c.trans j⟩
set_option maxHeartbeats 4000000 in
set_option maxRecDepth 100000 in
theorem Avh (L:LaysC.n174 P ρ) (s:ByteArray) (te:TypeId) (b:Ak) (w:Aj) (l:s.size≤281474976710656) (h:R3 64 s.data.toList=.range) (d:w.cell? ⟨(ρ.g 16),0,none⟩=some (.iface te b)) :
  Calls P (ρ.f 174) #[.string s,.int .i64 10,.int .i64 64] w fun e w'=>∃ N,e=.returned (.tuple #[.int .i64 (Lib.intSat 64 s.data.toList),.iface (ρ.t 168) (.pointer (some ⟨N,0,none⟩))])∧Grow w w':=by
 have mixed:=L.mixed;have t9:=L.t9;have a9:=L.a9;have z9:=L.z9;have v9:=L.v9;have t3:=L.t3;have a3:=L.a3;have z3:=L.z3;have v3:=L.v3;have t2:=L.t2;have a2:=L.a2;have z2:=L.z2;have v2:=L.v2;have t75:=L.t75;have a75:=L.a75;have z75:=L.z75;have v75:=L.v75;have t85:=L.t85;have a85:=L.a85;have z85:=L.z85;have v85:=L.v85;have t4:=L.t4;have a4:=L.a4;have z4:=L.z4;have v4:=L.v4;have q:∀ args w,(callFunc (ρ.f 247) args).run P w=.ok (.enter (ρ.f 247) args) w:=enters_of L.f247 Ag rfl;have p:∀ args w,(callFunc (ρ.f 245) args).run P w=.ok (.enter (ρ.f 245) args) w:=enters_of L.f245 Ag rfl;have a:=Any.internal_strconv_ParseInt_10_all64 { L with } s Aa w;rw[h] at a;generalize Lib.intSat 64 s.data.toList=sat at a ⊢
 have a:Calls P (ρ.f 247) #[.string s,.int .i64 10,.int .i64 64] w fun e w'=>e=.returned (.tuple #[.int .i64 (sat),.iface (ρ.t 167) (.int .i64 1)])∧Grow w w':=a.mono fun e w' ⟨k,n⟩=>⟨k,by
  rcases n with rfl | ⟨t,rfl⟩
  ·exact Anb _
  ·exact P5 _ _ _⟩
 clear h;go_enter L.f174,Body.n174_ntmps ρ;go_wp2_with (go_at_fn (ρ.f 247);refine a.mono ?_);rintro e i ⟨rfl,c⟩;have m:i.cell? ⟨(ρ.g 16),0,none⟩=some (.iface te b):=(c.cell (show (⟨(ρ.g 16),0,none⟩:Addr).block<w.heap.size from Acr d)).trans d;go_wp2_with (go_at_fn (ρ.f 245);refine(Ai2 { L with } ⟨#[80,97,114,115,101,73,110,116]⟩ s 10 64 te b _ l ?_).mono ?_)
 ·exact m
 rintro e o ⟨N,rfl,j⟩;go_wp2;go_ret2;exact⟨N,rfl,c.trans j⟩
theorem Am4 (L:LaysC.n174 P ρ) {s:List UInt8}{b z:Int}{r:Int×Bool}{a:Aj} (x:Vz s b z=some r) (M:Nat→Prop) (w:Aj) (n:GlbM P M w) (u:Base M a w) (A:Own M w [] w) :
  Calls P (ρ.f 174) #[Cs s,.int .i64 b,.int .i64 z] w (fun e w'=>∃ X:Ak×Aj,e=.returned (.tuple #[.int .i64 r.1,X.1])∧Own M w (kn M w.heap.size a X.2::[]) w'∧Aqe X.1 r.2):=by
 obtain⟨⟨⟨rfl,rfl⟩,p⟩,q⟩:=Qb x;obtain rfl:=Ad q;have hs:=Aw u A;have k:∀ {w'},Grow w w'→Own M w (kn M w.heap.size a a::[]) w':=fun d=>F1 _ _ hs d
 have o:(Nj s.toArray).size≤281474976710656:=by rw[Ve];exact p
 unfold Aq2
 cases l:R3 64 s with
 | ok v =>
  refine(Any.strconv_ParseInt_10_at64_ok L ⟨s.toArray⟩ Aa v (by rw[Ex];exact l) w).mono ?_;rintro e w' ⟨c,y⟩;refine⟨(.nilIface,a),c,k ?_,rfl⟩;rcases y with rfl | ⟨t,rfl⟩
  ·exact Anb _
  ·exact P5 _ _ _
 | range =>
  obtain⟨te,h,m⟩:=n.glb.rng (by rw[L.m16];rfl)
  have j:w.cell? ⟨(ρ.g 16),0,none⟩=some (.iface te h):=by have i:=Aks L.m16 m 0;simpa using i
  refine(Avh L ⟨s.toArray⟩ te h w o (by rw[Ex];exact l) j).mono ?_;rintro e w' ⟨N,c,d⟩;rw[Ex] at c;exact⟨(_,a),c,k d,⟨_,_,rfl⟩⟩
 | _ =>
  obtain⟨te,h,m⟩:=n.glb.syn (by rw[L.m15];rfl)
  have j:w.cell? ⟨(ρ.g 15),0,none⟩=some (.iface te h):=by have i:=Aks L.m15 m 0;simpa using i
  refine(Avg L ⟨s.toArray⟩ te h w o (by rw[Ex];exact l) j).mono ?_;rintro e w' ⟨N,c,d⟩;exact⟨(_,a),c,k d,⟨_,_,rfl⟩⟩
end
end Go.Rd
end
section
namespace Go.Rd
noncomputable def Kj (s:List UInt8) (most:Int):Option (Int×Bool) :=
 bd (Vz s 10 64) fun a =>
 bdG (!a.2) (Ns a.1) fun x5 =>
 bdG ((!a.2)&&(x5==s)) (Jl s [45]) fun b =>
 some (a.1,(((!a.2)&&(x5==s))&&(Ao ((ln b)≤most))))
noncomputable def Fh (s:List UInt8):Option (Int×Bool) :=
 bd (Kj s 18) fun a =>
 some (a.1,a.2)
noncomputable def Mp (s:List UInt8):Option (Rf×Bool) :=
 bd (Mb s [35]) fun c =>
 bd (As5 c.1 [126]) fun x5 =>
 bd (Fh x5.1) fun a =>
 br x5.2.2 (
 bd (Fh x5.2.1) fun b =>
 some ((Rf.mk a.1 b.1),(c.2&&((a.2&&b.2)&&(Ao (b.1>0)))))) (
 some ((Rf.mk a.1 0),(c.2&&a.2)))
noncomputable def Gq (word:List UInt8) (b:List (List UInt8)):Int→Option (Stp (Int) (Int×List UInt8×Bool)):=fun a =>
 br (Ao (a<(ln b))) (
 ck (IX a (ln b)) <|
 br ((ele b a)==word) (
 ck (IR (10+a)) <|
 ck (IR ((10+a)+1)) <|
 some (.ret (((10+a)+1),[114,114],true))) (
 ck (IR (a+1)) <|
 some (.next (a+1)))) (
 some (.brk a))
noncomputable def Pb (word:List UInt8):Option (Int×List UInt8×Bool) :=
 br (word==[99,111,110,115,116]) (
 some (1,[110],true)) (
 br (word==[116,117,114,110]) (
 some (2,[],true)) (
 br (word==[108,111,97,100]) (
 some (3,[110,110,110],true)) (
 br (word==[115,116,111,114,101]) (
 some (4,[110,110,110,114],true)) (
 bd (Ab5 [97,100,100,32,115,117,98,32,109,117,108,32,97,110,100,32,111,114,32,120,111,114,32,108,101,115,115,32,115,97,109,101]) fun b =>
 bd (lp (Gq word b) 0) fun a=>a.on (fun c =>
 some (0,[],Ay)) (fun r=>some r)))))
noncomputable def C0 (f:List Stm) (words:List (List UInt8)) (x5:Int×List UInt8×Bool):((List Int)×(List Int)×(List Int)×Int)→Option (Stp ((List Int)×(List Int)×(List Int)×Int) (Bool×List Stm)):=fun (d,c,a,b) =>
 br (Ao (b<(ln (sub words 1 (ln words))))) (
 ck (IX b (ln (sub words 1 (ln words)))) <|
 ck (IX b (ln x5.2.1)) <|
 br (((ele x5.2.1 b).toNat:Int)==110) (
 ck (IX 0 (ln c)) <|
 bd (Fh (ele (sub words 1 (ln words)) b)) fun g =>
 ck (IX (ele c 0) (ln d)) <|
 ck (SX 1 (ln c) (ln c)) <|
 br (!g.2) (
 some (.ret (Ay,f))) (
 ck (IR (b+1)) <|
 some (.next ((upd d (ele c 0) g.1),(sub c 1 (ln c)),a,(b+1))))) (
 ck (IX 0 (ln a)) <|
 bd (Mp (ele (sub words 1 (ln words)) b)) fun e =>
 ck (IX (ele a 0) (ln d)) <|
 ck (IX ((ele a 0)+1) (ln d)) <|
 ck (SX 1 (ln a) (ln a)) <|
 br (!e.2) (
 some (.ret (Ay,f))) (
 ck (IR (b+1)) <|
 some (.next ((upd (upd d (ele a 0) e.1.st) ((ele a 0)+1) e.1.bk),c,(sub a 1 (ln a)),(b+1)))))) (
 some (.brk (d,c,a,b)))
noncomputable def Ir (g:List Int) (a:List Stm) (e:List Int) (words:List (List UInt8)):Option (Bool×List Stm) :=
 ck (IX 0 (ln words)) <|
 bd (Pb (ele words 0)) fun x5 =>
 ck ((!(!x5.2.2))=true→IR ((ln words) - 1)) <|
 br (((!x5.2.2) || (((ln words) - 1) != (ln x5.2.1))) || (Ao ((ln e)>0))) (
 some (Ay,a)) (
 br (x5.1==1) (
 ck (IX 1 (ln words)) <|
 bd (Kj (ele words 1) 19) fun c =>
 ck (AL (a++[(Stm.mk x5.1 (Rf.mk 0 0) (Rf.mk 0 0) 0 0 0 c.1)]).length 72) <|
 some (c.2,(a++[(Stm.mk x5.1 (Rf.mk 0 0) (Rf.mk 0 0) 0 0 0 c.1)]))) (
 ck (SX 1 (ln words) (ln words)) <|
 bd (lp (C0 a words x5) (([x5.1,0,0,0,0,0,0,0,0]:List Int),([5,6,7]:List Int),([1,3]:List Int),0)) fun d=>d.on (fun (b,f,h,i) =>
 ck (b.length=9) <|
 ck (AL (a++[(Zi b)]).length 72) <|
 some (true,(a++[(Zi b)]))) (fun r=>some r)))
noncomputable def Is (e:List Int) (d:List Stm) (b:List Int) (s:List UInt8):Option (Bool×List Int×List Stm×List Int) :=
 bd (Sx s [32]) fun a =>
 ck (IX 0 (ln a)) <|
 ck (((ele a 0) != [97,114,114,97,121])=true→IX 0 (ln a)) <|
 br (((ele a 0) != [97,114,114,97,121])&&((ele a 0) != [111,117,116])) (
 bd (Ir e d b a) fun f =>
 some (f.1,e,f.2,b)) (
 br ((ln a) != 2) (
 some (Ay,e,d,b)) (
 ck (IX 1 (ln a)) <|
 bd (Fh (ele a 1)) fun c =>
 ck (IX 0 (ln a)) <|
 br ((ele a 0)==[97,114,114,97,121]) (
 ck ((c.2)=true→IR ((ln d)+(ln b))) <|
 ck (AL (e++[c.1]).length 8) <|
 some ((c.2&&(((ln d)+(ln b))==0)),(e++[c.1]),d,b)) (
 ck (AL (b++[c.1]).length 8) <|
 some (c.2,e,d,(b++[c.1])))))
noncomputable def Hq (b:List (List UInt8)):((List Int)×(List Stm)×(List Int)×Int)→Option (Stp ((List Int)×(List Stm)×(List Int)×Int) (Lp×Flt)):=fun (f,e,d,a) =>
 br (Ao (a<(ln (sub b 0 ((ln b) - 1))))) (
 ck (IX a (ln (sub b 0 ((ln b) - 1)))) <|
 bd (Is d e f (ele (sub b 0 ((ln b) - 1)) a)) fun c =>
 br (!c.1) (
 some (.ret ((Lp.mk [] [] []),(Flt.mk 2 a)))) (
 ck (IR (a+1)) <|
 some (.next (c.2.2.2,c.2.2.1,c.2.1,(a+1))))) (
 some (.brk (f,e,d,a)))
noncomputable def Mq (s:List UInt8):Option (Lp×Flt) :=
 bd (Sx s [10]) fun a =>
 ck (IR ((ln a) - 1)) <|
 ck (SX 0 ((ln a) - 1) (ln a)) <|
 bd (lp (Hq a) ([],[],[],0)) fun e=>e.on (fun (d,c,b,g) =>
 ck (IX ((ln a) - 1) (ln a)) <|
 bdG (!((ele a ((ln a) - 1)) != [])) (Ib (Lp.mk b c d)) fun f =>
 br (((ele a ((ln a) - 1)) != []) || (!f)) (
 some ((Lp.mk [] [] []),(Flt.mk 2 ((ln a) - 1)))) (
 some ((Lp.mk b c d),(Flt.mk 0 0)))) (fun r=>some r)
noncomputable def Gp (s:List UInt8) (d:UInt8):((List (List UInt8))×Int×Int)→Option (Stp ((List (List UInt8))×Int×Int) (Empty)):=fun (c,b,a) =>
 br (Ao (a≤(ln s))) (
 ck ((!(a==(ln s)))=true→IX a (ln s)) <|
 br ((a==(ln s)) || (((ele s a).toNat:Int)==((d).toNat:Int))) (
 ck (SX b a (ln s)) <|
 ck (AL (c++[(sub s b a)]).length 16) <|
 ck (IR (a+1)) <|
 ck (IR (a+1)) <|
 some (.next ((c++[(sub s b a)]),(a+1),(a+1)))) (
 ck (IR (a+1)) <|
 some (.next (c,b,(a+1))))) (
 some (.brk (c,b,a)))
noncomputable def Aep (s:List UInt8) (a:UInt8):Option (List (List UInt8)) :=
 bd (lp (Gp s a) ([],0,0)) fun b=>b.on (fun (c,d,e) =>
 some c) (fun r=>r.elim)
end Go.Rd
end
section
namespace Go.Rd
def spl (c:UInt8):List UInt8→List (List UInt8)
 | []=>[[]]
 | x::r=>if x=c then []::spl c r else match spl c r with
  | []=>[[x]]
  | h::t=>(x::h)::t
theorem U1 {c : UInt8} (s : List UInt8) : spl c s ≠ [] := by
  cases s with
  | nil => simp[spl]
  | cons x r => unfold spl; split; · simp
                split <;> simp
theorem T1 {c:UInt8}:∀ {s:List UInt8},c∉s→spl c s=[s]
 | [],_=>rfl
 | x::r,h=>by
  have a:¬x=c:=fun e=>h (by simp[e]);have b:c∉r:=fun e=>h (by simp[e]);rw[spl,Bb a,T1 b]
theorem Abi {c:UInt8}{post:List UInt8}:∀ {a:List UInt8},c∉a→spl c (a++c::post)=a::spl c post
 | [],_=>by simp[spl]
 | x::r,h=>by
  have b:¬x=c:=fun e=>h (by simp[e]);have d:c∉r:=fun e=>h (by simp[e]);rw[We,spl,Bb b,Abi d]
def Aa8 (c:UInt8):List (List UInt8)→List UInt8
 | []=>[]
 | [a]=>a
 | a::b::r=>a++c::Aa8 c (b::r)
theorem Arf {c x:UInt8}{h:List UInt8}{t:List (List UInt8)}:Aa8 c ((x::h)::t)=x::Aa8 c (h::t):=by cases t <;> rfl
theorem Ys {c:UInt8}:∀ (s:List UInt8),Aa8 c (spl c s)=s
 | []=>rfl
 | x::r=>by
  have b:=Ys (c:=c) r;unfold spl;by_cases h:x=c
  ·subst h
   rw[Bg rfl]
   cases hs:spl x r with
   | nil=>exact absurd hs (U1 r)
   | cons a t=>rw[hs] at b;rw[Aa8,b];rfl
  ·rw[Bb h]
   cases hs:spl c r with
   | nil=>exact absurd hs (U1 r)
   | cons a t=>rw[hs] at b;simp only;rw[Arf,b]
theorem Yi {c:UInt8}:∀ {s p:List UInt8},p∈spl c s→c∉p∧p.length≤s.length
 | [],p,h=>by simp[spl] at h;subst h;simp
 | x::r,p,h=>by
  unfold spl at h;by_cases e:x=c
  ·rw[Bg e] at h
   rcases Gl.1 h with rfl | h
   ·simp
   ·have:=Yi h;exact⟨this.1,by simp only[Dx];omega⟩
  ·rw[Bb e] at h
   cases hs:spl c r with
   | nil=>exact absurd hs (U1 r)
   | cons a t =>
    rw[hs] at h;simp only at h;rcases Gl.1 h with rfl | h
    ·have:=Yi (s:=r) (p:=a) (by rw[hs];simp)
     exact⟨by simp only[Gl,not_or];exact⟨fun h=>e h.symm,this.1⟩,by simp only[Dx];omega⟩
    ·have:=Yi (s:=r) (p:=p) (by rw[hs];simp[h]);exact⟨this.1,by simp only[Dx];omega⟩
theorem Al7 {c:UInt8}:∀ (s:List UInt8),(spl c s).length≤s.length+1
 | []=>by simp[spl]
 | x::r=>by
  have:=Al7 (c:=c) r;unfold spl;split
  ·simp only[Dx];omega
  ·cases hs:spl c r with
   | nil=>simp
   | cons a t=>rw[hs] at this;simp only[Dx] at this ⊢;omega
theorem Vt {c:UInt8}:∀ {s:List UInt8},c∉s→Lib.index s [c]=-1
 | [],_=>rfl
 | x::r,h=>by
  have a:¬x=c:=fun e=>h (by simp[e]);have b:c∉r:=fun e=>h (by simp[e]);unfold Lib.index;rw[Vt b]
  have:(c==x)=Ay:=by simpa using fun e:c=x=>a e.symm
  simp[List.isPrefixOf,this]
theorem Adl {c:UInt8}{post:List UInt8}:∀ {a:List UInt8},c∉a→Lib.index (a++c::post) [c]=a.length
 | [],_=>by simp[Lib.index,List.isPrefixOf]
 | x::r,h=>by
  have b:¬x=c:=fun e=>h (by simp[e]);have d:c∉r:=fun e=>h (by simp[e]);rw[We];unfold Lib.index;rw[Adl d]
  have:(c==x)=Ay:=by simpa using fun e:c=x=>b e.symm
  have f:((r.length:Int)==-1)=Ay:=by rw[Wy];omega
  simp[List.isPrefixOf,this,f]
theorem Au4 {c:UInt8}:∀ (n:Nat) (s:List UInt8),s.length≤n→Us s [c]=spl c s:=by
 intro n
 induction n with
 | zero =>
  intro s hs;obtain rfl:s=[]:=Zg.1 Aa;unfold Us;rw[Lib.count_miss (Vt Ba)]
  try rfl
 | succ n g =>
  intro s hs;by_cases a:c∈s
  ·obtain⟨f,post,rfl,d⟩:=Aqw a
   have hi:=Adl (post:=post) d
   have b:(f++c::post).drop (f.length+1)=post:=by rw[List.drop_append];simp
   have e:=g post (by simp only[B2,Dx] at hs;omega);unfold Us at e ⊢;rw[Lib.count_hit Ba hi,show [c].length=1 from rfl,b,Nat.add_comm,Lib.splitK,hi,Bb (by rw[C8];omega),Iw,show [c].length=1 from rfl,b,e,Abi d];simp
  ·unfold Us
   rw[Lib.count_miss (Vt a),T1 a]
   try rfl
theorem Abq {s:List UInt8} (c:UInt8) (hs:s.length≤4000000):Sx s [c]=some (spl c s):=by
 unfold Sx;rw[Au ⟨Aa,Ba⟩,Au4 _ _ (Cf _)]
theorem Yy {α:Type} [Inhabited α] {s:List α}{i:Nat} (h:i<s.length):s.drop i=ele s (i:Int)::s.drop (i+1):=by
 rw[List.drop_eq_getElem_cons h,C7,Dy,E3 h];rfl
theorem Atd {α:Type}{s:List α}{f i:Nat}:sub s (f:Int) (i:Int)=(s.drop f).take (i - f):=by
 unfold Rd.sub;rw[Iw,show ((i:Int) - (f:Int)).toNat=i - f from Aa]
theorem Avd {s:List UInt8}{c:UInt8} (hs:s.length≤4000000):∀ (m i f:Nat) (v:List (List UInt8)),i+m=s.length→f≤i→v.length≤i→c∉(s.drop f).take (i - f) →
  lp (Gp s c) (v,(f:Int),(i:Int))=some (.go (v++spl c (s.drop f),((s.length+1:Nat):Int),((s.length+1:Nat):Int))):=by
 intro m
 induction m with
 | zero =>
  intro i f v hi o q b;obtain rfl:i=s.length:=Aa
  have a:Gp s c (v,(f:Int),(s.length:Int))=some (.next (v++[(s.drop f).take (s.length - f)],((s.length+1:Nat):Int),((s.length+1:Nat):Int))):=by
   unfold Gp;simp only;rw[Ce (by rw[Ap];omega),Ap,beq_self_eq_true,Fc Ba,Uw,br_true,Ra Aa Aa Aa,Atd,Zl (by simp;omega) (by simp;omega),Av Aa Aa,Av Aa Aa];rfl
  refine Bz a ?_
  have l:Gp s c (v++[(s.drop f).take (s.length - f)],((s.length+1:Nat):Int),((s.length+1:Nat):Int))=some (.brk (v++[(s.drop f).take (s.length - f)],((s.length+1:Nat):Int),((s.length+1:Nat):Int))):=by
   unfold Gp;simp only;rw[Ch (by rw[Ap];omega)]
  have e:(s.drop f).take (s.length - f)=s.drop f:=Wf (by rw[M5];omega);rw[C2 l];rw[e] at b ⊢;rw[T1 b]
 | succ m k =>
  intro i f v hi o q b;have g:i<s.length:=Aa;have n:=Yy g
  have p:(s.drop f).take (i+1 - f)=(s.drop f).take (i - f)++[ele s (i:Int)]:=by
   rw[show i+1 - f=(i - f)+1 from Aa,Af8,Xb,show f+(i - f)=i from Aa,E3 g,C7,Dy,E3 g];rfl
  have j:((i:Int)==ln s)=Ay:=by rw[Ap];simp;omega
  by_cases d:ele s (i:Int)=c
  ·have a:Gp s c (v,(f:Int),(i:Int))=some (.next (v++[(s.drop f).take (i - f)],((i+1:Nat):Int),((i+1:Nat):Int))):=by
    unfold Gp;simp only;rw[Ce (by rw[Ap];omega),j,Fc (by intro _;exact⟨Aa,by rw[Ap];omega⟩),d,beq_self_eq_true,Afw,br_true,Ra Aa Aa (by rw[Ap];omega),Atd,Zl (by simp;omega) (by simp;omega),Av Aa Aa,Av Aa Aa];rfl
   rw[Lk a,k (i+1) (i+1) _ Aa (Cf _) (by simp;omega) Ba]
   have e:s.drop f=(s.drop f).take (i - f)++c::s.drop (i+1):=by
    rw[←d,←n]
    conv=>lhs;rw[←Ld (i - f) (s.drop f),Akq,show f+(i - f)=i from Aa]
   conv=>rhs;rw[e,Abi b]
   simp
  ·have a:Gp s c (v,(f:Int),(i:Int))=some (.next (v,(f:Int),((i+1:Nat):Int))):=by
    unfold Gp;simp only
    have r:(((ele s (i:Int)).toNat:Int)==(c.toNat:Int))=Ay:=by
     rw[Wy];intro h;exact d (UInt8.toNat_inj.1 Aa)
    rw[Ce (by rw[Ap];omega),j,Fc (by intro _;exact⟨Aa,by rw[Ap];omega⟩),r,Bool.or_false,br_false,Av Aa Aa];rfl
   rw[Lk a,k (i+1) f v Aa Aa Aa (by rw[p];simp only[Fw,Gx,not_or];exact⟨b,fun h=>d h.symm⟩)]
theorem Ay9 {s:List UInt8} (c:UInt8) (hs:s.length≤4000000):Aep s c=some (spl c s):=by
 unfold Aep;have:=Avd (c:=c) hs s.length 0 0 [] Aa (Cf _) Ba Ba;rw[show ((0:Nat):Int)=0 from rfl] at this;rw[this,bd_ret,Out.on_go];rfl
theorem Alr:∀ (u:Nat),∀ c∈Lq u,48≤c.toNat∧c.toNat≤57:=by
 intro u
 induction u using Nat.strongRecOn with
 | _ u b =>
  intro c a;by_cases h:u<10
  ·rw[Ly h,Gx] at a
   subst a;rw[Aqs (by show _<256;omega)];omega
  ·rw[Va h,Fw,Gx] at a
   rcases a with a | rfl
   ·exact b (u / 10) Aa c a
   ·rw[Aqs (by show _<256;omega)];omega
theorem Aix (u:Nat):Lq u≠[]:=by
 by_cases h:u<10
 ·rw[Ly h];simp
 ·rw[Va h];simp
theorem A21:∀ (u:Nat),1≤u→(Lq u).head?≠some 48:=by
 intro u
 induction u using Nat.strongRecOn with
 | _ u c =>
  intro b;by_cases h:u<10
  ·rw[Ly h]
   have:∀ u:Nat,u<10→1≤u→(Pr (48+u))≠48:=Ai;simpa using this u h b
  ·rw[Va h,List.head?_append]
   have:=c (u / 10) Aa Aa
   cases a:(Lq (u / 10)).head? with
   | none=>exact absurd (List.head?_eq_none_iff.1 a) (Aix _)
   | some x=>rw[a] at this;simpa using this
theorem Ajd {M:Nat}{r:List UInt8}:∀ {l:List UInt8}{a v:Nat},Th M a l=.ok v→Th M a (l++r)=Th M v r
 | [],a,v,h=>by simp only[Th] at h;injection h with h;subst h;rfl
 | c::l,a,v,h=>by
  rw[We,Lib.parseUintM.eq_2];rw[Lib.parseUintM.eq_2] at h;split at h
  ·rename_i b
   rw[Bg b];split at h
   ·cases h
   ·rename_i d
    rw[Bb d];split at h
    ·cases h
    ·rename_i e
     rw[Bb e];exact Ajd h
  ·cases h
theorem Axa:∀ (u:Nat),u≤18446744073709551615→Th 18446744073709551615 0 (Lq u)=.ok u:=by
 intro u;have a:∀ d:Nat,d<10→(Pr (48+d)).toNat=48+d:=fun d h=>Aqs (by show _<256;omega)
 induction u using Nat.strongRecOn with
 | _ u b =>
  intro c;by_cases h:u<10
  ·rw[Ly h]
   simp only[Th];rw[a u h,Bg Aa,Bb Aa,Bb Aa];congr 1;omega
  ·rw[Va h,Ajd (b (u / 10) Aa Aa)]
   simp only[Th];rw[a (u % 10) Aa,Bg Aa,Bb Aa,Bb Aa];congr 1;omega
theorem Ab2 (u:Nat):∃ c r,Lq u=c::r∧48≤c.toNat∧c.toNat≤57:=by
 cases h:Lq u with
 | nil=>exact absurd h (Aix u)
 | cons c r=>exact⟨c,r,rfl,Alr u c (by rw[h];simp)⟩
theorem Se {n:Int} (h:InR n):R3 64 (E5 n)=.ok n:=by
 obtain⟨j,k⟩:=h;have f:(2:Nat) ^ 64 - 1=18446744073709551615:=Ai;have d:(2:Nat) ^ (64 - 1)=9223372036854775808:=Ai;unfold E5;by_cases a:n<0
 ·rw[Bg a]
  unfold R3 Lib.parseUintB;simp only[show (45:UInt8).toNat=45 from rfl,or_true,Na];rw[Bb (Aix _),f,Axa _ Aa];simp only[d,not_true,false_and,if_false,Zy,Na];rw[Bb Aa];congr 1;omega
 ·rw[Bb a]
  obtain⟨c,r,e,c1,c2⟩:=Ab2 n.toNat;have b:=Axa n.toNat Aa;rw[e] at b ⊢;unfold R3 Lib.parseUintB;have g:¬(c.toNat=43∨c.toNat=45):=Aa;have i:¬c.toNat=45:=Aa;simp only[Bb g,f,d];rw[Bb Ba,b];simp only[i,not_false_eq_true,Zy,false_and,if_false];rw[Bb Aa];congr 1;omega
theorem Azk {s:List UInt8}{v:Int} (h:R3 64 s=.ok v):InR v:=by
 have e:(2:Nat) ^ (64 - 1)=9223372036854775808:=Ai;unfold R3 at h;split at h
 ·cases h
 ·rename_i c r
  simp only[e] at h;split at h
  ·cases h
  ·cases h
  ·rename_i u f
   split at h
   ·cases h
   ·split at h
    ·cases h
    ·rename_i a b
     injection h with h
     subst h;unfold InR;by_cases d:c.toNat=45
     ·simp only[d,Na,Zy,not_true,false_and] at a b ⊢;omega
     ·simp only[d,if_false,false_and,not_false_eq_true,Zy] at a b ⊢;omega
theorem Aou {a b:Int} (d:InR a) (e:InR b) (h:E5 a=E5 b):a=b:=by
 have c:=Se d;rw[h,Se e] at c
 injection c with c
 exact c.symm
theorem Auy (n:Int):Ru (E5 n) [45]=Lq n.natAbs:=by
 unfold E5 Ru Og;by_cases a:n<0
 ·rw[Bg a];simp[List.isPrefixOf]
 ·rw[Bb a,show n.natAbs=n.toNat from Aa]
  obtain⟨c,r,e,c1,c2⟩:=Ab2 n.toNat;rw[e]
  have:(45==c)=Ay:=by
   rw[Wy];rintro rfl;exact absurd c1 Ai
  simp[List.isPrefixOf,this]
def NumOk (most:Int) (s:List UInt8) (n:Int):Prop:=InR n∧s=E5 n∧((Lq n.natAbs).length:Int)≤most
theorem NumOk.one {most:Int}{s:List UInt8}{a b:Int} (h:NumOk most s a) (k:NumOk most s b):a=b:=Aou h.1 k.1 (h.2.1.symm.trans k.2.1)
open Classical in
noncomputable def M8 (most:Int) (s:List UInt8):Option Int:=if h:∃ n,NumOk most s n then some h.choose else none
theorem D6 {most:Int}{s:List UInt8}{n:Int}:M8 most s=some n↔NumOk most s n:=by
 unfold M8;constructor
 ·intro h
  split at h
  ·rename_i a
   injection h with h
   exact h▸a.choose_spec
  ·cases h
 ·intro h
  have a:∃ n,NumOk most s n:=⟨n,h⟩;rw[dif_pos a];exact congrArg some (a.choose_spec.one h)
def Tells {α:Type} (m:Option (α×Bool)) (o:Option α):Prop:=∃ v,m=some (v,o.isSome)∧∀ a,o=some a→v=a
theorem Au0 {m:Option (Int×Bool)}{most:Int}{s:List UInt8} (h:∃ v b,m=some (v,b)∧(b=true→NumOk most s v)∧∀ n,NumOk most s n→v=n∧b=true):Tells m (M8 most s):=by
 obtain⟨v,b,e,f,g⟩:=h
 cases d:M8 most s with
 | some n =>
  obtain⟨rfl,rfl⟩:=g n (D6.1 d);exact⟨v,e,fun a c=>by injection c⟩
 | none =>
  have:b=Ay:=by
   cases b with
   | false=>rfl
   | true=>rw[D6.2 (f rfl)] at d;cases d
  subst this;exact⟨v,e,fun a c=>by cases c⟩
theorem As8 {s:List UInt8}{most:Int} (hs:s.length≤4000000):Tells (Kj s most) (M8 most s):=by
 refine Au0 ?_;unfold Kj Vz;rw[Au ⟨⟨rfl,rfl⟩,Aa⟩,bd_ret];unfold Aq2
 cases c:R3 64 s with
 | ok v =>
  have d:=Azk c;simp only[Jz,bdG_t];rw[Azr d,bd_ret,Q0];by_cases b:E5 v=s
  ·rw[C8.2 b,bdG_t]
   unfold Jl;rw[bd_ret,Q0,←b,Auy];refine⟨_,_,rfl,fun h=>⟨d,rfl,by have:=Af7 h;rwa [Ap] at this⟩,fun n a=>?_⟩;obtain rfl:=Aou d a.1 a.2.1;exact⟨rfl,Lr (by rw[Ap];exact a.2.2)⟩
  ·rw[Wy.2 b,bdG_f]
   refine⟨_,_,rfl,fun h=>(by cases h),fun n a=>?_⟩;have e:=Se a.1;rw[←a.2.1,c] at e
   injection e with e
   exact absurd (e▸a.2.1.symm) b
 | range =>
  refine⟨_,_,rfl,fun h=>(by cases h),fun n a=>?_⟩;have e:=Se a.1;rw[←a.2.1,c] at e;cases e
 | _ =>
  refine⟨_,_,rfl,fun h=>(by cases h),fun n a=>?_⟩;have e:=Se a.1;rw[←a.2.1,c] at e;cases e
theorem P9 {s:List UInt8} (hs:s.length≤4000000):Tells (Fh s) (M8 18 s):=by
 obtain⟨v,a,b⟩:=As8 (most:=18) hs;unfold Fh;rw[a,bd_ret];exact⟨v,rfl,b⟩
def Y8 (c:UInt8):Prop:=48≤c.toNat∧c.toNat≤57
theorem Arc {n:Int} (h:InR n):IntKind.i64.wrap n=n:=I6 h.1 h.2
theorem Ayw {n:Int} (a:0≤n) (b:n<256):IntKind.u8.wrap n=n:=by rw[Ata];omega
end Go.Rd
end
section
namespace Go.Rd
noncomputable def Tt (s:List UInt8):Option Rf :=
 match s with
 | []=>none
 | c::r=>if c=35 then (match spl 126 r with
  | [a]=>match M8 18 a with
   | some n=>some ⟨n,0⟩
   | none=>none
  | [a,b]=>match M8 18 a,M8 18 b with
   | some n,some k=>if k>0 then some ⟨n,k⟩ else none
   | _,_=>none
  | _=>none) else none
theorem A5r {most:Int}{c:UInt8}{s:List UInt8} (d:¬(c=45∨Y8 c)) (a:c∈s):M8 most s=none:=by
 cases h:M8 most s with
 | none=>rfl
 | some n =>
  exfalso;have e:=(D6.1 h).2.1;rw[e] at a;unfold E5 at a;split at a
  ·rcases Gl.1 a with b | b
   ·exact d (.inl b)
   ·exact d (.inr (Alr _ c b))
  ·exact d (.inr (Alr _ c a))
theorem A1v {c:UInt8}{s:List UInt8} (h:c∈s):∃ a b t,spl c s=a::b::t:=by
 obtain⟨e,post,rfl,d⟩:=Aqw h;rw[Abi d]
 cases hs:spl c post with
 | nil=>exact absurd hs (U1 post)
 | cons b t=>exact⟨e,b,t,rfl⟩
theorem A0e {c:UInt8}{s:List UInt8} (h:c∉s):Lib.cut s [c]=(s,[],Ay):=by
 unfold Lib.cut;rw[Vt h,Bb Ai]
theorem A23 {c:UInt8}{a post:List UInt8} (h:c∉a):Lib.cut (a++c::post) [c]=(a,post,true):=by
 unfold Lib.cut;rw[Adl h,Bg Aa,Iw,show [c].length=1 from rfl,List.drop_append];simp
def IsT {α:Type} (o:Option α) (v:α) (b:Bool):Prop :=
 match o with
 | some a=>b=true∧v=a
 | none=>b=Ay
theorem Ags {α:Type}{m:Option (α×Bool)}{o:Option α}{v:α}{b:Bool} (d:m=some (v,b)) (h:IsT o v b):Tells m o:=by
 cases o with
 | some a=>obtain⟨rfl,rfl⟩:=h;exact⟨v,d,fun a c=>by injection c⟩
 | none=>obtain rfl:b=Ay:=h;exact⟨v,d,fun a c=>by cases c⟩
theorem Tells.val {α:Type}{m:Option (α×Bool)}{o:Option α} (h:Tells m o):∃ v b,m=some (v,b)∧IsT o v b:=by
 obtain⟨v,c,d⟩:=h;refine⟨v,_,c,?_⟩
 cases o with
 | some a=>exact⟨rfl,d a rfl⟩
 | none=>rfl
theorem Al9 {s:List UInt8} (hs:s.length≤4000000):Tells (Mp s) (Tt s):=by
 unfold Mp Mb As5;rw[bd_ret]
 have key:∀ (r:List UInt8) (x:Bool),r.length≤4000000→∃ v b,(bd (ck (r.length<4294967281) (some (Lib.cut r [126]))) fun x5=>bd (Fh x5.1) fun m=>br x5.2.2 (bd (Fh x5.2.1) fun y=>some ((Rf.mk m.1 y.1),(x&&((m.2&&y.2)&&(Ao (y.1>0)))))) (some ((Rf.mk m.1 0),(x&&m.2))))=some (v,b) ∧
   (x=Ay→b=Ay)∧(x=true→IsT (Tt (35::r)) v b):=by
  intro r x B;rw[Au Aa,bd_ret];by_cases q:(126:UInt8)∈r
  ·obtain⟨C,post,rfl,A⟩:=Aqw q
   rw[A23 A];simp only[B2,Dx] at B;obtain⟨v1,b1,o,d⟩:=(P9 (s:=C) Aa).val;obtain⟨v2,b2,E,f⟩:=(P9 (s:=post) Aa).val;simp only;rw[o,bd_ret,br_true,E,bd_ret];refine⟨_,_,rfl,fun g=>by rw[g];rfl,fun g=>?_⟩;subst g;simp only[Tt,Na,Abi A];by_cases u:(126:UInt8)∈post
   ·obtain⟨a,b,t,e⟩:=A1v u
    rw[A5r (by unfold Y8;decide) u] at f;rw[e,show b2=Ay from f];simp[IsT]
   ·rw[T1 u]
    simp only
    cases i:M8 18 C with
    | none=>rw[i] at d;rw[d];rfl
    | some n =>
     rw[i] at d;obtain⟨rfl,rfl⟩:=d
     cases z:M8 18 post with
     | none=>rw[z] at f;rw[f];rfl
     | some k =>
      rw[z] at f;obtain⟨rfl,rfl⟩:=f;simp only;by_cases l:v2>0
      ·rw[Bg l,Lr l];exact⟨rfl,rfl⟩
      ·rw[Bb l,Wc l];rfl
  ·rw[A0e q]
   obtain⟨v1,b1,o,d⟩:=(P9 B).val;simp only;rw[o,bd_ret,br_false];refine⟨_,_,rfl,fun g=>by rw[g];rfl,fun g=>?_⟩;subst g;simp only[Tt,Na,T1 q]
   cases i:M8 18 r with
   | none=>rw[i] at d;rw[d];rfl
   | some n=>rw[i] at d;obtain⟨rfl,rfl⟩:=d;exact⟨rfl,rfl⟩
 cases s with
 | nil =>
  obtain⟨v,b,e,d,_⟩:=key [] Ay Ba;refine Ags e ?_;exact d rfl
 | cons c r =>
  simp only[Dx] at hs;by_cases p:c=35
  ·subst p
   have w:Ru (35::r) [35]=r:=by simp[Ru,Og,List.isPrefixOf]
   have j:Og (35::r) [35]=true:=by simp[Og,List.isPrefixOf]
   obtain⟨v,b,e,_,f⟩:=key r true Aa;simp only[w,j];exact Ags e (f rfl)
  ·have j:Og (c::r) [35]=Ay:=by
    have:(35==c)=Ay:=by rw[Wy];exact fun h=>p h.symm
    simp[Og,List.isPrefixOf,this]
   have w:Ru (c::r) [35]=c::r:=by unfold Ru;rw[j];rfl
   obtain⟨v,b,e,d,_⟩:=key (c::r) Ay (by simp only[Dx];omega);simp only[w,j];refine Ags e ?_;simp only[Tt,Bb p];exact d rfl
theorem O8 {s:List UInt8}{r:Rf} (h:Tt s=some r):InR r.st∧InR r.bk∧0≤r.bk∧s=Auk r:=by
 unfold Tt at h
 cases s with
 | nil=>cases h
 | cons c t =>
  simp only at h;split at h
  ·rename_i m
   subst m;have e:=Ys (c:=126) t;split at h
   ·rename_i a j
    rw[j] at e;split at h
    ·rename_i n f
     injection h with h
     subst h;have d:=D6.1 f;refine⟨d.1,⟨Ba,Ba⟩,E6 _,?_⟩;have:a=t:=e;rw[Auk,←this,d.2.1];simp
    ·cases h
   ·rename_i a b l
    rw[l] at e;split at h
    ·rename_i n k f d
     split at h
     ·rename_i o
      injection h with h
      subst h;have g:=D6.1 f;have i:=D6.1 d;refine⟨g.1,i.1,Int.le_of_lt o,?_⟩;have:a++126::b=t:=e;rw[Auk,←this,g.2.1,i.2.1,Bb (by show ¬k=0;omega)]
     ·cases h
    ·cases h
   ·cases h
  ·cases h
end Go.Rd
end