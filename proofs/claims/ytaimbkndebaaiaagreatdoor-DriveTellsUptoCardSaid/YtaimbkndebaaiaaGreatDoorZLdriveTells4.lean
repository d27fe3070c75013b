/- Texts for the law, 4. -/
import Derived.Test.YtaimbkndebaaiaaGreatDoorZLdriveTells3
set_option linter.unusedVariables false
set_option linter.unusedSimpArgs false
set_option maxRecDepth 8000
set_option linter.defProp false
open Decidable renaming decide→Ap
open Bool renaming false→Az
section
namespace Go.Rd
def Lt (a b:Edg):Prop:=Afj a b<0
theorem Lt.trans {a b c:Edg} (h:Lt a b) (d:Lt b c):Lt a c:=by unfold Lt at *;rw[Ey] at *;omega
theorem Lt.irrefl {a:Edg}:¬Lt a a:=by unfold Lt;rw[Ey];omega
theorem Lt.asymm {a b:Edg} (h:Lt a b):¬Lt b a:=fun c=>Lt.irrefl (h.trans c)
theorem Lt.tri {a b:Edg} (c:¬Lt a b) (d:¬Lt b a):a=b:=by
 unfold Lt at *;rw[Ey] at *
 cases a;cases b;simp only[Edg.mk.injEq] at *;omega
def Mb (l:List Edg):Prop:=l.Pairwise Lt
theorem Aig:∀ {a b:List Edg},Mb a→Mb b→(∀ e,e∈a↔e∈b)→a=b
 | [],[],_,_,_=>rfl
 | [],y::b,_,_,h=>by have:=(h y).2 Bf;cases this
 | x::a,[],_,_,h=>by have:=(h x).1 Bf;cases this
 | x::a,y::b,ha,hb,h=>by
  obtain⟨g,a2⟩:=Alu.1 ha;obtain⟨b1,b2⟩:=Alu.1 hb
  have i:x=y:=by
   rcases Gw.1 ((h x).1 Bf) with c | c
   ·exact c
   ·rcases Gw.1 ((h y).2 Bf) with f | f
    ·exact f.symm
    ·exact absurd (b1 x c) (g y f).asymm
  subst i;congr 1;refine Aig a2 b2 fun e=>⟨fun d=>?_,fun d=>?_⟩
  ·rcases Gw.1 ((h e).1 (by simp[d])) with c | c
   ·subst c;exact absurd (g e d) Lt.irrefl
   ·exact c
  ·rcases Gw.1 ((h e).2 (by simp[d])) with c | c
   ·subst c;exact absurd (b1 e d) Lt.irrefl
   ·exact c
theorem Yw {l:List Edg}{x:Edg} (h:Mb l) (f:∀ e∈l,Lt e x):Mb (l++[x]):=by
 unfold Mb;rw[List.pairwise_append];exact⟨h,Arf _ _,fun a d b c=>by simp only[G7] at c;subst c;exact f a d⟩
theorem Aun (a b:Edg):([a.fr,a.tO,a.bk,a.wt]==[b.fr,b.tO,b.bk,b.wt])=tb (a=b):=by
 refine L6 ?_
 cases a;cases b
 simp
def Srt (l:List Edg):Prop:=l.Pairwise fun a b=>¬Lt b a
theorem Srt.at {l:List Edg} (h:Srt l) {i j:Nat} (b:i<j) (a:j<l.length):¬Lt (ele l (j:Int)) (ele l (i:Int)):=by
 have:=Arl.1 h i j Aa a b;simpa[Dj,Ec,a,show i<l.length from Aa] using this
theorem Ape {l:List Edg}{n:Nat}{e:Edg}:e∈l.take n↔∃ i:Nat,i<n∧i<l.length∧ele l (i:Int)=e:=by
 constructor
 ·intro h
  obtain⟨i,hi,rfl⟩:=Adm h;rw[I8] at hi;exact⟨i,Aa,Aa,by simp[Dj,Ec,show i<l.length from Aa]⟩
 ·rintro⟨i,b,a,rfl⟩
  rw[Dj,Ec,E7 a];exact Xs (by rw[Rp,Bj b,E7 a];rfl)
theorem Aou {l:List Edg}{k:Nat}{x:Edg} (h:k<l.length):(upd l (k:Int) x).take (k+1)=l.take k++[x]:=by
 unfold upd;rw[I9,Ag4,List.take_set_of_le (Co _),Al4 h];rfl
theorem Ayi {l:List Edg}{k i:Nat} (h:k+i<l.length):ele (sub l (k:Int) (ln l)) (i:Int)=ele l ((k+i:Nat):Int):=by
 unfold sub ln;rw[Dj,Dj,Ec,Rp,Bj Aa,Ya,I9,Ec]
structure CptI (s:List Edg) (k0:Nat) (ows:List Edg) (k j:Nat):Prop where
 len:ows.length=s.length
 kp:1≤k0
 j1:1≤j
 jn:k0+j≤s.length
 kk:k0≤k
 kj:k+1≤k0+j
 st:Mb (ows.take k)
 mem:∀ e,e∈ows.take k↔e∈s.take (k0+j)
 last:ele ows ((k - 1:Nat):Int)=ele s ((k0+j - 1:Nat):Int)
 rest:∀ p:Nat,k0+j - 1≤p→p<s.length→ele ows (p:Int)=ele s (p:Int)
theorem Apf {l:List Edg} (h:Mb l) (c:0<l.length):∀ e∈l,e=ele l ((l.length - 1:Nat):Int)∨Lt e (ele l ((l.length - 1:Nat):Int)):=fun e a=>by
 obtain⟨i,hi,rfl⟩:=Adm a
 have b:ele l ((l.length - 1:Nat):Int)=l[l.length - 1]:=by simp[Dj,Ec,show l.length - 1<l.length from Aa]
 rw[b];by_cases d:i=l.length - 1
 ·left;congr 1
 ·right;exact Arl.1 h i (l.length - 1) hi Aa Aa
theorem Aps {l:List Edg}{k i:Nat} (h:i<k):ele (l.take k) (i:Int)=ele l (i:Int):=by
 rw[Dj,Dj,Ec,Rp,Bj h,Ec]
theorem A03 {s:List Edg} (hs:Srt s) (C:s.length≤4611686018427387904) {k0:Nat}{ows:List Edg}{k j:Nat} (h:CptI s k0 ows k j) (d:k0+j<s.length) :
  (∃ r k',Bw s k0 (ows,(k:Int),(j:Int))=some (.next (r,((k':Nat):Int),((j+1:Nat):Int)))∧CptI s k0 r k' (j+1)):=by
 have f:=h.len;have E:=h.j1;have F:=h.kj;have l:=h.kp;have u:=h.kk
 have v:ln s=ln ows:=by unfold ln;rw[f]
 have z:ln (sub ows (k0:Int) (ln ows))=((s.length - k0:Nat):Int):=by
  have:=Amx (xs:=ows) (i:=(k0:Int)) (j:=ln ows) ⟨Aa,by unfold ln;omega,Fo _⟩;unfold ln at this ⊢;rw[this];omega
 have A:ele (sub ows (k0:Int) (ln ows)) (j:Int)=ele s ((k0+j:Nat):Int):=by rw[Ayi Aa,h.rest _ Aa d]
 have B:ele (sub ows (k0:Int) (ln ows)) ((j:Int) - 1)=ele s ((k0+j - 1:Nat):Int):=by
  rw[show (j:Int) - 1=((j - 1:Nat):Int) from Aa,Ayi Aa,h.rest _ Aa Aa,show k0+(j - 1)=k0+j - 1 from Aa]
 have q:((j+1:Nat):Int)=(j:Int)+1:=rfl
 have n:∀ e,e∈s.take (k0+(j+1))↔e∈s.take (k0+j)∨e=ele s ((k0+j:Nat):Int):=fun e=>by
  rw[show k0+(j+1)=(k0+j)+1 from rfl,Kg d,F8,G7]
 unfold Bw;simp only;rw[v,Rz Aa (by unfold ln;omega) (Fo _),z,Ck Aa,A8 Aa Aa,Ay Aa Aa,A8 Aa Aa,A,B,Aun];by_cases b:ele s ((k0+j:Nat):Int)=ele s ((k0+j - 1:Nat):Int)
 ·rw[Dz b,F9,br_false,Ay Aa Aa,←q]
  refine⟨ows,k,rfl,⟨f,l,Aa,Aa,u,Aa,h.st,fun e=>?_,?_,fun p t c=>h.rest p Aa c⟩⟩
  ·rw[h.mem,n]
   refine⟨.inl,fun a=>a.elim id fun a=>?_⟩;rw[a,b,Ape];exact⟨k0+j - 1,Aa,Aa,rfl⟩
  ·rw[h.last,show k0+(j+1) - 1=k0+j from Aa,b]
 ·rw[C3 b,Kc,br_true,A8 Aa Aa,A8 Aa (by unfold ln;omega),Ay Aa Aa,Ay Aa Aa,←q]
  refine⟨_,k+1,rfl,⟨by rw[El];exact f,l,Aa,Aa,Aa,Aa,?_,fun e=>?_,?_,fun p t c=>?_⟩⟩
  ·rw[Aou Aa]
   refine Yw h.st fun e x=>?_
   have w:(ows.take k).length=k:=by rw[I8];omega
   have o:=Apf h.st Aa e x;rw[w,Aps Aa,h.last] at o;have y:=hs.at (i:=k0+j - 1) (j:=k0+j) Aa d
   have m:Lt (ele s ((k0+j - 1:Nat):Int)) (ele s ((k0+j:Nat):Int)):=by
    by_cases g:Lt (ele s ((k0+j - 1:Nat):Int)) (ele s ((k0+j:Nat):Int))
    ·exact g
    ·exact absurd (Lt.tri y g) b
   rcases o with a | a
   ·rw[a];exact m
   ·exact a.trans m
  ·rw[Aou Aa,F8,G7,h.mem,n]
  ·rw[show k+1 - 1=k from rfl,Aca ⟨Aa,by unfold ln;omega⟩,show k0+(j+1) - 1=k0+j from Aa]
  ·rw[Wq Aa]
   exact h.rest p Aa c
theorem Apw {s:List Edg} (hs:Srt s) (b:s.length≤4611686018427387904) {k0:Nat}:∀ (m j k:Nat) (ows:List Edg),k0+j+m=s.length→CptI s k0 ows k j→∃ a k',lp (Bw s k0) (ows,(k:Int),(j:Int))=some (.go (a,((k':Nat):Int),((s.length - k0:Nat):Int)))∧CptI s k0 a k' (s.length - k0)
 | 0,j,k,ows,hm,h=>by
  have g:j=s.length - k0:=by have:=h.kk;omega
  subst g;refine⟨ows,k,Db ?_,h⟩;have l:=h.len
  have n:ln s=ln ows:=by unfold ln;rw[l]
  have o:ln (sub ows (k0:Int) (ln ows))=((s.length - k0:Nat):Int):=by
   have:=Amx (xs:=ows) (i:=(k0:Int)) (j:=ln ows) ⟨Aa,by unfold ln;omega,Fo _⟩;unfold ln at this ⊢;rw[this];omega
  unfold Bw;simp only;rw[n,Rz Aa (by unfold ln;omega) (Fo _),o,Cn Aa]
 | m+1,j,k,ows,hm,h=>by
  obtain⟨a,k',c,d⟩:=A03 hs b h Aa;obtain⟨q,p,e,f⟩:=Apw hs b m (j+1) k' a Aa d;exact⟨q,p,B4 c e,f⟩
theorem Axj {s:List Edg} (hs:Srt s) (C:s.length≤4611686018427387904):∃ ys,C7 s=some ys∧Mb ys∧∀ e,e∈ys↔e∈s:=by
 unfold C7;by_cases A:s.length<2
 ·rw[Ck (by unfold ln;omega)]
  refine⟨s,rfl,?_,fun e=>Om⟩
  match s,A with
  | [],_=>exact List.Pairwise.nil
  | [x],_=>exact Arf _ _
 ·rw[Cn (by unfold ln;omega)]
  have key:∀ m k:Nat,1≤k→k+m=s.length→Mb (s.take k)→(Mb s∧lp Bx (s,(k:Int))=some (.go (s,(s.length:Int))))∨(∃ ys,lp Bx (s,(k:Int))=some (.ret ys)∧Mb ys∧∀ e,e∈ys↔e∈s):=by
   intro m
   induction m with
   | zero =>
    intro k n F f;have:k=s.length:=Aa;subst this;rw[X3] at f;refine .inl ⟨f,Db ?_⟩;unfold Bx;exact Cn (by unfold ln;omega)
   | succ m L =>
    intro k n F f
    have e:Bx (s,(k:Int))=br (tb (ele s (k:Int)=ele s ((k - 1:Nat):Int))) (ck (SX (k:Int) (ln s) (ln s))<|bd (lp (Bw s k) (s,(k:Int),1)) fun M=>M.on (fun (p,l,Q) =>
      ck (SX l (ln p) (ln p))<|ck (SX 0 l (ln (clr p l (Edg.mk 0 0 0 0))))<|some (.ret (sub (clr p l (Edg.mk 0 0 0 0)) 0 l))) (fun r=>r.elim)) (some (.next (s,((k+1:Nat):Int)))):=by
     unfold Bx;simp only;rw[Ck (by unfold ln;omega),A8 Aa (by unfold ln;omega),Ay Aa Aa,show (k:Int) - 1=((k - 1:Nat):Int) from Aa,A8 Aa (by unfold ln;omega),Aun,Ay Aa Aa];rfl
    by_cases h:ele s (k:Int)=ele s ((k - 1:Nat):Int)
    ·rw[Dz h,br_true,Rz Aa (by unfold ln;omega) (Fo _)] at e
     have B:CptI s k s k 1:=⟨rfl,n,Co _,Aa,Co _,Co _,f,fun x=>by
       rw[Kg Aa,F8,G7];refine⟨.inl,fun d=>d.elim id fun d=>?_⟩;rw[d,h,Ape]
       exact⟨k - 1,Aa,Aa,rfl⟩,h.symm,fun _ _ _=>rfl⟩
     obtain⟨q,o,t,g⟩:=Apw hs C m 1 k s Aa B;rw[show ((1:Nat):Int)=1 from rfl] at t;rw[t,bd_ret,Out.on_go] at e;simp only at e;have P:=g.len;have N:=g.kk;have O:=g.kj;have E:=Anh (xs:=q) (i:=(o:Int)) (z:=Edg.mk 0 0 0 0) (by unfold ln;omega);rw[Rz Aa (by unfold ln;omega) (Fo _),Rz Aa Aa (by unfold ln;rw[E];omega)] at e
     have J:sub (clr q (o:Int) (Edg.mk 0 0 0 0)) 0 (o:Int)=q.take o:=by
      unfold sub clr;have y:(0:Int).toNat=0:=rfl;rw[y,Ali,Int.sub_zero,I9,Aro (by rw[I8];omega),List.take_take,Nat.min_self]
     rw[J] at e;refine .inr ⟨_,Hw e,g.st,fun x=>?_⟩;rw[g.mem,show k+(s.length - k)=s.length from Aa,X3]
    ·rw[C3 h,br_false] at e
     have I:Mb (s.take (k+1)):=by
      rw[Kg Aa];refine Yw f fun x K=>?_
      have G:(s.take k).length=k:=by rw[I8];omega
      have w:=Apf f Aa x K;rw[G,Aps Aa] at w;have H:=hs.at (i:=k - 1) (j:=k) Aa Aa
      have v:Lt (ele s ((k - 1:Nat):Int)) (ele s (k:Int)):=by
       by_cases u:Lt (ele s ((k - 1:Nat):Int)) (ele s (k:Int))
       ·exact u
       ·exact absurd (Lt.tri H u) h
      rcases w with d | d
      ·rw[d];exact v
      ·exact d.trans v
     rcases L (k+1) Aa Aa I with ⟨a,b⟩ | ⟨ys,a,b⟩
     ·exact .inl ⟨a,(Ly e).trans b⟩
     ·exact .inr ⟨ys,(Ly e).trans a,b⟩
  have n:Mb (s.take 1):=by
   match s with
   | []=>exact List.Pairwise.nil
   | x::_=>exact Arf _ _
  rcases key (s.length - 1) 1 (Co _) Aa n with ⟨a,b⟩ | ⟨ys,a,b,c⟩
  ·rw[show ((1:Nat):Int)=1 from rfl] at b
   rw[b,bd_ret,Out.on_go];exact⟨s,rfl,a,fun e=>Om⟩
  ·rw[show ((1:Nat):Int)=1 from rfl] at a
   rw[a,bd_ret,Out.on_ret];exact⟨ys,rfl,b,c⟩
theorem Azw (l:List Edg):Srt (Agi l)∧(∀ e,e∈Agi l↔e∈l)∧(Agi l).length=l.length:=by
 refine⟨?_,fun e=>List.mem_mergeSort,List.length_mergeSort ..⟩;have:=List.pairwise_mergeSort (le:=fun x y=>!Ap (Afj y x<0)) (fun a b c d f=>?_) (fun a b=>?_) l
 ·refine this.imp fun {a b} h=>?_
  unfold Lt;simpa using h
 ·simp only[Alr,Hs] at *
  rw[Ey] at *;omega
 ·simp only[W8,Alr,Hs]
  rw[Ey,Ey];omega
theorem Axg {l:Lp}{t:Tgt}{e:Edg}{fr tO:Nat} (i:fr<l.body.length) (b:tO<l.body.length) (g:e.fr=fr) (a:e.tO=tO) (k:LoopOk l):EdgeP l t e↔(UseE l t tO e∨MemE l fr tO e):=by
 constructor
 ·rintro⟨u,n,h | ⟨f,j,h⟩⟩
  ·have:(u:Int)=tO:=by
    obtain⟨r,m,rfl⟩:=h;exact a
   rw[this] at h;exact .inl h
  ·have c:(u:Int)=tO:=by rw[←a,h.tO]
   have d:(f:Int)=fr:=by rw[←g,h.fr]
   rw[c,d] at h;exact .inr h
 ·rintro(h | h)
  ·exact⟨tO,b,.inl h⟩
  ·exact⟨tO,b,.inr ⟨fr,i,h⟩⟩
theorem A3s {α β:Type} [Inhabited α] {c:Bool}{x:α}{k:α→Option β}:bdG c (some x) k=k (if c=true then x else default):=by cases c <;> rfl
theorem Aww {A B:Bool}{x y d:Int}:((A&&B)&&(x==if (A&&B)=true then y else d))=((A&&B)&&(x==y)):=by cases A <;> cases B <;> rfl
theorem tb_or {p q:Prop}:tb (p∨q)=(tb p || tb q):=by
 by_cases a:p
 ·rw[Dz (.inl a),Dz a];rfl
 ·by_cases b:q
  ·rw[Dz (.inr b),C3 a,Dz b];rfl
  ·rw[C3 (fun h=>h.elim a b),C3 a,C3 b];rfl
theorem Awp {l:Lp} (E:LoopOk l) (t:Tgt) {fr tO:Nat} (u:fr<l.body.length) (v:tO<l.body.length) {bk wt:Int} (w:0≤bk) (J:bk≤32):Ank l t ⟨fr,tO,bk,wt⟩=some (tb (UseE l t tO ⟨fr,tO,bk,wt⟩∨MemE l fr tO ⟨fr,tO,bk,wt⟩)):=by
 have b0:=O1 (ele l.body (tO:Int));unfold Ank;simp only;rw[A8 Aa (by unfold ln;omega),Asf,bd_ret]
 have step:∀ i:Nat,0≤i→i<(Bm (ele l.body (tO:Int))).length→(¬((ele (Bm (ele l.body (tO:Int))) (i:Int)).st=fr∧(ele (Bm (ele l.body (tO:Int))) (i:Int)).bk=bk∧wt=Fb t (ele l.body (fr:Int)).op)→Sy l t ⟨fr,tO,bk,wt⟩ (Bm (ele l.body (tO:Int))) i=some (.next ((i:Int)+1))) ∧
   (¬¬((ele (Bm (ele l.body (tO:Int))) (i:Int)).st=fr∧(ele (Bm (ele l.body (tO:Int))) (i:Int)).bk=bk∧wt=Fb t (ele l.body (fr:Int)).op)→Sy l t ⟨fr,tO,bk,wt⟩ (Bm (ele l.body (tO:Int))) i=some (.ret true)):=fun i _ hi=>by
  have B:IX (i:Int) (ln (Bm (ele l.body (tO:Int)))):=⟨Aa,by unfold ln;omega⟩
  have e:Sy l t ⟨fr,tO,bk,wt⟩ (Bm (ele l.body (tO:Int))) i=br (tb ((ele (Bm (ele l.body (tO:Int))) (i:Int)).st=fr∧(ele (Bm (ele l.body (tO:Int))) (i:Int)).bk=bk∧wt=Fb t (ele l.body (fr:Int)).op)) (some (.ret true)) (some (.next ((i:Int)+1))):=by
   unfold Sy;simp only;rw[Ck (by unfold ln;omega),Ax B,Fv (fun _=>B),Fv (fun _=>⟨Aa,by unfold ln;omega⟩),Ase];rw[A3s,Aww,Ay Aa Aa];have N:∀ (x y z:Bool) (p q r:Prop),(x=true↔p)→(y=true↔q)→(z=true↔r)→((x&&y)&&z)=tb (p∧q∧r):=fun x y z p q r u v w=>L6 (by rw[Fa,Fa,u,v,w,Vp]);rw[N _ _ _ _ _ _ Dk Dk Dk]
  rw[e];exact⟨fun h=>by rw[C3 h];rfl,fun h=>by rw[Dz (P5.1 h)];rfl⟩
 have H:UseE l t tO ⟨fr,tO,bk,wt⟩↔∃ i:Nat,i<(Bm (ele l.body (tO:Int))).length∧((ele (Bm (ele l.body (tO:Int))) (i:Int)).st=fr∧(ele (Bm (ele l.body (tO:Int))) (i:Int)).bk=bk∧wt=Fb t (ele l.body (fr:Int)).op):=by
  constructor
  ·rintro⟨r,j,A⟩
   obtain⟨i,hi,rfl⟩:=Qv j;simp only[Edg.mk.injEq] at A;obtain⟨m,a2,a3,a4⟩:=A;exact⟨i,hi,m.symm,a3.symm,by rw[a4,←m]⟩
  ·rintro⟨i,hi,m,a2,a3⟩
   exact⟨_,D9 hi,by rw[m,a2,a3]⟩
 rcases Tl (f:=Sy l t ⟨fr,tO,bk,wt⟩ (Bm (ele l.body (tO:Int)))) (n:=(Bm (ele l.body (tO:Int))).length) (fun _=>true) (Bm (ele l.body (tO:Int))).length 0 Aa step (by unfold Sy;exact Cn (by unfold ln;omega)) with ⟨h,e⟩ | ⟨i,_,hi,O,_,e⟩
 ·rw[show (((0:Nat)):Int)=0 from rfl] at e
  have T:¬UseE l t tO ⟨fr,tO,bk,wt⟩:=fun U=>by
   obtain⟨i,hi,d⟩:=H.1 U;exact h i Aa hi d
  rw[e,bd_ret,Out.on_go,tb_or,C3 T,W6,A8 Aa (by unfold ln;omega),A8 Aa (by unfold ln;omega),Atm,bd_ret,Out.on_go];unfold Afe;rw[bd_ret]
  have K:(((((ele l.body (fr:Int)).op==3 || (ele l.body (fr:Int)).op==4)&&((ele l.body (tO:Int)).op==3 || (ele l.body (tO:Int)).op==4))&&((ele l.body (fr:Int)).ar==(ele l.body (tO:Int)).ar))&&((ele l.body (fr:Int)).op==4 || (ele l.body (tO:Int)).op==4))=tb (Aqu l fr tO):=by
   unfold Aqu;refine L6 ?_;unfold Aev;simp[Vp]
  rw[K]
  have V:(if ((ele l.body (fr:Int)).op==4)=true then (1:Int) else 0)=if (ele l.body (fr:Int)).op=4 then 1 else 0:=Bf
  rw[V];by_cases d:Aqu l fr tO
  ·rw[Dz d,F9,W6]
   by_cases s:wt=if (ele l.body (fr:Int)).op=4 then 1 else 0
   ·obtain⟨W,a0,g1,I⟩:=U6 E u d.1
    obtain⟨X,_,_,_⟩:=U6 E v d.2.1;have C:(ele l.logs (ele l.body (fr:Int)).ar).toNat≤5:=Aa;obtain⟨b1,b2,b3⟩:=Au9 C;have L:L8 l (ele l.body (fr:Int))=2 ^ (ele l.logs (ele l.body (fr:Int)).ar).toNat:=rfl
    have S:(if Ap ((fr:Int)≥tO)=true then (1:Int) else 0)=G9 fr tO:=by unfold G9;simp
    have a9:=Ad8 fr tO;rw[show (wt != if (ele l.body (fr:Int)).op=4 then 1 else 0)=Az from by rw[←s];exact Aq3 _,br_false,Ax a0,Azd _ I,bd_ret,Atm,bd_ret,Out.on_go,S];rw[←L];have G:∀ k:Int,0≤k→k≤32→S7 (ele l.body (fr:Int)) (ele l.body (tO:Int)) k (L8 l (ele l.body (fr:Int)))=some (tb (Uq (ele l.body (fr:Int)) (ele l.body (tO:Int)) k (L8 l (ele l.body (fr:Int))))):=fun k a b=>A2m W X a b C;rw[G bk w J,O4];by_cases j:G9 fr tO≤bk∧bk≤L8 l (ele l.body (fr:Int))
    ·rw[show (Ap (bk<G9 fr tO) || Ap (bk>L8 l (ele l.body (fr:Int))))=Az from by simp;omega]
     simp only[Kc,Nt,W6];by_cases o:Uq (ele l.body (fr:Int)) (ele l.body (tO:Int)) bk (L8 l (ele l.body (fr:Int)))
     ·rw[Dz o,F9,br_false]
      have a1:((bk.toNat:Nat):Int)=bk:=Aa;have F:(((G9 fr tO).toNat:Nat):Int)=G9 fr tO:=Aa
      have Y:∀ i:Nat,(G9 fr tO).toNat≤i→i<bk.toNat→(¬Uq (ele l.body (fr:Int)) (ele l.body (tO:Int)) i (L8 l (ele l.body (fr:Int)))→Sx l ⟨fr,tO,bk,wt⟩ (L8 l (ele l.body (fr:Int))) i=some (.next ((i:Int)+1)))∧(¬¬Uq (ele l.body (fr:Int)) (ele l.body (tO:Int)) i (L8 l (ele l.body (fr:Int)))→Sx l ⟨fr,tO,bk,wt⟩ (L8 l (ele l.body (fr:Int))) i=some (.ret Az)):=fun i _ hi=>by
       have e:Sx l ⟨fr,tO,bk,wt⟩ (L8 l (ele l.body (fr:Int))) i=br (tb (Uq (ele l.body (fr:Int)) (ele l.body (tO:Int)) i (L8 l (ele l.body (fr:Int))))) (some (.ret Az)) (some (.next ((i:Int)+1))):=by
        unfold Sx;simp only;rw[Ck Aa,G i Aa Aa,bd_ret,Ay Aa Aa]
       rw[e];exact⟨fun h=>by rw[C3 h];rfl,fun h=>by rw[Dz (P5.1 h)];rfl⟩
      rcases Tl (f:=Sx l ⟨fr,tO,bk,wt⟩ (L8 l (ele l.body (fr:Int)))) (n:=bk.toNat) (fun _=>Az) (bk.toNat - (G9 fr tO).toNat) (G9 fr tO).toNat Aa Y (by unfold Sx;exact Cn (by show ¬((bk.toNat:Int)<bk);omega)) with ⟨M,g⟩ | ⟨i,a5,a6,P,_,g⟩
      ·rw[F] at g
       rw[g,bd_ret,Out.on_go,Dz];refine⟨d,rfl,rfl,s,j.1,j.2,o,fun k a7 Q=>?_⟩;have a8:k<bk:=Q;have R:((k.toNat:Nat):Int)=k:=Aa;have:=M k.toNat Aa Aa;rwa [R] at this
      ·rw[F] at g
       rw[g,bd_ret,Out.on_ret,C3];exact fun h=>P (h.first i Aa (by show (i:Int)<bk;omega))
     ·rw[C3 o,Kc,br_true,C3 fun h=>o h.meet]
    ·rw[show (Ap (bk<G9 fr tO) || Ap (bk>L8 l (ele l.body (fr:Int))))=true from by simp;omega]
     simp only[Vu,br_true];rw[C3 fun h=>j ⟨h.lo,h.hi⟩]
   ·rw[show (wt != if (ele l.body (fr:Int)).op=4 then 1 else 0)=true from by simpa using s,br_true,C3 fun h=>s h.wt]
  ·rw[C3 d,Kc,Vu,br_true,C3 fun h=>d h.c]
 ·rw[show (((0:Nat)):Int)=0 from rfl] at e
  rw[e,bd_ret,Out.on_ret,Dz (.inl (H.2 ⟨i,hi,P5.1 O⟩))]
structure UpTo (l:Lp) (t:Tgt) (p:Edg) (b:Int) (v:List Edg):Prop where
 st:Mb v
 mem:∀ e,e∈v↔EdgeP l t e∧Lt e p
 len:(v.length:Int)≤b
theorem AL32 {n:Nat} (h:n≤100000):AL n 32:=⟨by rw[Ev];omega,Aa⟩
theorem Sb {l:Lp}{t:Tgt}{p g:Edg}{b d:Int}{v:List Edg} (h:UpTo l t p b v) (i:b≤d) (f:∀ e,EdgeP l t e→(Lt e p↔Lt e g)):UpTo l t g d v :=
 ⟨h.st,fun e=>by rw[h.mem];exact⟨fun ⟨a,c⟩=>⟨a,(f e a).1 c⟩,fun ⟨a,c⟩=>⟨a,(f e a).2 c⟩⟩,X0 h.len i⟩
theorem Az7 {l:Lp} (p:LoopOk l) (t:Tgt):∃ E,Abf l t=some E∧Mb E∧(∀ e,e∈E↔EdgeP l t e)∧E.length≤60000:=by
 have P:=p.2.2.1;have i:∀ e,EdgeP l t e→EdgeIn l.body.length e:=fun e h=>h.in p;unfold Abf
 have XE:=Pl (f:=Tu l t) (n:=l.body.length) (fun k v=>UpTo l t ⟨k,0,0,0⟩ (k * 3696) v) (fun fr v x d=>?_) (fun g=>by unfold Tu;exact Cn (by unfold ln;omega)) [] ⟨List.Pairwise.nil,fun e=>⟨fun h=>(by cases h),fun ⟨m,o⟩=>by
  have:=i e m;have:=this.fr;unfold Lt at o;rw[Ey] at o;have:=(i e m).tO;have:=(i e m).bk;have:=(i e m).wt;simp only at o;omega⟩,Bf⟩
 ·obtain⟨E,G,j⟩:=XE
  rw[G,bd_ret,Out.on_go];refine⟨E,rfl,j.st,fun e=>?_,by have:=j.len;omega⟩;rw[j.mem];refine⟨fun h=>h.1,fun h=>⟨h,?_⟩⟩;have:=(i e h).fr;unfold Lt;rw[Ey];left;exact this.2
 ·have B:=Pl (f:=Tt l t fr) (n:=l.body.length) (fun k v=>UpTo l t ⟨fr,k,0,0⟩ ((fr:Int) * 3696+k * 231) v) (fun tO v A d=>?_) (fun g=>by unfold Tt;exact Cn (by unfold ln;omega)) v (Sb d Aa fun e c=>Om)
  ·obtain⟨v1,H,K⟩:=B
   refine⟨v1,?_,Sb K Aa fun e c=>?_⟩
   ·unfold Tu
    simp only;rw[Ck (by unfold ln;omega),H,bd_ret,Out.on_go];simp only;rw[Ay Aa Aa]
   ·have m:=(i e c).tO;have o:=(i e c).bk;have w:=(i e c).wt
    unfold Lt;rw[Ey,Ey];simp only;omega
  ·have C:=Pl (f:=Ts l t fr tO) (n:=33) (fun k v=>UpTo l t ⟨fr,tO,k,0⟩ ((fr:Int) * 3696+tO * 231+k * 7) v) (fun bk v N d=>?_) (fun g=>by unfold Ts;exact Cn Aa) v (Sb d Aa fun e c=>Om)
   ·obtain⟨v2,I,L⟩:=C
    refine⟨v2,?_,Sb L Aa fun e c=>?_⟩
    ·unfold Tt
     simp only;rw[Ck (by unfold ln;omega),I,bd_ret,Out.on_go];simp only;rw[Ay Aa Aa]
    ·have o:=(i e c).bk;have w:=(i e c).wt
     unfold Lt;rw[Ey,Ey];simp only;omega
   ·have F:=Pl (f:=Tr l t fr tO bk) (n:=7) (fun k v=>UpTo l t ⟨fr,tO,bk,k⟩ ((fr:Int) * 3696+tO * 231+bk * 7+k) v) (fun wt v Q d=>?_) (fun g=>by unfold Tr;exact Cn Aa) v (Sb d Aa fun e c=>Om)
    ·obtain⟨v3,J,M⟩:=F
     refine⟨v3,?_,Sb M Aa fun e c=>?_⟩
     ·unfold Ts
      simp only;rw[Ck Aa,J,bd_ret,Out.on_go];simp only;rw[Ay Aa Aa]
     ·have w:=(i e c).wt
      unfold Lt;rw[Ey,Ey];simp only;omega
    ·have O:=d.len
     have y:=Axg (t:=t) (e:=⟨fr,tO,bk,wt⟩) x A rfl rfl p;unfold Tr;simp only;rw[Ck Aa,Awp p t x A Aa Aa,bd_ret,Ay Aa Aa];by_cases j:UseE l t tO ⟨fr,tO,bk,wt⟩∨MemE l fr tO ⟨fr,tO,bk,wt⟩
     ·rw[Dz j,br_true,Ax (AL32 (by rw[Ca,Lv];omega))]
      refine⟨_,rfl,Yw d.st fun e c=>((d.mem e).1 c).2,fun e=>?_,by rw[Ca,Lv];omega⟩;rw[F8,G7,d.mem];constructor
      ·rintro(⟨a,b⟩ | rfl)
       ·refine⟨a,?_⟩
        unfold Lt at b ⊢;rw[Ey] at b ⊢;simp only at b ⊢;omega
       ·exact⟨y.2 j,by unfold Lt;rw[Ey];exact .inr ⟨rfl,.inr ⟨rfl,.inr ⟨rfl,by show (wt:Int)<((wt+1:Nat):Int);omega⟩⟩⟩⟩
      ·rintro⟨a,b⟩
       unfold Lt at b;rw[Ey] at b;simp only at b;by_cases z:e=⟨fr,tO,bk,wt⟩
       ·exact .inr z
       ·refine .inl ⟨a,?_⟩
        unfold Lt;rw[Ey];simp only;have:¬(e.fr=fr∧e.tO=tO∧e.bk=bk∧e.wt=wt):=fun ⟨q,r,s,u⟩=>z (by cases e;simp only[Edg.mk.injEq] at *;exact⟨q,r,s,u⟩);omega
     ·rw[C3 j,br_false,Ay Aa Aa]
      refine⟨v,rfl,d.st,fun e=>?_,Aa⟩;rw[d.mem];constructor
      ·rintro⟨a,b⟩
       refine⟨a,?_⟩;unfold Lt at b ⊢;rw[Ey] at b ⊢;simp only at b ⊢;omega
      ·rintro⟨a,b⟩
       refine⟨a,?_⟩;unfold Lt at b ⊢;rw[Ey] at b ⊢;simp only at b ⊢
       have:¬(e.fr=fr∧e.tO=tO∧e.bk=bk∧e.wt=wt):=fun ⟨q,r,s,u⟩=>j (y.1 (by
        have:e=⟨fr,tO,bk,wt⟩:=by cases e;simp only[Edg.mk.injEq] at *;exact⟨q,r,s,u⟩
        rw[←this];exact a))
       omega
structure Cnt (P:Edg→Prop) (b:Nat) (v:List Edg):Prop where
 mem:∀ e,e∈v↔P e
 len:v.length≤b
theorem A33 {l:Lp} (p:LoopOk l) (I:l.Fine) {t:Tgt} (N:Df t=true):∃ E,Fi l t=some (E,0)∧Mb E∧(∀ e,e∈E↔EdgeP l t e):=by
 have S:=p.2.2.1;unfold Fi;rw[Agr l I,bd_ret,Jr,Dz p,N];simp only[F9,Kc,bdG_t,bd_ret,Si,br_false];have Xv:=Pl (f:=Nc l t) (n:=l.body.length) (fun k v=>Cnt (fun e=>∃ tO:Nat,tO<k∧(UseE l t tO e∨∃ fr:Nat,fr<l.body.length∧MemE l fr tO e)) (k * 18) v) (fun tO v s m=>?_) (fun g=>by unfold Nc;exact Cn (by unfold ln;omega)) [] ⟨fun e=>⟨fun h=>(by cases h),fun ⟨_,h,_⟩=>Aa⟩,Aaq _⟩
 ·obtain⟨v,B,m⟩:=Xv
  rw[B,bd_ret,Out.on_go];simp only;obtain⟨Q,R,U⟩:=Azw v;have K:=m.len;unfold Abe;rw[Ax Aa,bd_ret];obtain⟨ys,c1,c2,c3⟩:=Axj Q Aa;rw[c1,bd_ret];exact⟨ys,rfl,c2,fun e=>by rw[c3,R,m.mem];rfl⟩
 ·have T:=O1 (ele l.body (tO:Int))
  have K:=m.len;have z:=Pl (f:=Nb l t tO (Bm (ele l.body (tO:Int)))) (n:=(Bm (ele l.body (tO:Int))).length) (fun k w=>Cnt (fun e=>e∈v∨∃ j:Nat,j<k∧e=⟨(ele (Bm (ele l.body (tO:Int))) (j:Int)).st,tO,(ele (Bm (ele l.body (tO:Int))) (j:Int)).bk,Fb t (ele l.body (ele (Bm (ele l.body (tO:Int))) (j:Int)).st).op⟩) (tO * 18+k) w) (fun i w hi d=>?_) (fun g=>by unfold Nb;exact Cn (by unfold ln;omega)) v ⟨fun e=>⟨.inl,fun h=>h.elim id fun ⟨_,h,_⟩=>Aa⟩,Aa⟩
  ·obtain⟨v1,C,x⟩:=z
   have A:=Pl (f:=Na l tO) (n:=l.body.length) (fun k w=>Cnt (fun e=>e∈v1∨∃ fr:Nat,fr<k∧MemE l fr tO e) (tO * 18+2+k) w) (fun i w hi d=>?_) (fun g=>by unfold Na;exact Cn (by unfold ln;omega)) v1 ⟨fun e=>⟨.inl,fun h=>h.elim id fun ⟨_,h,_⟩=>Aa⟩,by have:=x.len;omega⟩
   ·obtain⟨v2,F,y⟩:=A
    refine⟨v2,?_,fun e=>?_,by have:=y.len;omega⟩
    ·unfold Nc
     simp only;rw[Ck (by unfold ln;omega),A8 Aa (by unfold ln;omega),Aa9,bd_ret,C,bd_ret,Out.on_go];simp only;rw[F,bd_ret,Out.on_go];simp only;rw[Ay Aa Aa]
    ·rw[y.mem,x.mem,m.mem]
     constructor
     ·rintro((⟨u,b,a⟩ | ⟨j,b,rfl⟩) | ⟨fr,b,a⟩)
      ·exact⟨u,Aa,a⟩
      ·exact⟨tO,Aa,.inl ⟨_,D9 b,rfl⟩⟩
      ·exact⟨tO,Aa,.inr ⟨fr,b,a⟩⟩
     ·rintro⟨u,b,a⟩
      by_cases c:u=tO
      ·subst c
       rcases a with ⟨r,L,rfl⟩ | ⟨fr,G,H⟩
       ·obtain⟨j,J,rfl⟩:=Qv L
        exact .inl (.inr ⟨j,J,rfl⟩)
       ·exact .inr ⟨fr,G,H⟩
      ·exact .inl (.inl ⟨u,Aa,a⟩)
   ·obtain⟨r,P,o⟩:=A0j p hi s
    have O:=d.len;unfold Na;simp only;rw[Ck (by unfold ln;omega),P,bd_ret,Ay Aa Aa];rcases o with ⟨o,q⟩ | ⟨o,q⟩
    ·rw[o,br_true,Ax (AL32 (by rw[Ca,Lv];omega))]
     refine⟨_,rfl,fun e=>?_,by rw[Ca,Lv];omega⟩;rw[F8,G7,d.mem];constructor
     ·rintro((h | ⟨f,b,a⟩) | rfl)
      ·exact .inl h
      ·exact .inr ⟨f,Aa,a⟩
      ·exact .inr ⟨i,Aa,q⟩
     ·rintro(h | ⟨f,b,a⟩)
      ·exact .inl (.inl h)
      ·by_cases c:f=i
       ·subst c;exact .inr (a.one q)
       ·exact .inl (.inr ⟨f,Aa,a⟩)
    ·rw[o,br_false,Ay Aa Aa]
     refine⟨w,rfl,fun e=>?_,Aa⟩;rw[d.mem];constructor
     ·rintro(h | ⟨f,b,a⟩)
      ·exact .inl h
      ·exact .inr ⟨f,Aa,a⟩
     ·rintro(h | ⟨f,b,a⟩)
      ·exact .inl h
      ·by_cases c:f=i
       ·subst c;exact absurd a (q e)
       ·exact .inr ⟨f,Aa,a⟩
  ·have O:=d.len
   have M:=(Ab6 p s (D9 hi)).st Aa;unfold Nb;simp only;rw[Ck (by unfold ln;omega),A8 Aa (by unfold ln;omega),A8 M.1 (by unfold ln;omega),N9,bd_ret,Ax (AL32 (by rw[Ca,Lv];omega)),Ay Aa Aa];refine⟨_,rfl,fun e=>?_,by rw[Ca,Lv];omega⟩;rw[F8,G7,d.mem];constructor
   ·rintro((h | ⟨j,b,a⟩) | rfl)
    ·exact .inl h
    ·exact .inr ⟨j,Aa,a⟩
    ·exact .inr ⟨i,Aa,rfl⟩
   ·rintro(h | ⟨j,b,a⟩)
    ·exact .inl (.inl h)
    ·by_cases c:j=i
     ·subst c;exact .inr a
     ·exact .inl (.inr ⟨j,Aa,a⟩)
theorem S6 {l:Lp} (c:LoopOk l) (i:l.Fine) {t:Tgt} (j:Df t=true):∃ E,Fi l t=some (E,0)∧Abf l t=some E∧Mb E∧(∀ e,e∈E↔EdgeP l t e)∧E.length≤60000:=by
 obtain⟨E,d,a,b⟩:=A33 c i j;obtain⟨F,f,g,f3,h⟩:=Az7 c t
 have:E=F:=Aig a g fun e=>by rw[b,f3]
 subst this;exact⟨E,d,f,a,b,h⟩
theorem Axf {l:Lp} (b:l.Fine) {t:Tgt} (h:¬(LoopOk l∧Df t=true)):Fi l t=some ([],2):=by
 unfold Fi;rw[Agr l b,bd_ret,Jr];by_cases a:LoopOk l
 ·have:Df t=Az:=by
   cases c:Df t with
   | true=>exact absurd ⟨a,c⟩ h
   | false=>rfl
  rw[Dz a,this];rfl
 ·rw[C3 a];rfl
noncomputable def J5 (l:Lp) (t:Tgt) (p:Pln):((List ((Int×Int)×Int))×Int)→Option (Stp ((List ((Int×Int)×Int))×Int) (Bool)):=fun (c,a) =>
 br (Ap (a<(ln p.times))) (
 ck (IX a (ln p.times)) <|
 br ((Ap ((ele p.times a)<0)) || (Ap ((ele p.times a)>1000))) (
 some (.ret Az)) (
 ck (p.pace≠0) <|
 ck (IX a (ln l.body)) <|
 bd (Fg ((ele l.body a).op)) fun b =>
 ck (IR ((Fz c ((Int.tmod (ele p.times a) p.pace),b) 0)+1)) <|
 ck (IX b 3) <|
 br (Ap ((Fz (Oi c ((Int.tmod (ele p.times a) p.pace),b) ((Fz c ((Int.tmod (ele p.times a) p.pace),b) 0)+1)) ((Int.tmod (ele p.times a) p.pace),b) 0)>(Cv t.u0 t.u1 t.u2 b))) (
 some (.ret Az)) (
 ck (IR (a+1)) <|
 some (.next ((Oi c ((Int.tmod (ele p.times a) p.pace),b) ((Fz c ((Int.tmod (ele p.times a) p.pace),b) 0)+1)),(a+1)))))) (
 some (.brk (c,a)))
noncomputable def J4 (p:Pln) (b:List Edg):Int→Option (Stp (Int) (Bool)):=fun a =>
 br (Ap (a<(ln b))) (
 ck (IX a (ln b)) <|
 ck (IX ((ele b a).tO) (ln p.times)) <|
 ck (IR ((ele b a).bk * p.pace)) <|
 ck (IR ((ele p.times ((ele b a).tO))+((ele b a).bk * p.pace))) <|
 ck (IX ((ele b a).fr) (ln p.times)) <|
 ck (IR ((ele p.times ((ele b a).fr))+(ele b a).wt)) <|
 br (Ap (((ele p.times ((ele b a).tO))+((ele b a).bk * p.pace))<((ele p.times ((ele b a).fr))+(ele b a).wt))) (
 some (.ret Az)) (
 ck (IR (a+1)) <|
 some (.next (a+1)))) (
 some (.brk a))
noncomputable def Ky (l:Lp) (t:Tgt) (p:Pln) (a:List Edg):Option (Bool) :=
 bd (lp (J5 l t p) (([]:List ((Int×Int)×Int)),0)) fun c=>c.on (fun (d,e) =>
 bd (lp (J4 p a) 0) fun b=>b.on (fun f =>
 some true) (fun r=>some r)) (fun r=>some r)
noncomputable def Lh (l:Lp) (t:Tgt) (p:Pln):Option (Bool) :=
 bd (Fi l t) fun a =>
 bdG ((((a.2==0)&&(Ap (p.pace≥1)))&&(Ap (p.pace≤200)))&&((ln p.times)==(ln l.body))) (Ky l t p a.1) fun b =>
 some (((((a.2==0)&&(Ap (p.pace≥1)))&&(Ap (p.pace≤200)))&&((ln p.times)==(ln l.body)))&&b)
def Hv (l:Lp) (p:Pln) (i:Nat):Int×Int:=(Int.tmod (ele p.times (i:Int)) p.pace,Kn (ele l.body (i:Int)).op)
def N0 (l:Lp) (p:Pln) (k:Nat) (κ:Int×Int):Nat:=(List.range k).countP fun j=>Ap (Hv l p j=κ)
def F6 (t:Tgt) (c:Int):Int:=Cv t.u0 t.u1 t.u2 c
theorem Lf (l:Lp) (p:Pln) (k:Nat) (κ:Int×Int):N0 l p (k+1) κ=N0 l p k κ+if Hv l p k=κ then 1 else 0:=by
 unfold N0;rw[Vx,Alv,Ard];by_cases h:Hv l p k=κ <;> simp[h]
theorem Awv (l : Lp) (p : Pln) {κ : Int × Int} {i j : Nat} (h : i ≤ j) : N0 l p i κ ≤ N0 l p j κ := by
  induction j with
  | zero => have : i = 0 := by omega
            subst this; exact Co _
  | succ j a =>
    by_cases e : i = j + 1
    · subst e; exact Co _
    · rw[Lf]; have := a Aa; omega
theorem Ang (l:Lp) (p:Pln) (κ:Int×Int):∀ k,N0 l p k κ≤k
 | 0=>Co _
 | k+1=>by rw[Lf];have:=Ang l p κ k;split <;> omega
theorem Ut {t:Tgt} (a:Df t=true) (c:Int):1≤F6 t c∧F6 t c≤4:=by
 rw[F0] at a;exact Afs ⟨a.1.1,a.1.2.1⟩ ⟨a.2.1.1,a.2.1.2.1⟩ ⟨a.2.2.1.1,a.2.2.1.2.1⟩
theorem Aup {l:Lp}{p:Pln}{t:Tgt} (b:Df t=true) {n:Nat}:(∀ k,k<n→(N0 l p (k+1) (Hv l p k):Int)≤F6 t (Hv l p k).2)↔(∀ i,i<n→(N0 l p n (Hv l p i):Int)≤F6 t (Hv l p i).2):=by
 constructor
 ·intro h
  have key:∀ k,k≤n→∀ κ,(N0 l p k κ:Int)≤F6 t κ.2:=by
   intro k
   induction k with
   | zero=>intro _ κ;have:=(Ut b κ.2).1;show ((0:Nat):Int)≤_;omega
   | succ k c =>
    intro a κ;by_cases e:Hv l p k=κ
    ·have:=h k Aa;rw[e] at this;exact this
    ·rw[Lf,Bg e];exact c Aa κ
  exact fun i _=>key n (Co _) _
 ·intro h k a
  have:=h k a;have:=Awv l p (κ:=Hv l p k) (show k+1≤n from a);omega
def Xn (p:Pln) (i:Nat):Prop:=0≤ele p.times (i:Int)∧ele p.times (i:Int)≤1000
def Ae1 (p:Pln) (e:Edg):Prop:=ele p.times e.fr+e.wt≤ele p.times e.tO+e.bk * p.pace
structure LegalP (l:Lp) (t:Tgt) (p:Pln):Prop where
 loop:LoopOk l
 tgt:Df t=true
 pace:1≤p.pace∧p.pace≤200
 len:p.times.length=l.body.length
 rng:∀ i,i<l.body.length→Xn p i
 units:∀ i,i<l.body.length→(N0 l p l.body.length (Hv l p i):Int)≤F6 t (Hv l p i).2
 edge:∀ e,EdgeP l t e→Ae1 p e
def Avi (l:Lp) (t:Tgt) (p:Pln):Prop:=((∀ i,i<l.body.length→Xn p i)∧(∀ i,i<l.body.length→(N0 l p l.body.length (Hv l p i):Int)≤F6 t (Hv l p i).2))∧∀ e,EdgeP l t e→Ae1 p e
theorem As0 {l:Lp}{p:Pln} (j:LoopOk l) (n:1≤p.pace∧p.pace≤200) (m:p.times.length=l.body.length) (f:∀ i,i<l.body.length→Xn p i) {t:Tgt}{e:Edg} (h:EdgeP l t e) :
  IX e.tO (ln p.times)∧IX e.fr (ln p.times)∧(0≤e.bk * p.pace∧e.bk * p.pace≤6400)∧(0≤ele p.times e.tO∧ele p.times e.tO≤1000)∧(0≤ele p.times e.fr∧ele p.times e.fr≤1000)∧(0≤e.wt∧e.wt≤6):=by
 obtain⟨g,a2,a3,a4,_⟩:=h.in j;have o:=Sr (a:=e.bk) (A:=32) (b:=p.pace) (B:=200) Aa Aa Aa Aa;have k:0≤e.bk * p.pace:=Agv a3.1 Aa;have c:=f e.tO.toNat Aa;have d:=f e.fr.toNat Aa;unfold Xn at c d;rw[show ((e.tO.toNat:Nat):Int)=e.tO from Aa] at c;rw[show ((e.fr.toNat:Nat):Int)=e.fr from Aa] at d;exact⟨⟨a2.1,by unfold ln;omega⟩,⟨g.1,by unfold ln;omega⟩,⟨k,Aa⟩,c,d,a4⟩
theorem Aee {l:Lp}{t:Tgt}{E:List Edg} (a:∀ e,e∈E↔EdgeP l t e) {q:Edg→Prop}:(∀ i:Nat,i<E.length→q (ele E (i:Int)))↔∀ e,EdgeP l t e→q e:=by
 constructor
 ·intro h e b
  obtain⟨i,hi,rfl⟩:=Qv ((a e).2 b);exact h i hi
 ·exact fun h i hi=>h _ ((a _).1 (D9 hi))
theorem Ay1 {l:Lp}{t:Tgt}{p:Pln} (r:LoopOk l) (w:Df t=true) (C:1≤p.pace∧p.pace≤200) (A:p.times.length=l.body.length) {E:List Edg} (o:∀ e,e∈E↔EdgeP l t e) (H:E.length≤60000):Ky l t p E=some (tb (Avi l t p)):=by
 have J:=r.2.2.1;unfold Ky
 rcases Amd (f:=J5 l t p) (n:=p.times.length) (r0:=Az) (fun i=>Xn p i∧(N0 l p (i+1) (Hv l p i):Int)≤F6 t (Hv l p i).2) (fun k m=>∀ κ,Fz m κ 0=(N0 l p k κ:Int)) (fun i m hi s=>by
   have q:=Kw (ele l.body (i:Int)).op;have I:=Ang l p (Hv l p i) i;have u:Fz m (Hv l p i) 0=(N0 l p i (Hv l p i):Int):=s _;have z:Hv l p i=(Int.tmod (ele p.times (i:Int)) p.pace,Kn (ele l.body (i:Int)).op):=rfl
   have B:Fz (Oi m (Hv l p i) (Fz m (Hv l p i) 0+1)) (Hv l p i) 0=(N0 l p (i+1) (Hv l p i):Int):=by rw[O2,Bj rfl,u,Lf,Bj rfl];rfl
   have e:J5 l t p (m,(i:Int))=br (!tb (Xn p i)) (some (.ret Az)) (br (Ap ((N0 l p (i+1) (Hv l p i):Int)>F6 t (Hv l p i).2)) (some (.ret Az)) (some (.next (Oi m (Hv l p i) (Fz m (Hv l p i) 0+1),(i:Int)+1)))):=by
    unfold J5;simp only;rw[Ck (by unfold ln;omega),A8 Aa (by unfold ln;omega)]
    have x:(Ap (ele p.times (i:Int)<0) || Ap (ele p.times (i:Int)>1000))=!tb (Xn p i):=by
     have:(!(Ap (ele p.times (i:Int)<0) || Ap (ele p.times (i:Int)>1000)))=tb (Xn p i):=L6 (by unfold Xn;simp);rw[←this,Adc]
    rw[x,Ax Aa,A8 Aa (by unfold ln;omega),Pb,bd_ret,←z,Ay Aa Aa,A8 q.1 q.2,B,Ay Aa Aa];rfl
   rw[e];by_cases a:Xn p i
   ·rw[Dz a,F9,br_false]
    by_cases b:(N0 l p (i+1) (Hv l p i):Int)>F6 t (Hv l p i).2
    ·rw[Ck b];exact .inr ⟨fun h=>Aa,rfl⟩
    ·rw[Cn b]
     refine .inl ⟨⟨a,Aa⟩,_,rfl,fun κ=>?_⟩;rw[O2,Lf];by_cases c:Hv l p i=κ
     ·rw[Bj c,Bj c,u,c];rfl
     ·rw[Bg c,Bg c,s];rfl
   ·rw[C3 a];exact .inr ⟨fun h=>a h.1,rfl⟩) (fun g=>by unfold J5;exact Cn (by unfold ln;omega)) [] (fun κ=>rfl) with ⟨a,m,d,_⟩ | ⟨a,d⟩
 ·rw[d,bd_ret,Out.on_go]
  simp only;have v:∀ i,i<l.body.length→Xn p i:=fun i hi=>(a i Aa).1;have y:=(Aup (l:=l) (p:=p) w (n:=l.body.length)).1 fun i hi=>(a i Aa).2
  rcases V3 (f:=J4 p E) (n:=E.length) (p:=fun i=>Ae1 p (ele E (i:Int))) (fun i hi _=>by
    obtain⟨F,G,K,L,x5,M⟩:=As0 r C A v ((o _).1 (D9 hi))
    have e:J4 p E i=br (!tb (Ae1 p (ele E (i:Int)))) (some (.ret Az)) (some (.next ((i:Int)+1))):=by
     unfold J4;rw[Ck (by unfold ln;omega),A8 Aa (by unfold ln;omega),Ax F,Ay Aa Aa,Ay Aa Aa,Ax G,Ay Aa Aa,Ay Aa Aa];congr 1;have:(!Ap (ele p.times (ele E (i:Int)).tO+(ele E (i:Int)).bk * p.pace<ele p.times (ele E (i:Int)).fr+(ele E (i:Int)).wt))=tb (Ae1 p (ele E (i:Int))):=L6 (by unfold Ae1;simp);rw[←this,Adc]
    rw[e]
    exact⟨fun h=>by rw[Dz h];rfl,fun h=>by rw[C3 h];rfl⟩) (by unfold J4;exact Cn (by unfold ln;omega)) with ⟨b,j⟩ | ⟨b,j⟩
  ·rw[j,bd_ret,Out.on_go,Dz ⟨⟨v,y⟩,(Aee o).1 b⟩]
  ·rw[j,bd_ret,Out.on_ret,C3 fun h=>b ((Aee o).2 h.2)]
 ·rw[d,bd_ret,Out.on_ret,C3 fun h=>a fun i hi=>⟨h.1.1 i Aa,(Aup w).2 h.1.2 i Aa⟩]
theorem Ad7 {l:Lp}{t:Tgt}{p:Pln}:LegalP l t p↔(LoopOk l∧Df t=true)∧(1≤p.pace∧p.pace≤200)∧p.times.length=l.body.length∧Avi l t p :=
 ⟨fun h=>⟨⟨h.loop,h.tgt⟩,h.pace,h.len,⟨h.rng,h.units⟩,h.edge⟩,fun ⟨b,c,d,a⟩=>⟨b.1,b.2,c,d,a.1.1,a.1.2,a.2⟩⟩
theorem Au2 {l:Lp} (d:l.Fine) (t:Tgt) (p:Pln):Lh l t p=some (tb (LegalP l t p)):=by
 unfold Lh;by_cases h:LoopOk l∧Df t=true
 ·obtain⟨E,f,j,k,g,i⟩:=S6 h.1 d h.2
  rw[f,bd_ret];simp only;by_cases b:(1≤p.pace∧p.pace≤200)∧p.times.length=l.body.length
  ·have c:((((0:Int)==0)&&(Ap (p.pace≥1)))&&(Ap (p.pace≤200))&&((ln p.times)==(ln l.body)))=true:=by
    unfold ln;simp only[Fa,Ij,Dk];exact⟨⟨⟨trivial,Aa⟩,Aa⟩,Aa⟩
   rw[c,Ay1 h.1 h.2 b.1 b.2 g i,bdG_t,bd_ret,Rl];congr 1;exact Ht ⟨fun a=>Ad7.2 ⟨h,b.1,b.2,a⟩,fun a=>(Ad7.1 a).2.2.2⟩
  ·have c:((((0:Int)==0)&&(Ap (p.pace≥1)))&&(Ap (p.pace≤200))&&((ln p.times)==(ln l.body)))=Az:=by
    cases e:((((0:Int)==0)&&(Ap (p.pace≥1)))&&(Ap (p.pace≤200))&&((ln p.times)==(ln l.body))) with
    | false=>rfl
    | true =>
     unfold ln at e;simp only[Fa,Ij,Dk] at e;exact absurd ⟨⟨Aa,Aa⟩,Aa⟩ b
   rw[c,bdG_f,Adj,C3 fun a=>b ⟨a.pace,a.len⟩]
 ·rw[Axf d h,bd_ret,C3 fun a=>h ⟨a.loop,a.tgt⟩]
  rfl
noncomputable def Jo (a b:Int):Option (Int) :=
 ck (b≠0) <|
 ck (IR ((Int.tmod a b)+b)) <|
 ck (b≠0) <|
 some (Int.tmod ((Int.tmod a b)+b) b)
noncomputable def M9 (t:Tgt) (b:List Int):Int→Option (Stp (Int) (Krn×Int)):=fun a =>
 br (Ap (a<(ln b))) (
 ck (IX a (ln b)) <|
 br ((Ap ((ele b a)<0)) || (Ap ((ele b a)≥t.regs))) (
 some (.ret ((Krn.mk 0 0 []),2))) (
 ck (IR (a+1)) <|
 some (.next (a+1)))) (
 some (.brk a))
noncomputable def Ju (t:Tgt) (p:Pln) (d:List Int) (b:List Rf):((List Int)×Int)→Option (Stp ((List Int)×Int) (Empty)):=fun (c,a) =>
 br (Ap (a<(ln b))) (
 ck (IX a (ln b)) <|
 ck (IX ((ele b a).st) (ln d)) <|
 ck (IX ((ele b a).st) (ln p.times)) <|
 ck (p.pace≠0) <|
 ck (IR (Int.tdiv (ele p.times ((ele b a).st)) p.pace)) <|
 ck (IR ((ele d ((ele b a).st))+(Int.tdiv (ele p.times ((ele b a).st)) p.pace))) <|
 ck (IR (((ele d ((ele b a).st))+(Int.tdiv (ele p.times ((ele b a).st)) p.pace)) - (ele b a).bk)) <|
 ck (IX 1 (ln c)) <|
 ck (IR ((((ele d ((ele b a).st))+(Int.tdiv (ele p.times ((ele b a).st)) p.pace)) - (ele b a).bk) - (ele c 1))) <|
 bd (Jo ((((ele d ((ele b a).st))+(Int.tdiv (ele p.times ((ele b a).st)) p.pace)) - (ele b a).bk) - (ele c 1)) t.regs) fun e =>
 ck (IX a 2) <|
 ck (IX (4+a) (ln c)) <|
 ck (IR (a+1)) <|
 some (.next ((upd c (4+a) e),(a+1)))) (
 some (.brk (c,a)))
noncomputable def Jv (l:Lp) (t:Tgt) (p:Pln) (c:List Int):((List Opr)×Int×Int)→Option (Stp ((List Opr)×Int×Int) (Empty)):=fun (d,e,a) =>
 br (Ap (a<(ln l.body))) (
 ck (IX a (ln l.body)) <|
 ck (IX a (ln p.times)) <|
 ck (p.pace≠0) <|
 ck (IX a (ln p.times)) <|
 ck (p.pace≠0) <|
 ck (IR (Int.tdiv (ele p.times a) p.pace)) <|
 ck (IX a (ln c)) <|
 bd (Fh (ele l.body a)) fun g =>
 bd (lp (Ju t p c g) (([(Int.tmod (ele p.times a) p.pace),(Int.tdiv (ele p.times a) p.pace),(ele l.body a).op,(ele c a),0,0,(ele l.body a).ar,(ele l.body a).sp,(ele l.body a).pl,(ele l.body a).n]:List Int),0)) fun f=>f.on (fun (b,h) =>
 ck (b.length=10) <|
 ck (AL (d++[(Z7 b)]).length 80) <|
 ck (IX 1 (ln b)) <|
 ck (IR ((ele b 1)+1)) <|
 ck (IR (a+1)) <|
 some (.next ((d++[(Z7 b)]),(max e ((ele b 1)+1)),(a+1)))) (fun r=>r.elim)) (
 some (.brk (d,e,a)))
noncomputable def Q7 (l:Lp) (t:Tgt) (p:Pln) (a:List Int):Option (Krn×Int) :=
 bd (Lh l t p) fun x5 =>
 br ((!x5) || ((ln a) != (ln l.body))) (
 some ((Krn.mk 0 0 []),2)) (
 bd (lp (M9 t a) 0) fun c=>c.on (fun f =>
 bd (lp (Jv l t p a) ([],0,0)) fun d=>d.on (fun (e,b,g) =>
 some ((Krn.mk p.pace b e),0)) (fun r=>r.elim)) (fun r=>some r))
def Fu (p:Pln) (i:Int):Int:=Int.tdiv (ele p.times i) p.pace
def Alb (t:Tgt) (p:Pln) (a:List Int) (i:Int) (r:Rf):Int:=(ele a r.st+Fu p r.st - r.bk - Fu p i) % t.regs
def abV (t:Tgt) (p:Pln) (c:List Int) (i:Int) (us:List Rf):Int×Int:=match us with | []=>(0,0) | [a]=>(Alb t p c i a,0) | a::b::_=>(Alb t p c i a,Alb t p c i b)
def An1 (l:Lp) (t:Tgt) (p:Pln) (a:List Int) (i:Int) (us:List Rf):Opr :=
 ⟨Int.tmod (ele p.times i) p.pace,Fu p i,(ele l.body i).op,ele a i,(abV t p a i us).1,(abV t p a i us).2,(ele l.body i).ar,(ele l.body i).sp,(ele l.body i).pl,(ele l.body i).n⟩
def Pn (p:Pln):Nat→Int
 | 0=>0
 | i+1=>max (Pn p i) (Fu p i+1)
def Ad0 (t:Tgt) (a:List Int) (i:Nat):Prop:=0≤ele a (i:Int)∧ele a (i:Int)<t.regs
def Aqv (l:Lp) (t:Tgt) (p:Pln) (a:List Int):Krn:=⟨p.pace,Pn p l.body.length,(List.range l.body.length).map fun i:Nat=>An1 l t p a i (Bm (ele l.body (i:Int)))⟩
def Ab5 (l:Lp) (t:Tgt) (p:Pln) (a:List Int):Prop:=LegalP l t p∧a.length=l.body.length∧∀ i,i<l.body.length→Ad0 t a i
theorem Aa2 {p:Pln}{i:Nat} (d:1≤p.pace∧p.pace≤200) (c:Xn p i):0≤Fu p i∧Fu p i≤1000:=by
 unfold Fu;obtain⟨a,b⟩:=c;rw[Agf a];exact⟨Agy a Aa,X0 (Ag1 _ a) b⟩
theorem Acd {a b:Int} (d:1≤b) (c:b≤128):Jo a b=some (a % b):=by
 have e:=Uu a (show 0<b from Aa);unfold Jo;rw[Ax Aa,Ay Aa Aa,Ax Aa];congr 1;rw[Ajm Aa,Aq7];have h:=Al1 a b;rw[show Int.tmod a b=a - b * Int.tdiv a b from Aa,Al5]
theorem A2a {l:Lp}{t:Tgt}{p:Pln}{a:List Int} (h:Ab5 l t p a) {i:Nat} (hi:i<l.body.length) {r:Rf} (j:r∈Bm (ele l.body (i:Int))) :
  (0≤r.st∧r.st<l.body.length)∧(0≤r.bk∧r.bk≤3)∧(0≤Fu p r.st∧Fu p r.st≤1000)∧(0≤Fu p i∧Fu p i≤1000)∧(0≤ele a r.st∧ele a r.st<128)∧(1≤t.regs∧t.regs≤128):=by
 have b:=Ab6 h.1.loop hi j;have e:=b.st Aa;obtain⟨k,g⟩:=Ik e.1;have c:k<l.body.length:=Aa;have d:=h.1.tgt;rw[F0] at d;have f:=h.2.2 k c;rw[g];unfold Ad0 at f;exact⟨Aa,⟨b.1,b.2.1⟩,Aa2 h.1.pace (h.1.rng k c),Aa2 h.1.pace (h.1.rng i hi),Aa,d.2.2.2⟩
theorem A3i {l:Lp}{t:Tgt}{p:Pln}{a:List Int} (h:Ab5 l t p a) {i:Nat} (hi:i<l.body.length) {us:List Rf} (e:∀ r∈us,r∈Bm (ele l.body (i:Int))) {j:Nat} (d:j<us.length) (k:j<2) {b:List Int} (f:b.length=10) (c:ele b 1=Fu p i) :
  Ju t p a us (b,(j:Int))=some (.next (upd b (4+(j:Int)) (Alb t p a i (ele us (j:Int))),(j:Int)+1)):=by
 obtain⟨o,q,s,u,v,w⟩:=A2a h hi (e _ (D9 d));have m:=h.1.len;have g:=h.2.1;have n:=h.1.pace;unfold Ju;simp only;unfold Alb;unfold Fu at *
 rw[Ck (by unfold ln;omega),A8 Aa (by unfold ln;omega),A8 Aa (by unfold ln;omega),A8 Aa (by unfold ln;omega),Ax Aa,Ay Aa Aa,Ay Aa Aa,Ay Aa Aa,A8 Aa (by unfold ln;omega),c,Ay Aa Aa,Acd Aa Aa,bd_ret,
  A8 Aa Aa,A8 Aa (by unfold ln;omega),Ay Aa Aa]
theorem Asz {l:Lp}{t:Tgt}{p:Pln}{d:List Int} (h:Ab5 l t p d) {i:Nat} (hi:i<l.body.length) {c1 c2 c3 c4 c5 c6 c7:Int} :
  ∃ b,lp (Ju t p d (Bm (ele l.body (i:Int)))) ([c1,Fu p i,c2,c3,0,0,c4,c5,c6,c7],0)=some (.go (b,((Bm (ele l.body (i:Int))).length:Int)))∧b=[c1,Fu p i,c2,c3,(abV t p d i (Bm (ele l.body (i:Int)))).1,(abV t p d i (Bm (ele l.body (i:Int)))).2,c4,c5,c6,c7]:=by
 have o:=O1 (ele l.body (i:Int));have f:=fun {j:Nat} m n {b:List Int} g k=>A3i h hi (us:=Bm (ele l.body (i:Int))) (fun r q=>q) (j:=j) m n (b:=b) g k;generalize Bm (ele l.body (i:Int))=us at *
 have e:∀ b:List Int,Ju t p d us (b,(us.length:Int))=some (.brk (b,(us.length:Int))):=fun b=>by
  unfold Ju;exact Cn (by unfold ln;omega)
 match us,o with
 | [],_=>exact⟨_,Db (e _),rfl⟩
 | [a],_ =>
  refine⟨_,B4 (f (j:=0) Bf Aa rfl rfl) (Db (e _)),rfl⟩
 | [a,c],_ =>
  refine⟨_,B4 (f (j:=0) Bf Aa rfl rfl) (B4 (f (j:=1) Bf Aa rfl rfl) (Db (e _))),rfl⟩
theorem Awr {l:Lp}{t:Tgt}{p:Pln}{a:List Int} (h:Ab5 l t p a):lp (Jv l t p a) ([],0,0)=some (.go ((Aqv l t p a).ops,(Aqv l t p a).stages,(l.body.length:Int))):=by
 have q:=h.1.len;have o:=h.2.1;have m:=h.1.pace;have r:=h.1.loop.2.2.1;refine G8 (f:=Jv l t p a) (fun i=>((List.range i).map fun i:Nat=>An1 l t p a i (Bm (ele l.body (i:Int))),Pn p i,(i:Int))) l.body.length (fun i hi=>?_) (by unfold Jv;exact Cn (by unfold ln;omega));have hs:=Aa2 m (h.1.rng i hi);obtain⟨b,c,d⟩:=Asz h hi (c1:=Int.tmod (ele p.times (i:Int)) p.pace) (c2:=(ele l.body (i:Int)).op) (c3:=ele a (i:Int)) (c4:=(ele l.body (i:Int)).ar) (c5:=(ele l.body (i:Int)).sp) (c6:=(ele l.body (i:Int)).pl) (c7:=(ele l.body (i:Int)).n);have e:Int.tdiv (ele p.times (i:Int)) p.pace=Fu p i:=rfl;unfold Jv;simp only;rw[Ck (by unfold ln;omega),A8 Aa (by unfold ln;omega),A8 Aa (by unfold ln;omega),Ax Aa,A8 Aa (by unfold ln;omega),Ax Aa,e,Ay Aa Aa,A8 Aa (by unfold ln;omega),Aa9,bd_ret,c,bd_ret,Out.on_go,d];simp only;rw[Ax (by rfl)];have j:Z7 [Int.tmod (ele p.times (i:Int)) p.pace,Fu p i,(ele l.body (i:Int)).op,ele a (i:Int),(abV t p a i (Bm (ele l.body (i:Int)))).1,(abV t p a i (Bm (ele l.body (i:Int)))).2,(ele l.body (i:Int)).ar,(ele l.body (i:Int)).sp,(ele l.body (i:Int)).pl,(ele l.body (i:Int)).n]=An1 l t p a i (Bm (ele l.body (i:Int))):=rfl;rw[j,Ax (AL80 (by simp;omega)),A8 Aa (by unfold ln;simp)];have k:ele [Int.tmod (ele p.times (i:Int)) p.pace,Fu p i,(ele l.body (i:Int)).op,ele a (i:Int),(abV t p a i (Bm (ele l.body (i:Int)))).1,(abV t p a i (Bm (ele l.body (i:Int)))).2,(ele l.body (i:Int)).ar,(ele l.body (i:Int)).sp,(ele l.body (i:Int)).pl,(ele l.body (i:Int)).n] 1=Fu p i:=rfl;rw[k,Ay Aa Aa,Ay Aa Aa,rm_succ (g:=fun i:Nat=>An1 l t p a i (Bm (ele l.body (i:Int))))];rfl
theorem A60 {l:Lp} (k:l.Fine) (t:Tgt) (p:Pln) {a:List Int} (m:a.length≤9223372036854775807):Q7 l t p a=some (if tb (Ab5 l t p a)=true then (Aqv l t p a,0) else (⟨0,0,[]⟩,2)):=by
 unfold Q7;rw[Au2 k,bd_ret];by_cases b:LegalP l t p∧a.length=l.body.length
 ·rw[Dz b.1,show ((!true) || ((ln a) != (ln l.body)))=Az from by unfold ln;simp[b.2],br_false]
  have n:=b.1.loop.2.2.1
  rcases Lz (f:=M9 t a) (fun i=>(i:Int)) a.length (Ad0 t a) (fun _=>((Krn.mk 0 0 []),2)) (fun i hi _=>by
    unfold M9 Ad0;rw[Ck (by unfold ln;omega),A8 Aa (by unfold ln;omega)];constructor
    ·intro h
     rw[show (Ap (ele a (i:Int)<0) || Ap (ele a (i:Int)≥t.regs))=Az from by simp;omega,br_false,Ay Aa Aa];rfl
    ·intro h
     rw[show (Ap (ele a (i:Int)<0) || Ap (ele a (i:Int)≥t.regs))=true from by simp;omega,br_true]) (by unfold M9;exact Cn (by unfold ln;omega)) with ⟨d,e⟩ | ⟨i,d,g,_,e⟩
  ·have c:Ab5 l t p a:=⟨b.1,b.2,fun i hi=>d i Aa⟩
   rw[show (0:Int)=((0:Nat):Int) from rfl,e,bd_ret,Out.on_go];have:=Awr c;rw[show lp (Jv l t p a) ([],((0:Nat):Int),((0:Nat):Int))=_ from this,bd_ret,Out.on_go,Dz c];rfl
  ·rw[show (0:Int)=((0:Nat):Int) from rfl,e,bd_ret,Out.on_ret,C3 fun c:Ab5 l t p a=>g (c.2.2 i Aa)]
   rfl
 ·have j:((!tb (LegalP l t p)) || ((ln a) != (ln l.body)))=true:=by
   by_cases h:LegalP l t p
   ·have:¬a.length=l.body.length:=fun e=>b ⟨h,e⟩
    rw[Dz h];unfold ln;simp;omega
   ·rw[C3 h];rfl
  rw[j,br_true,C3 fun c:Ab5 l t p a=>b ⟨c.1,c.2.1⟩];rfl
theorem Amu {α:Type}{v:List α}{i:Int}{x:α}:(upd v i x).length=v.length:=List.length_set
theorem Am8 {l:Lp}{t:Tgt}{p:Pln}{a:List Int}:(Aqv l t p a).ops.length=l.body.length:=by unfold Aqv;simp
noncomputable def Mi (a:Int) (c:List Rf):(Int×Int)→Option (Stp (Int×Int) (Empty)):=fun (d,b) =>
 br (Ap (b<(ln c))) (
 ck (IX b (ln c)) <|
 br ((ele c b).st==a) (
 ck (IR (b+1)) <|
 some (.next ((max d ((ele c b).bk)),(b+1)))) (
 ck (IR (b+1)) <|
 some (.next (d,(b+1))))) (
 some (.brk (d,b)))
noncomputable def Mj (l:Lp) (a:Int):(Int×Int)→Option (Stp (Int×Int) (Empty)):=fun (d,c) =>
 br (Ap (c<(ln l.body))) (
 ck (IX c (ln l.body)) <|
 bd (Fh (Stm.mk ((ele l.body c).op) ((ele l.body c).a) ((ele l.body c).b) ((ele l.body c).ar) ((ele l.body c).sp) ((ele l.body c).pl) ((ele l.body c).n))) fun g =>
 bd (lp (Mi a g) (d,0)) fun f=>f.on (fun (e,h) =>
 ck (IR (c+1)) <|
 some (.next (e,(c+1)))) (fun r=>r.elim)) (
 some (.brk (d,c)))
noncomputable def Qn (l:Lp) (a:Int):Option (Int) :=
 bd (lp (Mj l a) (0,0)) fun c=>c.on (fun (b,d) =>
 some b) (fun r=>r.elim)
noncomputable def Ib (s:List Int) (v:Int):Int→Option (Stp (Int) (Int)):=fun a =>
 br (Ap (a<(ln s))) (
 ck (IX a (ln s)) <|
 br (v==(ele s a)) (
 some (.ret a)) (
 ck (IR (a+1)) <|
 some (.next (a+1)))) (
 some (.brk a))
noncomputable def Oh (s:List Int) (v:Int):Option (Int) :=
 bd (lp (Ib s v) 0) fun a=>a.on (fun b =>
 some (-1)) (fun r=>some r)
noncomputable def I5 (s:List Int) (v:Int):Option (Bool) :=
 bd (Oh s v) fun a =>
 some (Ap (a≥0))
noncomputable def Oy (f:Int) (g:List Int) (a e:Int) (c:List Rf):((List Use)×Int)→Option (Stp ((List Use)×Int) (Empty)):=fun (d,b) =>
 br (Ap (b<(ln c))) (
 ck (IX b (ln c)) <|
 br ((ele c b).st==a) (
 ck (IX e (ln g)) <|
 ck (IR ((ele c b).bk * f)) <|
 ck (IR ((ele g e)+((ele c b).bk * f))) <|
 ck (AL (d++[(Use.mk ((ele g e)+((ele c b).bk * f)) (Ap ((ele c b).bk>0)))]).length 16) <|
 ck (IR (b+1)) <|
 some (.next ((d++[(Use.mk ((ele g e)+((ele c b).bk * f)) (Ap ((ele c b).bk>0)))]),(b+1)))) (
 ck (IR (b+1)) <|
 some (.next (d,(b+1))))) (
 some (.brk (d,b)))
noncomputable def Qr (d:List Stm) (i:Int) (j:List Int) (a:Int):((List Use)×Int)→Option (Stp ((List Use)×Int) (Empty)):=fun (e,c) =>
 br (Ap (c<(ln d))) (
 ck (IX c (ln d)) <|
 bd (Fh (Stm.mk ((ele d c).op) ((ele d c).a) ((ele d c).b) ((ele d c).ar) ((ele d c).sp) ((ele d c).pl) ((ele d c).n))) fun h =>
 bd (lp (Oy i j a c h) (e,0)) fun f=>f.on (fun (g,k) =>
 ck (IR (c+1)) <|
 some (.next (g,(c+1)))) (fun r=>r.elim)) (
 some (.brk (e,c)))
noncomputable def Vg (d:List Stm) (e h:Int) (f:List Int) (a:Int):Option (List Use) :=
 bd (lp (Qr d e f a) ([],0)) fun b=>b.on (fun (c,g) =>
 some c) (fun r=>r.elim)
noncomputable def O7 (f:Int) (d:List Int) (a e j:Int) (c:List Use):Int→Option (Stp (Int) (Bool)):=fun b =>
 br (Ap (b<(ln c))) (
 ck (IX b (ln c)) <|
 ck (IX a (ln d)) <|
 br (((Ap (((ele d e)+(j * f))≥(ele d a)))&&(Ap (((ele d e)+(j * f))≤(ele c b).til))) || (((ele c b).later&&(Ap (j>0)))&&(Ap (((ele d e)+(j * f))≤(ele c b).til)))) (
 some (.ret true)) (
 ck (IR (b+1)) <|
 some (.next (b+1)))) (
 some (.brk b))
noncomputable def Yu (h:List Int) (d k:Int) (b:List Int) (a c j:Int) (f:List Use):Option (Bool) :=
 ck (IX c (ln b)) <|
 ck (IR (j * d)) <|
 ck (IR ((ele b c)+(j * d))) <|
 bd (lp (O7 d b a c j f) 0) fun e=>e.on (fun i =>
 ck ((Ap (j≤0))=true→IX a (ln b)) <|
 bdG ((Ap (j≤0))&&(Ap (((ele b c)+(j * d))≥(ele b a)))) (I5 h a) fun g =>
 some (((Ap (j≤0))&&(Ap (((ele b c)+(j * d))≥(ele b a))))&&g)) (fun r=>some r)
noncomputable def Pe (h:List Int) (e d:Int) (i:List Int) (a c:Int) (f:List Use):Int→Option (Stp (Int) (Bool)):=fun b =>
 br (Ap (b≤((Int.tdiv 4000 e)+1))) (
 bdG ((c != a) || (b != 0)) (Yu h e d i a c b f) fun g =>
 br (((c != a) || (b != 0))&&g) (
 some (.ret Az)) (
 ck (IR (b+d)) <|
 some (.next (b+d)))) (
 some (.brk b))
noncomputable def Me (h:List Stm) (i:List Int) (c b:Int) (k j d:List Int) (a e:Int):Option (Bool) :=
 bd (Vg h c b k a) fun g =>
 ck (IX a (ln d)) <|
 ck (IX e (ln d)) <|
 ck (IR ((ele d a) - (ele d e))) <|
 ck (b≠0) <|
 ck (IR ((Int.tmod ((ele d a) - (ele d e)) b)+b)) <|
 ck (b≠0) <|
 ck (c≠0) <|
 ck (IR (Int.tdiv 4000 c)) <|
 ck (IR ((Int.tdiv 4000 c)+1)) <|
 ck (b≠0) <|
 ck (IR (Int.tdiv ((Int.tdiv 4000 c)+1) b)) <|
 ck (IR ((Int.tdiv ((Int.tdiv 4000 c)+1) b)+2)) <|
 ck (IR (((Int.tdiv ((Int.tdiv 4000 c)+1) b)+2) * b)) <|
 ck (IR ((Int.tmod ((Int.tmod ((ele d a) - (ele d e)) b)+b) b) - (((Int.tdiv ((Int.tdiv 4000 c)+1) b)+2) * b))) <|
 bd (lp (Pe i c b j a e g) ((Int.tmod ((Int.tmod ((ele d a) - (ele d e)) b)+b) b) - (((Int.tdiv ((Int.tdiv 4000 c)+1) b)+2) * b))) fun f=>f.on (fun l =>
 some true) (fun r=>some r)
noncomputable def Jz (a:Int) (d l:List Int) (c f:Int):((List (Int×Bool))×Int)→Option (Stp ((List (Int×Bool))×Int) (Bool)):=fun (e,b) =>
 br (Ap (b<f)) (
 ck (IX (ele l c) (ln d)) <|
 ck (IR ((ele d (ele l c)) - b)) <|
 ck (IR (((ele d (ele l c)) - b) - 1)) <|
 ck (a≠0) <|
 ck (IR ((Int.tmod (((ele d (ele l c)) - b) - 1) a)+a)) <|
 ck (a≠0) <|
 br (Fz e (Int.tmod ((Int.tmod (((ele d (ele l c)) - b) - 1) a)+a) a) Az) (
 some (.ret Az)) (
 ck (IR (b+1)) <|
 some (.next ((Oi e (Int.tmod ((Int.tmod (((ele d (ele l c)) - b) - 1) a)+a) a) true),(b+1))))) (
 some (.brk (e,b)))
noncomputable def Nf (g:List Int) (f:List Stm) (h:List Int) (j:Int) (i l:List Int):((List (Int×Bool))×Int)→Option (Stp ((List (Int×Bool))×Int) (Bool)):=fun (b,a) =>
 br (Ap (a<(ln l))) (
 ck (IX a (ln l)) <|
 bd (Qn (Lp.mk g f h) (ele l a)) fun e =>
 bd (lp (Jz j i l a e) (b,0)) fun d=>d.on (fun (c,k) =>
 ck (IR (a+1)) <|
 some (.next (c,(a+1)))) (fun r=>some (.ret r))) (
 some (.brk (b,a)))
noncomputable def Mm (c:List Int) (b:List Stm) (d:List Int) (i f:Int) (e l:List Int):Option (Bool) :=
 bd (lp (Nf c b d f e l) (([]:List (Int×Bool)),0)) fun a=>a.on (fun (g,h) =>
 some true) (fun r=>some r)
structure LayD where
 (logs:List Int)
 (body:List Stm)
 (outs:List Int)
 (pace regs:Int)
 (time ready places:List Int)
structure LayD.Ok (y:LayD):Prop where
 n:1≤y.body.length∧y.body.length≤16
 lt:y.time.length=y.body.length
 lr:y.ready.length=y.body.length
 lp:y.places.length=y.body.length
 lo:y.outs.length≤100000
 pace:1≤y.pace∧y.pace≤200
 regs:1≤y.regs∧y.regs≤128
 tm:∀ i:Nat,i<y.body.length→0≤ele y.time (i:Int)∧ele y.time (i:Int)≤1000
 rd:∀ i:Nat,i<y.body.length→0≤ele y.ready (i:Int)∧ele y.ready (i:Int)≤1006
 pl:∀ i:Nat,i<y.body.length→-100000≤ele y.places (i:Int)∧ele y.places (i:Int)≤100000
 us:∀ i:Nat,i<y.body.length→∀ r∈Bm (ele y.body (i:Int)),0≤r.st∧r.st<y.body.length∧0≤r.bk∧r.bk≤3
def Ald (a:Int):List Rf→Int→Int
 | [],f=>f
 | r::us,f=>Ald a us (if r.st=a then max f r.bk else f)
def An2 (body:List Stm) (a:Int):Nat→Int
 | 0=>0
 | k+1=>Ald a (Bm (ele body (k:Int))) (An2 body a k)
def Uj (body:List Stm) (a:Int):Int:=An2 body a body.length
theorem Apo (a:Int):∀ (u v:List Rf) (f:Int),Ald a (u++v) f=Ald a v (Ald a u f)
 | [],_,_=>rfl
 | r::u,v,f=>Apo a u v _
theorem Auk (a:Int):∀ (u:List Rf) (f:Int),f≤Ald a u f∧∀ r∈u,r.st=a→r.bk≤Ald a u f
 | [],f=>⟨Fo _,fun r h=>by cases h⟩
 | r::u,f=>by
  have h:=Auk a u (if r.st=a then max f r.bk else f);refine⟨X0 ?_ h.1,fun x b hs=>?_⟩
  ·split <;> omega
  ·rcases Gw.1 b with rfl | b
   ·refine X0 ?_ h.1
    rw[Bj hs];omega
   ·exact h.2 x b hs
theorem Auj (a:Int) {B:Int}:∀ (u:List Rf) (f:Int),f≤B→(∀ r∈u,r.bk≤B)→Ald a u f≤B
 | [],_,h,_=>h
 | r::u,f,h,hu=>Auj a u _ (by have:=hu r Bf;split <;> omega) fun x b=>hu x (by simp[b])
theorem Aul {body:List Stm} (b:∀ i:Nat,i<body.length→∀ r∈Bm (ele body (i:Int)),0≤r.bk∧r.bk≤3) (a:Int):∀ k,k≤body.length→0≤An2 body a k∧An2 body a k≤3
 | 0,_=>by show 0≤(0:Int)∧(0:Int)≤3;omega
 | k+1,h=>by
  have c:=Aul b a k Aa;have d:=Auk a (Bm (ele body (k:Int))) (An2 body a k);exact⟨X0 c.1 d.1,Auj a _ _ c.2 fun r e=>(b k Aa r e).2⟩
theorem A4p {l:Lp} (h:l.body.length≤16) (m:∀ i:Nat,i<l.body.length→∀ r∈Bm (ele l.body (i:Int)),0≤r.bk∧r.bk≤3) (a:Int):Qn l a=some (Uj l.body a):=by
 have X:=G8 (f:=Mj l a) (ρ:=Empty) (fun k=>(An2 l.body a k,(k:Int))) l.body.length (fun k g=>by
  have d:=O1 (ele l.body (k:Int))
  have Y:=G8 (f:=Mi a (Bm (ele l.body (k:Int)))) (ρ:=Empty) (fun j=>(Ald a ((Bm (ele l.body (k:Int))).take j) (An2 l.body a k),(j:Int))) (Bm (ele l.body (k:Int))).length (fun j c=>by
   unfold Mi;simp only;rw[Ck (by unfold ln;omega),A8 Aa (by unfold ln;omega),Kg c,Apo];by_cases e:(ele (Bm (ele l.body (k:Int))) (j:Int)).st=a
   ·rw[show ((ele (Bm (ele l.body (k:Int))) (j:Int)).st==a)=true from by simp[e],br_true,Ay Aa Aa]
    show _=some (Stp.next (if _ then _ else _,_));rw[Bj e];rfl
   ·rw[show ((ele (Bm (ele l.body (k:Int))) (j:Int)).st==a)=Az from by simp[e],br_false,Ay Aa Aa]
    show _=some (Stp.next (if _ then _ else _,_))
    rw[Bg e];rfl) (by unfold Mi;exact Cn (by unfold ln;omega))
  rw[X3] at Y;unfold Mj;simp only
  rw[Ck (by unfold ln;omega),A8 Aa (by unfold ln;omega),show Fh (Stm.mk ((ele l.body (k:Int)).op) ((ele l.body (k:Int)).a) ((ele l.body (k:Int)).b) ((ele l.body (k:Int)).ar) ((ele l.body (k:Int)).sp) ((ele l.body (k:Int)).pl) ((ele l.body (k:Int)).n))=some (Bm (ele l.body (k:Int))) from Aa9 _,bd_ret,
   show lp (Mi a (Bm (ele l.body (k:Int)))) (An2 l.body a k,0)=_ from Y,bd_ret,Out.on_go,Ay Aa Aa]
  rfl) (by unfold Mj;exact Cn (by unfold ln;omega))
 unfold Qn;rw[show lp (Mj l a) (0,0)=_ from X,bd_ret,Out.on_go];rfl
def Aoo (y:LayD) (a:Int) (k:Nat) (r:Rf) (x:Use):Prop:=r.st=a∧x=⟨ele y.time (k:Int)+r.bk * y.pace,Ap (r.bk>0)⟩
theorem A19 {y:LayD} (i:y.Ok) (a:Int) {k:Nat} (m:k<y.body.length) {g0:List Use} (s:g0.length≤1000):∃ g,lp (Oy y.pace y.time a k (Bm (ele y.body (k:Int)))) (g0,0)=some (.go (g,((Bm (ele y.body (k:Int))).length:Int)))∧((∀ x,x∈g↔x∈g0∨∃ r∈Bm (ele y.body (k:Int)),Aoo y a k r x)∧g.length≤g0.length+2):=by
 have q:=O1 (ele y.body (k:Int))
 have X:=Pl (f:=Oy y.pace y.time a k (Bm (ele y.body (k:Int)))) (ρ:=Empty) (n:=(Bm (ele y.body (k:Int))).length) (fun j g=>(∀ x,x∈g↔x∈g0∨∃ r∈(Bm (ele y.body (k:Int))).take j,Aoo y a k r x)∧g.length≤g0.length+j) (fun j g l o=>by
  obtain⟨d,p⟩:=o;have w:=i.us k m _ (D9 l);have v:=i.tm k m;have u:=i.pace;have z:=Sr (a:=(ele (Bm (ele y.body (k:Int))) (j:Int)).bk) (A:=3) (b:=y.pace) (B:=200) Aa Aa Aa Aa;have t:=i.lt;unfold Oy;simp only;rw[Ck (by unfold ln;omega),A8 Aa (by unfold ln;omega),Kg l];by_cases e:(ele (Bm (ele y.body (k:Int))) (j:Int)).st=a
  ·rw[show ((ele (Bm (ele y.body (k:Int))) (j:Int)).st==a)=true from by simp[e],br_true,A8 Aa (by unfold ln;omega),Ay Aa Aa,Ay Aa Aa,Ax ⟨by show _≤9223372036854775807;simp;omega,by simp;omega⟩,Ay Aa Aa]
   refine⟨_,rfl,fun x=>?_,by simp;omega⟩;rw[F8,G7,d];constructor
   ·rintro((h | ⟨r,h,c⟩) | h)
    ·exact .inl h
    ·exact .inr ⟨r,by simp[h],c⟩
    ·exact .inr ⟨_,Bf,e,h⟩
   ·rintro(h | ⟨r,h,c⟩)
    ·exact .inl (.inl h)
    ·rcases F8.1 h with h | h
     ·exact .inl (.inr ⟨r,h,c⟩)
     ·rw[G7] at h
      subst h;exact .inr c.2
  ·rw[show ((ele (Bm (ele y.body (k:Int))) (j:Int)).st==a)=Az from by simp[e],br_false,Ay Aa Aa]
   refine⟨_,rfl,fun x=>?_,Aa⟩;rw[d];constructor
   ·rintro(h | ⟨r,h,c⟩)
    ·exact .inl h
    ·exact .inr ⟨r,by simp[h],c⟩
   ·rintro(h | ⟨r,h,c⟩)
    ·exact .inl h
    ·rcases F8.1 h with h | h
     ·exact .inr ⟨r,h,c⟩
     ·rw[G7] at h
      subst h
      exact absurd c.1 e) (fun g=>by unfold Oy;exact Cn (by unfold ln;omega)) g0 ⟨fun x=>⟨.inl,fun h=>by
       rcases h with h | ⟨r,h,_⟩
       ·exact h
       ·simp at h⟩,Aa⟩
 obtain⟨g,e,d,p⟩:=X;rw[X3] at d;exact⟨g,e,d,Aa⟩
theorem A5p {y:LayD} (j:y.Ok) (a:Int):∃ us,Vg y.body y.pace y.regs y.time a=some us∧(∀ x,x∈us↔∃ k,k<y.body.length∧∃ r∈Bm (ele y.body (k:Int)),Aoo y a k r x)∧us.length≤32:=by
 have t:=j.n
 have X:=Pl (f:=Qr y.body y.pace y.time a) (ρ:=Empty) (n:=y.body.length) (fun i g=>(∀ x,x∈g↔∃ k,k<i∧∃ r∈Bm (ele y.body (k:Int)),Aoo y a k r x)∧g.length≤2 * i) (fun i g hi p=>by
  obtain⟨d,q⟩:=p;obtain⟨g',l,m,s⟩:=A19 j a hi (g0:=g) Aa;unfold Qr;simp only;rw[Ck (by unfold ln;omega),A8 Aa (by unfold ln;omega),show Fh (Stm.mk ((ele y.body (i:Int)).op) ((ele y.body (i:Int)).a) ((ele y.body (i:Int)).b) ((ele y.body (i:Int)).ar) ((ele y.body (i:Int)).sp) ((ele y.body (i:Int)).pl) ((ele y.body (i:Int)).n))=some (Bm (ele y.body (i:Int))) from Aa9 _,bd_ret,l,bd_ret,Out.on_go,Ay Aa Aa];refine⟨_,rfl,fun x=>?_,by show g'.length≤_;omega⟩;rw[m,d];constructor
  ·rintro(⟨k,o,c⟩ | h)
   ·exact⟨k,Aa,c⟩
   ·exact⟨i,Aa,h⟩
  ·rintro⟨k,o,c⟩
   by_cases e:k=i
   ·subst e;exact .inr c
   ·exact .inl ⟨k,Aa,c⟩) (fun g=>by unfold Qr;exact Cn (by unfold ln;omega)) [] ⟨fun x=>⟨fun h=>(by cases h),fun ⟨k,h,_⟩=>absurd h (Rn _)⟩,Bf⟩
 obtain⟨g,e,d,q⟩:=X;unfold Vg;rw[e,bd_ret,Out.on_go];exact⟨g,rfl,d,Aa⟩
structure LookP (y:LayD) (a m j:Int) (k:Nat) (r:Rf):Prop where
 kn:k<y.body.length
 mem:r∈Bm (ele y.body (k:Int))
 st:r.st=a
 near:(ele y.ready a≤ele y.ready m+j * y.pace∧ele y.ready m+j * y.pace≤ele y.time (k:Int)+r.bk * y.pace)∨(0<r.bk∧0<j∧ele y.ready m+j * y.pace≤ele y.time (k:Int)+r.bk * y.pace)
def OutP (y:LayD) (a m j:Int):Prop:=j≤0∧ele y.ready a≤ele y.ready m+j * y.pace∧a∈y.outs
def Alf (y:LayD) (a m j:Int):Prop:=(∃ k r,LookP y a m j k r)∨OutP y a m j
def Ot (y:LayD) (a m:Int):Prop:=∀ j:Int,(m≠a∨j≠0)→(ele y.places m+j - ele y.places a) % y.regs=0→¬Alf y a m j
theorem As3 (s:List Int) (hs:s.length≤100000) (v:Int):I5 s v=some (tb (v∈s)):=by
 unfold I5 Oh
 rcases Lz (f:=Ib s v) (fun i=>(i:Int)) s.length (fun i=>¬(v=ele s (i:Int))) (fun i=>(i:Int)) (fun i hi _=>by
   unfold Ib;rw[Ck (by unfold ln;omega),A8 Aa (by unfold ln;omega)]
   exact⟨fun h=>by rw[show (v==ele s (i:Int))=Az from by simp[h],br_false,Ay Aa Aa];rfl,fun h=>by rw[show (v==ele s (i:Int))=true from by simpa using h,br_true]⟩) (by unfold Ib;exact Cn (by unfold ln;omega)) with ⟨a,e⟩ | ⟨i,a,b,_,e⟩
 ·rw[show (0:Int)=((0:Nat):Int) from rfl,e,bd_ret,Out.on_go,bd_ret,C3]
  ·rfl
  ·intro h
   obtain⟨i,hi,c⟩:=Qv h;exact a i hi c.symm
 ·rw[show (0:Int)=((0:Nat):Int) from rfl,e,bd_ret,Out.on_ret,bd_ret,Dz (by rw[P5.1 b];exact D9 a),Ls Aa]
theorem bad_s {y:LayD} (g:y.Ok) {a m:Nat} (u:a<y.body.length) (w:m<y.body.length) {j:Int} (F:-10000≤j) (G:j≤10000) {us:List Use} (q:∀ x,x∈us↔∃ k,k<y.body.length∧∃ r∈Bm (ele y.body (k:Int)),Aoo y a k r x) (J:us.length≤32) :
  Yu y.outs y.pace y.regs y.ready a m j us=some (tb (Alf y a m j)):=by
 have I:=g.pace;have H:=g.lr;have r1:=g.rd a u;have L:=g.rd m w;have K:=Sr (a:=j) (A:=10000) (b:=y.pace) (B:=200) Aa Aa Aa Aa;unfold Yu;rw[A8 Aa (by unfold ln;omega),Ay Aa Aa,Ay Aa Aa]
 rcases Lz (f:=O7 y.pace y.ready a m j us) (fun i=>(i:Int)) us.length (fun i=>¬((ele y.ready a≤ele y.ready m+j * y.pace∧ele y.ready m+j * y.pace≤(ele us (i:Int)).til)∨((ele us (i:Int)).later=true∧0<j∧ele y.ready m+j * y.pace≤(ele us (i:Int)).til))) (fun i=>true) (fun i hi _=>by
   unfold O7;rw[Ck (by unfold ln;omega),A8 Aa (by unfold ln;omega),A8 Aa (by unfold ln;omega)];have v:(((Ap (((ele y.ready m)+(j * y.pace))≥(ele y.ready a)))&&(Ap (((ele y.ready m)+(j * y.pace))≤(ele us (i:Int)).til))) || (((ele us (i:Int)).later&&(Ap (j>0)))&&(Ap (((ele y.ready m)+(j * y.pace))≤(ele us (i:Int)).til))))=tb ((ele y.ready a≤ele y.ready m+j * y.pace∧ele y.ready m+j * y.pace≤(ele us (i:Int)).til)∨((ele us (i:Int)).later=true∧0<j∧ele y.ready m+j * y.pace≤(ele us (i:Int)).til)):=L6 (by simp[Vp]);rw[v]
   exact⟨fun h=>by rw[C3 h,br_false,Ay Aa Aa];rfl,fun h=>by rw[Dz (P5.1 h),br_true]⟩) (by unfold O7;exact Cn (by unfold ln;omega)) with ⟨p,e⟩ | ⟨i,p,E,_,e⟩
 ·rw[show lp (O7 y.pace y.ready a m j us) 0=_ from e,bd_ret,Out.on_go,Fv (fun _=>⟨Aa,by unfold ln;omega⟩),As3 _ g.lo,O4]
  congr 1;refine L6 ?_
  have C:¬∃ k r,LookP y a m j k r:=by
   rintro⟨k,r,n,o,hs,z⟩;obtain⟨i,hi,l⟩:=Qv ((q _).2 ⟨k,n,r,o,hs,rfl⟩);refine p i hi ?_;rw[l];simpa using z
  unfold Alf OutP;constructor
  ·intro h
   by_cases c:j≤0 <;> by_cases d:ele y.ready a≤ele y.ready m+j * y.pace <;> by_cases f:(a:Int)∈y.outs <;> simp[c,d,f,Dz,C3] at h ⊢
  ·rintro(h | ⟨c,d,f⟩)
   ·exact absurd h C
   ·have t:ele y.ready m+j * y.pace≥ele y.ready a:=d
    rw[Dz f,Ls c,Ls t];rfl
 ·rw[show lp (O7 y.pace y.ready a m j us) 0=_ from e,bd_ret,Out.on_ret,Dz]
  obtain⟨k,n,r,o,hs,l⟩:=(q _).1 (D9 p);have s:=P5.1 E;rw[l] at s;exact .inl ⟨k,r,n,o,hs,by simpa using s⟩
def Af8 (y:LayD):Int:=4000 / y.pace+1
theorem A1a {y:LayD} (d:y.Ok) {a m:Nat} (p:a<y.body.length) (t:m<y.body.length) {j:Int} (h:Alf y a m j):-(4000 / y.pace) - 2≤j∧j≤Af8 y∧-1006≤j∧j≤1003∧-1006≤j * y.pace:=by
 have E:=d.pace;have r1:=d.rd a p;have I:=d.rd m t
 have l:-1006≤j * y.pace→-(4000 / y.pace) - 2≤j:=fun b=>by
  have o:-j≤4000 / y.pace:=Al2 Aa (by rw[Int.neg_mul];omega);omega
 have n:j * y.pace≤1000+3 * y.pace→j≤Af8 y∧j≤1003:=fun w=>by
  have o:j - 3≤1000 / y.pace:=Al2 Aa (by rw[Int.sub_mul];omega)
  have A:1000 / y.pace+2≤4000 / y.pace:=Al2 Aa (by
   have:=Int.ediv_mul_le 1000 (show y.pace≠0 from Aa)
   rw[Int.add_mul];omega)
  have B:1000 / y.pace≤1000:=Ag1 _ Aa;unfold Af8;omega
 have i:∀ b:-1006≤j * y.pace,-1006≤j:=fun b=>by
  by_cases c:j<0
  ·have:=Aet (show (1:Int)≤y.pace from Aa) (show 0≤-j from Aa)
   rw[Int.neg_mul j y.pace] at this;omega
  ·omega
 have v:0<j→0≤j * y.pace:=fun g=>Agv Aa Aa
 have u:j≤0→j * y.pace≤0:=fun g=>by
  have:=Aeu g (show 0≤y.pace from Aa);omega
 rcases h with ⟨k,r,q⟩ | ⟨z,G,H⟩
 ·have C:=d.tm k q.kn
  have w:=d.us k q.kn r q.mem;have F:=Aeu (show r.bk≤3 from Aa) (show 0≤y.pace from Aa)
  have b:-1006≤j * y.pace:=by
   rcases q.near with ⟨f,e⟩ | ⟨f,e,x⟩
   ·omega
   ·have:=v e;omega
  have s:j * y.pace≤1000+3 * y.pace:=by
   rcases q.near with ⟨f,e⟩ | ⟨f,e,x⟩ <;> omega
  have:=n s;exact⟨l b,this.1,i b,this.2,b⟩
 ·have b:-1006≤j * y.pace:=by omega
  have:=n (by have:=u z;omega);exact⟨l b,this.1,i b,this.2,b⟩
theorem tm2 {d R:Int} (a:1≤R) (b:R≤128):Int.tmod (Int.tmod d R+R) R=d % R:=by
 have c:=Uu d (show 0<R from Aa);rw[Ajm Aa,Aq7];have h:=Al1 d R;rw[show Int.tmod d R=d - R * Int.tdiv d R from Aa,Al5]
theorem Anj {y:LayD} (b:y.Ok) {a m:Nat} (l:a<y.body.length) (o:m<y.body.length):Me y.body y.outs y.pace y.regs y.time y.ready y.places a m=some (tb (Ot y a m)):=by
 obtain⟨us,u1,u2,I⟩:=A5p b a;have U:=b.pace;have r:=b.regs;have a1:=b.pl a l;have a2:=b.pl m o;have T:=b.lp;have a0:=Uu (ele y.places (a:Int) - ele y.places (m:Int)) (show 0<y.regs from Aa);have n:Int.tdiv 4000 y.pace=4000 / y.pace:=Agf Aa;have O:0≤4000 / y.pace:=Agy Aa Aa;have P:4000 / y.pace≤4000:=Ag1 _ Aa;have F:Int.tdiv (4000 / y.pace+1) y.regs=(4000 / y.pace+1) / y.regs:=Agf Aa;have V:0≤(4000 / y.pace+1) / y.regs:=Agy Aa Aa;have W:(4000 / y.pace+1) / y.regs≤4001:=X0 (Ag1 _ Aa) Aa;have Y:=Int.ediv_mul_le (4000 / y.pace+1) (show y.regs≠0 from Aa);have G:=Int.lt_ediv_add_one_mul_self (4000 / y.pace+1) (show 0<y.regs from Aa);have L:=Ro (ele y.places (a:Int) - ele y.places (m:Int)) (show y.regs≠0 from Aa);have M:=Rq (ele y.places (a:Int) - ele y.places (m:Int)) (show 0<y.regs from Aa);unfold Me;rw[u1,bd_ret,A8 Aa (by unfold ln;omega),A8 Aa (by unfold ln;omega),Ay Aa Aa,Ax Aa,Ay Aa Aa,Ax Aa,Ax Aa,n,Ay Aa Aa,Ay Aa Aa,Ax Aa,F,Ay Aa Aa,Ay Aa Aa];rw[Int.add_mul] at G;have g:((4000 / y.pace+1) / y.regs+2) * y.regs=(4000 / y.pace+1) / y.regs * y.regs+2 * y.regs:=Int.add_mul ..;rw[tm2 r.1 r.2,g,Ay Aa Aa,Ay Aa Aa];generalize hlo:(ele y.places (a:Int) - ele y.places (m:Int)) % y.regs - ((4000 / y.pace+1) / y.regs * y.regs+2 * y.regs)=lo;have Q:Af8 y=4000 / y.pace+1:=rfl;have S:lo < -(4000 / y.pace) - 1∧-10000≤lo:=Aa;have J:0≤(Af8 y - lo) / y.regs:=Agy Aa Aa;obtain⟨N,w⟩:=Ik (show 0≤(Af8 y - lo) / y.regs+1 from Aa);have K:=Int.ediv_mul_le (Af8 y - lo) (show y.regs≠0 from Aa);have x:=Int.lt_ediv_add_one_mul_self (Af8 y - lo) (show 0<y.regs from Aa);rw[w] at x
 have H:∀ i:Nat,i<N→lo+(i:Int) * y.regs≤Af8 y∧lo≤lo+(i:Int) * y.regs:=fun i hi=>by
  have d:=Aeu (show (i:Int)≤(Af8 y - lo) / y.regs from Aa) (show 0≤y.regs from Aa);have q:=Agv (show 0≤(i:Int) from Aa) (show 0≤y.regs from Aa);omega
 have A:∀ i:Int,(ele y.places (m:Int)+(lo+i * y.regs) - ele y.places (a:Int)) % y.regs=0:=fun i=>by
  have d:=Aax (ele y.places (a:Int) - ele y.places (m:Int)) y.regs
  have e:ele y.places (m:Int)+(lo+i * y.regs) - ele y.places (a:Int)=(i - (ele y.places (a:Int) - ele y.places (m:Int)) / y.regs - ((4000 / y.pace+1) / y.regs+2)) * y.regs:=by
   rw[Int.sub_mul,Int.sub_mul,g,Xz ((ele y.places (a:Int) - ele y.places (m:Int)) / y.regs)];omega
  rw[e,Int.mul_emod_left]
 have X:=Lz (f:=Pe y.outs y.pace y.regs y.ready a m us) (ρ:=Bool) (fun i=>lo+(i:Int) * y.regs) N (fun i=>¬(((m:Int)≠a∨lo+(i:Int) * y.regs≠0)∧Alf y a m (lo+(i:Int) * y.regs))) (fun _=>Az) (fun i hi _=>by
  have d:=H i hi;unfold Pe;rw[n,Ck Aa,bad_s b l o Aa Aa u2 I,O4]
  have s:((((m:Int) != a) || (lo+(i:Int) * y.regs != 0))&&(if (((m:Int) != a) || (lo+(i:Int) * y.regs != 0))=true then tb (Alf y a m (lo+(i:Int) * y.regs)) else Az))=tb (((m:Int)≠a∨lo+(i:Int) * y.regs≠0)∧Alf y a m (lo+(i:Int) * y.regs)):=by
   rw[show (((m:Int) != a) || (lo+(i:Int) * y.regs != 0))=tb ((m:Int)≠a∨lo+(i:Int) * y.regs≠0) from L6 Bf];by_cases c:((m:Int)≠a∨lo+(i:Int) * y.regs≠0)
   ·rw[Dz c,Bj rfl,Rl];exact Ht ⟨fun h=>⟨c,h⟩,fun h=>h.2⟩
   ·rw[C3 c,Adj,C3 fun h=>c h.1]
  rw[s]
  exact⟨fun h=>by rw[C3 h,br_false,Ay Aa Aa];refine congrArg some (congrArg Stp.next ?_);rw[show ((i+1:Nat):Int)=(i:Int)+1 from Aa,Int.add_mul];omega,fun h=>by rw[Dz (P5.1 h),br_true]⟩) (by
  unfold Pe;rw[n]
  exact Cn Aa)
 rw[show lo+((0:Nat):Int) * y.regs=lo from by rw[show ((0:Nat):Int)=0 from rfl,Int.zero_mul];omega] at X;rcases X with ⟨d,e⟩ | ⟨i,d,q,_,e⟩
 ·rw[e,bd_ret,Out.on_go,Dz]
  intro j C p t;have s:=A1a b l o t;obtain⟨z,p⟩:=Int.dvd_of_emod_eq_zero p;have k:=Aax (ele y.places (a:Int) - ele y.places (m:Int)) y.regs
  have v:j - lo=y.regs * (z+(ele y.places (a:Int) - ele y.places (m:Int)) / y.regs+((4000 / y.pace+1) / y.regs+2)):=by
   rw[Int.mul_add,Int.mul_add,←p,Xz y.regs ((4000 / y.pace+1) / y.regs+2),g];omega
  generalize z+(ele y.places (a:Int) - ele y.places (m:Int)) / y.regs+((4000 / y.pace+1) / y.regs+2)=i at v
  have B:0≤i:=by
   by_cases c:i<0
   ·have:=Aet (show i≤-1 from Aa) (show 0≤y.regs from Aa)
    omega
   ·omega
  have R:i≤(Af8 y - lo) / y.regs:=Al2 Aa (by rw[Xz];omega);obtain⟨u,rfl⟩:=Ik B
  have E:lo+(u:Int) * y.regs=j:=by rw[Xz];omega
  have:=d u Aa;rw[E] at this;exact this ⟨C,t⟩
 ·rw[e,bd_ret,Out.on_ret,C3]
  intro h;have k:=P5.1 q;exact h _ k.1 (A i) k.2
def Sk (op:Int):Int:=if op=4 then 1 else if op>10 then 2 else 0
def Atg:Stm:=⟨2,⟨0,0⟩,⟨0,0⟩,0,0,0,0⟩
def G5 (o:Opr):Stm:=⟨o.op,⟨0,0⟩,⟨0,0⟩,o.ar,o.sp,o.pl,o.n⟩
def lpO (logs:List Int) (o:Opr):Lp:=⟨logs,[Atg,G5 o],[]⟩
def Aya (k:Krn) (o:Opr):Prop:=0≤o.slot∧o.slot<k.pace∧0≤o.stage∧o.stage<k.stages∧o.stage * k.pace+o.slot≤1000
def Ar0 (t:Tgt) (o:Opr):Prop:=0≤o.dest∧o.dest<t.regs∧0≤o.a∧o.a<t.regs∧0≤o.b∧o.b<t.regs∧(Sk o.op<1→o.a=0)∧(Sk o.op<2→o.b=0)
def Vo (t:Tgt) (k:Krn) (o:Opr) (logs:List Int):Prop:=Aya k o∧Ar0 t o∧LoopOk (lpO logs o)
def Qy (k:Krn) (i:Nat):Int×Int:=((ele k.ops (i:Int)).slot,Kn (ele k.ops (i:Int)).op)
def Zw (k:Krn) (n:Nat) (κ:Int×Int):Nat:=(List.range n).countP fun j=>Ap (Qy k j=κ)
theorem Vd (k:Krn) (n:Nat) (κ:Int×Int):Zw k (n+1) κ=Zw k n κ+if Qy k n=κ then 1 else 0:=by
 unfold Zw;rw[Vx,Alv,Ard];by_cases h:Qy k n=κ <;> simp[h]
theorem Auq (k:Krn) (κ:Int×Int):∀ n,Zw k n κ≤n
 | 0=>Co _
 | n+1=>by rw[Vd];have:=Auq k κ n;split <;> omega
structure KMayP (t:Tgt) (k:Krn) (logs:List Int):Prop where
 tgt:Df t=true
 pace:1≤k.pace∧k.pace≤200
 stages:1≤k.stages∧k.stages≤1001
 n:1≤k.ops.length∧k.ops.length≤16
 one:∀ i:Nat,i<k.ops.length→Vo t k (ele k.ops (i:Int)) logs
 units:∀ i:Nat,i<k.ops.length→(Zw k k.ops.length (Qy k i):Int)≤F6 t (Qy k i).2
theorem R7 {α:Type} [Inhabited α] {P W:List α}{x:α}{i:Int} (h:i=P.length):ele (P++x::W) i=x:=by
 subst h;rw[Dj,Ec,Arm (Co _),Nat.sub_self];rfl
theorem Tk {α:Type}{P W:List α}{x z:α}{i:Int} (h:i=P.length):upd (P++x::W) i z=P++z::W:=by
 subst h;unfold upd;rw[I9,List.set_append_right _ _ (Co _),Nat.sub_self];rfl
def atT (T:Int) (l:List Due):List Due:=l.filter fun d=>Ap (d.due=T)
theorem Acf (T:Int) (a b:List Due):atT T (a++b)=atT T a++atT T b:=Aq6 ..
theorem Ap0 {T:Int}{l:List Due} (h:∀ d∈l,d.due≠T):atT T l=[]:=List.filter_eq_nil_iff.2 fun d a=>by simpa using h d a
def Stb (x y:List Due):Prop:=x.length=y.length∧∀ T,atT T x=atT T y
theorem Jn (x:List Due):Stb x x:=⟨rfl,fun _=>rfl⟩
theorem Stb.trans {x y z:List Due} (h:Stb x y) (k:Stb y z):Stb x z:=⟨h.1.trans k.1,fun T=>(h.2 T).trans (k.2 T)⟩
theorem Stb.symm {x y:List Due} (h:Stb x y):Stb y x:=⟨h.1.symm,fun T=>(h.2 T).symm⟩
theorem Stb.app {a c b d:List Due} (h:Stb a c) (k:Stb b d):Stb (a++b) (c++d):=⟨by rw[Ca,Ca,h.1,k.1],fun T=>by rw[Acf,Acf,h.2,k.2]⟩
def Abs:=@Stb.app
theorem Stb.mem {x y:List Due} (h:Stb x y) {d:Due}:d∈x↔d∈y:=by
 have:=h.2 d.due;constructor
 ·intro b
  have a:d∈atT d.due x:=Ul.2 ⟨b,Bf⟩;rw[this] at a;exact(Ul.1 a).1
 ·intro b
  have a:d∈atT d.due y:=Ul.2 ⟨b,Bf⟩;rw[←this] at a;exact(Ul.1 a).1
theorem Stb.swap {a b:List Due} (h:∀ x∈a,∀ y∈b,y.due<x.due):Stb (a++b) (b++a):=⟨by rw[Ca,Ca,Nat.add_comm],fun T=>by
 rw[Acf,Acf];by_cases c:∃ x∈a,x.due=T
 ·obtain⟨x,d,g⟩:=c
  rw[Ap0 (l:=b) fun y f=>by have:=h x d y f;omega];simp
 ·rw[Ap0 (l:=a) fun x d e=>c ⟨x,d,e⟩]
  simp⟩
def Qb (l:List Due):Prop:=l.Pairwise fun x y=>x.due≤y.due
theorem Atz (a b:Int):∀ (X Y A B Z:List Due) (i:Nat),X.length=Y.length→(A.length:Int)=a+i→(A.length:Int)+X.length+B.length=b+i→0≤a→0≤b→A.length+X.length+B.length+Y.length+Z.length≤1000000 →
  lp (B0 a b ((i+X.length:Nat):Int)) (A++(X++(B++(Y++Z))),(i:Int))=some (.go (A++(Y++(B++(X++Z))),((i+X.length:Nat):Int)))
 | [],[],A,B,Z,i,_,_,_,_,_,_=>by
  refine Db ?_;unfold B0;exact Cn Bf
 | x::X,y::Y,A,B,Z,i,hl,ha,hb,h0,h1,hs=>by
  simp only[Ef] at hl hb hs;have g:=Atz a b X Y (A++[y]) (B++[x]) Z (i+1) Aa (by rw[Ca,Lv];omega) (by rw[Ca,Ca,Lv,Lv];omega) h0 h1 (by rw[Ca,Ca,Lv,Lv];omega);rw[show ((i+(x::X).length:Nat):Int)=((i+1+X.length:Nat):Int) from by simp only[Ef];omega];have d:A++((x::X)++(B++((y::Y)++Z)))=A++x::(X++(B++y::(Y++Z))):=Bf;have e:A++(y::(X++(B++y::(Y++Z))))=(A++y::(X++B))++y::(Y++Z):=Bf;have f:A++x::(X++(B++y::(Y++Z)))=(A++x::(X++B))++y::(Y++Z):=Bf
  have c:ln (A++((x::X)++(B++((y::Y)++Z))))=((A.length+(X.length+1)+B.length+(Y.length+1)+Z.length:Nat):Int):=by unfold ln;simp only[Ca,Ef];omega
  refine B4 (g':=(A++[y]++(X++(B++[x]++(Y++Z))),((i+1:Nat):Int))) ?_ ?_
  ·unfold B0
   simp only
   have h:∀ (l:List Due) (i:Int) (z:Due),ln (upd l i z)=ln l:=fun l i z=>by unfold ln;rw[El]
   rw[Ck Aa,Ay Aa Aa,Ay Aa Aa,Ay Aa Aa,A8 Aa (by rw[c];omega),Ay Aa Aa,A8 Aa (by rw[c];omega),A8 Aa (by rw[c];omega),h,A8 Aa (by rw[c];omega),Ay Aa Aa]
   have j:ele (A++((x::X)++(B++((y::Y)++Z)))) (a+i)=x:=by rw[d];exact R7 Aa
   have k:ele (A++((x::X)++(B++((y::Y)++Z)))) (b+i)=y:=by rw[d,f];exact R7 (by simp only[Ca,Ef];omega)
   rw[j,k,d,Tk Aa,e,Tk (by simp only[Ca,Ef];omega)];have:A++y::(X++B)++x::(Y++Z)=A++[y]++(X++(B++[x]++(Y++Z))):=Bf;rw[this];rfl
  ·rw[g]
   simp
theorem Yv {a b:Int}{X Y A B Z:List Due} (c:X.length=Y.length) (e:(A.length:Int)=a) (f:(A.length:Int)+X.length+B.length=b) (hs:A.length+X.length+B.length+Y.length+Z.length≤1000000) {n:Int} (d:n=X.length) :
  B2 (A++(X++(B++(Y++Z)))) a b n=some (A++(Y++(B++(X++Z)))):=by
 subst d;have:=Atz a b X Y A B Z 0 c Aa Aa Aa Aa hs;rw[Tf] at this;unfold B2;rw[show lp (B0 a b (X.length:Int)) (A++(X++(B++(Y++Z))),0)=_ from this,bd_ret,Out.on_go]
theorem Ahq (m:Int):∀ (s:Nat) (A X Y Z:List Due),X.length+Y.length≤s→1≤X.length→1≤Y.length→(A.length:Int)+X.length=m→A.length+X.length+Y.length+Z.length≤1000000 →
  ∃ A' X' Y' Z':List Due,∃ k:Nat,lp (B8 m) (A++(X++(Y++Z)),(X.length:Int),(Y.length:Int))=some (.go (A'++(X'++(Y'++Z')),(k:Int),(k:Int)))∧X'.length=k∧Y'.length=k∧(A'.length:Int)+k=m∧A'++(Y'++(X'++Z'))=A++(Y++(X++Z))∧A'.length+k+k+Z'.length≤1000000
 | 0,_,X,_,_,h,h1,_,_,_=>Aa
 | s+1,A,X,Y,Z,h,h1,h2,hm,hs=>by
  rcases Nat.lt_trichotomy X.length Y.length with c | c | c
  ·skip
   have d:Y=Y.take (Y.length - X.length)++Y.drop (Y.length - X.length):=(Lu _ _).symm
   have i:(Y.take (Y.length - X.length)).length=Y.length - X.length:=by rw[I8];omega
   have j:(Y.drop (Y.length - X.length)).length=X.length:=by rw[Nn];omega
   generalize Y.take (Y.length - X.length)=Y1 at *;generalize Y.drop (Y.length - X.length)=Y2 at *
   have o:Y.length=Y1.length+Y2.length:=by rw[d,Ca]
   obtain⟨A',X',Y',Z',k,e,r⟩:=Ahq m s A Y2 Y1 (X++Z) Aa Aa Aa Aa (by rw[Ca];omega);refine⟨A',X',Y',Z',k,?_,r.1,r.2.1,r.2.2.1,?_,r.2.2.2.2⟩
   ·refine B4 (g':=(A++(Y2++(Y1++(X++Z))),(Y2.length:Int),(Y1.length:Int))) ?_ e
    unfold B8;simp only;have g:=Yv (a:=m - X.length) (b:=m+Y.length - X.length) (X:=X) (Y:=Y2) (A:=A) (B:=Y1) (Z:=Z) Aa Aa Aa Aa (n:=(X.length:Int)) rfl;rw[show ((X.length:Int) != (Y.length:Int))=true from by simp;omega,br_true,Cn Aa,Ay Aa Aa,Ay Aa Aa,Ay Aa Aa,d,G6,show (((Y1++Y2).length:Nat):Int)=(Y.length:Int) from by rw[←d],g,bd_ret,Ay Aa Aa];rw[j,show (Y.length:Int) - X.length=(Y1.length:Int) from Aa]
   ·rw[r.2.2.2.1,d];simp
  ·skip
   refine⟨A,X,Y,Z,X.length,?_,rfl,c.symm,hm,rfl,Aa⟩;rw[show (Y.length:Int)=(X.length:Int) from Aa];refine Db ?_;unfold B8;simp only;rw[show ((X.length:Int) != (X.length:Int))=Az from Bf,br_false]
  ·have f:X=X.take Y.length++X.drop Y.length:=(Lu _ _).symm
   have i:(X.take Y.length).length=Y.length:=by rw[I8];omega
   have j:(X.drop Y.length).length=X.length - Y.length:=by rw[Nn]
   generalize X.take Y.length=X1 at *;generalize X.drop Y.length=X2 at *
   have l:X.length=X1.length+X2.length:=by rw[f,Ca]
   obtain⟨A',X',Y',Z',k,e,r⟩:=Ahq m s (A++Y) X2 X1 Z Aa Aa Aa (by rw[Ca];omega) (by rw[Ca];omega);refine⟨A',X',Y',Z',k,?_,r.1,r.2.1,r.2.2.1,?_,r.2.2.2.2⟩
   ·refine B4 (g':=((A++Y)++(X2++(X1++Z)),(X2.length:Int),(X1.length:Int))) ?_ e
    unfold B8;simp only;have g:=Yv (a:=m - X.length) (b:=m) (X:=X1) (Y:=Y) (A:=A) (B:=X2) (Z:=Z) Aa Aa Aa Aa (n:=(Y.length:Int)) Aa;rw[show ((X.length:Int) != (Y.length:Int))=true from by simp;omega,br_true,Ck Aa,Ay Aa Aa,show A++(X++(Y++Z))=A++(X1++(X2++(Y++Z))) from by rw[f];simp,g,bd_ret,Ay Aa Aa];rw[i,show (X.length:Int) - Y.length=(X2.length:Int) from Aa,G6]
   ·rw[r.2.2.2.1,f];simp
theorem Az2 {A X Y Z:List Due} (c:1≤X.length) (d:1≤Y.length) (hs:A.length+X.length+Y.length+Z.length≤1000000) {a m b:Int} (h:a=A.length) (j:m=A.length+X.length) (i:b=A.length+X.length+Y.length) :
  C6 (A++(X++(Y++Z))) a m b=some (A++(Y++(X++Z))):=by
 obtain⟨A',X',Y',Z',k,e,r1,l,o,f,p⟩:=Ahq m (X.length+Y.length) A X Y Z (Co _) c d Aa hs;unfold C6;have g:=Yv (a:=m - k) (b:=m) (X:=X') (Y:=Y') (A:=A') (B:=[]) (Z:=Z') Aa Aa (by simp;omega) (by simp;omega) (n:=(k:Int)) Aa;rw[Ay Aa Aa,Ay Aa Aa,show m - a=(X.length:Int) from Aa,show b - m=(Y.length:Int) from Aa,e,bd_ret,Out.on_go];simp only;rw[Ay Aa Aa,show A'++(X'++(Y'++Z'))=A'++(X'++([]++(Y'++Z'))) from rfl,g,bd_ret,←f];rfl
def In9 (d:Due):Prop:=0≤d.due∧d.due≤1000000000
theorem Aok {x y:Due} (a:In9 x) (b:In9 y):Dh x y=some (x.due - y.due):=by
 obtain⟨_,_⟩:=a;obtain⟨_,_⟩:=b;unfold Dh;rw[Ay Aa Aa]
theorem Of {a b:List Due}:Qb (a++b)↔Qb a∧Qb b∧∀ x∈a,∀ y∈b,x.due≤y.due:=List.pairwise_append
theorem Acl {x:Due}{b:List Due}:Qb (x::b)↔(∀ y∈b,x.due≤y.due)∧Qb b:=Alu
theorem Amz:Qb []:=List.Pairwise.nil
theorem Arx {l:List Due}{i:Int}{z:Due}:ln (upd l i z)=ln l:=by unfold ln;rw[El]
theorem Apk (A:List Due) (x:Due) (j:In9 x):∀ (n:Nat) (P W:List Due),P.length=n→(∀ d∈P,In9 d)→Qb P→A.length+P.length+1+W.length≤1000000 →
  ∃ f g,P=f++g∧(∀ d∈g,x.due<d.due)∧(∀ d∈f,d.due≤x.due)∧lp (Br (A.length:Int)) (A++(P++(x::W)),((A.length+P.length:Nat):Int))=some (.go (A++(f++(x::(g++W))),((A.length+f.length:Nat):Int)))
 | 0,P,W,i,_,_,hs=>by
  obtain rfl:=Agg i;refine⟨[],[],rfl,fun d b=>(by cases b),fun d b=>(by cases b),Db ?_⟩;unfold Br;simp only;rw[show Ap ((((A.length+([]:List Due).length:Nat)):Int)>(A.length:Int))=Az from Bf];rw[Fv (fun h=>by cases h),Fv (fun h=>by cases h),Fv (fun h=>by cases h),bdG_f];rfl
 | n+1,P,W,i,hb,hP,hs=>by
  obtain⟨L,y,rfl⟩:∃ L y,P=L++[y]:=by
   rcases List.eq_nil_or_concat P with rfl | ⟨L,y,rfl⟩
   ·cases i
   ·exact⟨L,y,Bf⟩
  have a:(L++[y]).length=L.length+1:=Bf;rw[a] at i hs;obtain⟨u,w,v⟩:=Of.1 hP;have l:=hb y Bf;have p:A++((L++[y])++(x::W))=(A++L)++y::(x::W):=Bf;have k:A++((L++[y])++(x::W))=(A++(L++[y]))++x::W:=Bf
  have m:ele (A++((L++[y])++(x::W))) ((A.length+(L++[y]).length:Nat):Int)=x:=by rw[k];exact R7 (congrArg Nat.cast List.length_append.symm)
  have o:ele (A++((L++[y])++(x::W))) (((A.length+(L++[y]).length:Nat):Int) - 1)=y:=by rw[p];exact R7 (by simp only[Ca,Lv];omega)
  have e:ln (A++((L++[y])++(x::W)))=((A.length+(L.length+1)+(W.length+1):Nat):Int):=by unfold ln;simp only[Ca,Ef,Lv];simp;omega
  by_cases c:x.due<y.due
  ·obtain⟨f,g,q,r,s,t⟩:=Apk A x j n L (y::W) Aa (fun d b=>hb d (by simp[b])) u (by simp only[Ef];omega)
   refine⟨f,g++[y],by rw[q];simp,fun d b=>?_,s,?_⟩
   ·rcases F8.1 b with b | b
    ·exact r d b
    ·rw[G7.1 b];exact c
   ·refine B4 (g':=(A++(L++(x::(y::W))),((A.length+L.length:Nat):Int))) ?_ ?_
    ·unfold Br
     simp only;rw[show Ap (((A.length+(L++[y]).length:Nat):Int)>(A.length:Int))=true from Ls (by rw[a];omega)]
     rw[Fv (fun _=>⟨Aa,by rw[e,a];omega⟩),Fv (fun _=>⟨by rw[a];omega,by rw[a];omega⟩),Fv (fun _=>⟨by rw[a];omega,by rw[e,a];omega⟩),bdG_t,m,o,Aok j l,bd_ret,Rl,Ck Aa,Ay (by rw[a];omega) (by rw[a];omega),Ay (by rw[a];omega) (by rw[a];omega),
      A8 (by rw[a];omega) (by rw[e,a];omega),A8 Aa (by rw[e,a];omega),A8 Aa (by rw[e,a];omega),Arx,A8 (by rw[a];omega) (by rw[e,a];omega),Ay (by rw[a];omega) (by rw[a];omega)]
     rw[k,Tk (congrArg Nat.cast List.length_append.symm),show (A++(L++[y]))++y::W=(A++L)++y::(y::W) from Bf,Tk (by simp only[Ca,Lv];omega),a];rw[show ((A.length+(L.length+1):Nat):Int) - 1=((A.length+L.length:Nat):Int) from Aa,G6]
    ·rw[t];simp
  ·refine⟨L++[y],[],Bf,fun d b=>(by cases b),fun d b=>?_,?_⟩
   ·rcases F8.1 b with b | b
    ·have:=v d b y Bf;omega
    ·rw[G7.1 b];omega
   ·refine Db ?_
    unfold Br;simp only;rw[show Ap (((A.length+(L++[y]).length:Nat):Int)>(A.length:Int))=true from Ls (by rw[a];omega)];rw[Fv (fun _=>⟨Aa,by rw[e,a];omega⟩),Fv (fun _=>⟨by rw[a];omega,by rw[a];omega⟩),Fv (fun _=>⟨by rw[a];omega,by rw[e,a];omega⟩),bdG_t,m,o,Aok j l,bd_ret,Rl,Cn Aa];rfl
theorem Akm (A Z:List Due) {b:Int}:∀ (W S:List Due),(∀ d∈S++W,In9 d)→Qb S→(A.length:Int)+S.length+W.length=b→A.length+S.length+W.length+Z.length≤1000000 →
  ∃ S',Qb S'∧Stb (S++W) S'∧lp (Bl (A.length:Int) b) (A++(S++(W++Z)),((A.length+S.length:Nat):Int))=some (.go (A++(S'++Z),b))
 | [],S,_,hS,g,_=>by
  refine⟨S,hS,by rw[N2];exact Jn S,?_⟩;simp only[E6] at g;rw[show ((A.length+S.length:Nat):Int)=b from Aa];refine Db ?_;unfold Bl;exact Cn Aa
 | x::W,S,hi,hS,g,hs=>by
  simp only[Ef] at g hs;obtain⟨c,e,i,k,n,o⟩:=Apk A x (hi x Bf) S.length S (W++Z) rfl (fun d f=>hi d (by simp[f])) hS (by rw[Ca];omega)
  have z:S.length=c.length+e.length:=by rw[i,Ca]
  have l:=hS;rw[i] at l;obtain⟨v,w,y⟩:=Of.1 l
  obtain⟨S',s,t,u⟩:=Akm A Z (b:=b) W (c++x::e) (fun d f=>hi d (by rw[i];simp at f ⊢;rcases f with h | h | h | h <;> simp[h])) (Of.2 ⟨v,Acl.2 ⟨fun d f=>by have:=k d f;omega,w⟩,fun p m q j=>by
   rcases Gw.1 j with rfl | j
   ·exact n p m
   ·exact y p m q j⟩) (by simp only[Ca,Ef];omega) (by simp only[Ca,Ef];omega)
  refine⟨S',s,?_,?_⟩
  ·refine Stb.trans ?_ t
   rw[i,show (c++e)++x::W=c++((e++[x])++W) from Bf,show (c++x::e)++W=c++(([x]++e)++W) from Bf];exact Abs (Jn _) (Abs (Stb.swap fun a r b g=>by rw[G7.1 g];exact k a r) (Jn _))
  ·refine B4 (g':=(A++((c++x::e)++(W++Z)),((A.length+(c++x::e).length:Nat):Int))) ?_ u
   unfold Bl;simp only;rw[Ck Aa,show A++(S++(x::W++Z))=A++(S++(x::(W++Z))) from Bf,o,bd_ret,Out.on_go];simp only;rw[Ay Aa Aa];rw[show A++(c++x::(e++(W++Z)))=A++((c++x::e)++(W++Z)) from Bf,show ((A.length+S.length:Nat):Int)+1=((A.length+(c++x::e).length:Nat):Int) from by simp only[Ca,Ef];omega]
theorem Ae8 {A S Z:List Due} (hi:∀ d∈S,In9 d) (c:1≤S.length) (hs:A.length+S.length+Z.length≤1000000) {a b:Int} (e:a=A.length) (f:b=A.length+S.length) :
  ∃ S',Qb S'∧Stb S S'∧Be (A++(S++Z)) a b=some (A++(S'++Z)):=by
 cases S with
 | nil=>simp at c
 | cons x W =>
  simp only[Ef] at f hs;obtain⟨S',h,i,j⟩:=Akm A Z (b:=b) W [x] hi (Acl.2 ⟨fun y g=>(by cases g),Amz⟩) (by simp only[Lv];omega) (by simp only[Lv];omega);refine⟨S',h,i,?_⟩;unfold Be;rw[Ay Aa Aa,e,show A++(x::W++Z)=A++([x]++(W++Z)) from Bf,show (A.length:Int)+1=((A.length + [x].length:Nat):Int) from Bf,j,bd_ret,Out.on_go]
theorem Aqg {D:List Due}{a b:Int} (h:b≤a+1) (c:0≤a) (d:a≤1000000):Be D a b=some D:=by
 unfold Be;rw[Ay Aa Aa,show lp (Bl a b) (D,a+1)=some (.go (D,a+1)) from Db (by unfold Bl;exact Cn Aa),bd_ret,Out.on_go]
theorem Ame {n:Int} (c:0≤n) (d:n≤10000000):IntKind.i64.wrap (shrD (IntKind.u64.wrap n) 1)=n / 2:=by
 have a:IntKind.u64.wrap n=n:=by
  show n % (2 ^ 64:Int)=n;exact Alq c Aa
 have b:shrD n 1=n / 2:=by
  unfold shrD;show Int.fdiv n (2 ^ (min (1:Int).toNat 64))=n / 2;rw[show (2:Int) ^ (min (1:Int).toNat 64)=2 from rfl,Int.fdiv_eq_ediv_of_nonneg _ Aa]
 rw[a,b];exact Jl Aa Aa
theorem Ace {ρ:Type}{f:Int×Int→Option (Stp (Int×Int) ρ)} (P:Nat→Prop) {lo hi:Nat} (mono:∀ x y,lo≤x→x≤y→y<hi→P y→P x)
  (step:∀ i j:Nat,lo≤i→i<j→j≤hi→(P ((i+j) / 2)→f ((i:Int),(j:Int))=some (.next (((((i+j) / 2:Nat):Int)+1),(j:Int))))∧(¬P ((i+j) / 2)→f ((i:Int),(j:Int))=some (.next ((i:Int),(((i+j) / 2:Nat):Int)))))
  (a:∀ i:Nat,f ((i:Int),(i:Int))=some (.brk ((i:Int),(i:Int)))):∀ (s i j:Nat),j - i≤s→lo≤i→i≤j→j≤hi→(∀ x,lo≤x→x<i→P x)→(∀ x,j≤x→x<hi→¬P x) →
  ∃ k:Nat,i≤k∧k≤j∧(∀ x,lo≤x→x<k→P x)∧(∀ x,k≤x→x<hi→¬P x)∧lp f ((i:Int),(j:Int))=some (.go ((k:Int),(k:Int)))
 | 0,i,j,h,h1,h2,h3,h4,h5=>by
  obtain rfl:i=j:=Aa;exact⟨i,Aa,Aa,h4,h5,Db (a i)⟩
 | s+1,i,j,h,h1,h2,h3,h4,h5=>by
  by_cases e:i=j
  ·subst e
   exact⟨i,Aa,Aa,h4,h5,Db (a i)⟩
  ·have p:i<j:=by omega
   obtain⟨r,t⟩:=step i j h1 p h3;by_cases c:P ((i+j) / 2)
   ·obtain⟨k,n,o,d,g,l⟩:=Ace P mono step a s ((i+j) / 2+1) j Aa Aa Aa h3 (fun x b m=>mono x _ b Aa Aa c) h5
    exact⟨k,Aa,o,d,g,B4 (r c) l⟩
   ·obtain⟨k,n,o,d,g,l⟩:=Ace P mono step a s i ((i+j) / 2) Aa h1 Aa Aa h4 (fun x b m q=>c (mono _ x Aa b m q))
    exact⟨k,n,Aa,d,g,B4 (t c) l⟩
theorem Aks {P W:List Due}{i:Nat} (h:i<P.length):ele (P++W) (i:Int)=ele P (i:Int):=by
 rw[Dj,Dj,Ec,Ec,Abx h]
theorem Aec {P W:List Due}{i:Nat}:ele (P++W) ((P.length+i:Nat):Int)=ele W (i:Int):=by
 rw[Dj,Dj,Ec,Ec,Arm Aa,Nat.add_sub_cancel_left]
theorem Yb {l:List Due} (h:Qb l) {i j:Nat} (b:i≤j) (a:j<l.length):(ele l (i:Int)).due≤(ele l (j:Int)).due:=by
 rcases Vt i j with c | c
 ·have:=Arl.1 h i j Aa a c
  simpa[Dj,Ec,a,show i<l.length from Aa] using this
 ·obtain rfl:i=j:=by omega
  exact Fo _
theorem A1r {l:List Due}{n:Nat}{d:Due} (h:d∈l.take n):∃ i:Nat,i<n∧i<l.length∧ele l (i:Int)=d:=by
 obtain⟨i,hi,rfl⟩:=Adm h;rw[I8] at hi;exact⟨i,Aa,Aa,by rw[List.getElem_take,Dj,Ec,E7 Aa];rfl⟩
theorem A1s {l:List Due}{n:Nat}{d:Due} (h:d∈l.drop n):∃ i:Nat,n≤i∧i<l.length∧ele l (i:Int)=d:=by
 obtain⟨i,hi,rfl⟩:=Adm h;rw[Nn] at hi;exact⟨n+i,Aa,Aa,by rw[List.getElem_drop,Dj,Ec,E7 Aa];rfl⟩
theorem Ayk (x:Due) {i:Int}:∀ (R A W:List Due),i - 1=(A.length:Int)+R.length→A.length+1+R.length+W.length≤1000000 →
  lp (Ch i) (A++x::(R++W),(A.length:Int))=some (.go (A++(R++x::W),((A.length+R.length:Nat):Int)))
 | [],A,W,h,hs=>by
  simp only[E6] at h hs;refine Db ?_;unfold Ch;simp only;rw[Ay Aa Aa];exact Cn Aa
 | y::R,A,W,h,hs=>by
  simp only[Ef] at h hs;have c:=Ayk x (i:=i) R (A++[y]) W (by rw[Ca,Lv];omega) (by rw[Ca,Lv];omega);have b:A++x::(y::R++W)=(A++[x])++y::(R++W):=Bf
  have a:ln (A++x::(y::R++W))=((A.length+2+R.length+W.length:Nat):Int):=by unfold ln;simp only[Ca,Ef];omega
  have d:ele (A++x::(y::R++W)) (A.length:Int)=x:=R7 rfl
  have e:ele (A++x::(y::R++W)) ((A.length:Int)+1)=y:=by rw[b];exact R7 Bf
  refine B4 (g':=((A++[y])++x::(R++W),((A++[y]).length:Int))) ?_ ?_
  ·unfold Ch
   simp only
   rw[Ay Aa Aa,Ck Aa,Ay Aa Aa,Ay Aa Aa,A8 Aa (by rw[a];omega),A8 Aa (by rw[a];omega),A8 Aa (by rw[a];omega),Arx,A8 Aa (by rw[a];omega),Ay Aa Aa,d,e,Tk rfl,
    show A++y::(y::R++W)=(A++[y])++y::(R++W) from Bf,Tk Bf]
   rw[show ((A++[y]).length:Int)=(A.length:Int)+1 from Bf]
  ·rw[c,show (A++[y]).length+R.length=A.length+(y::R).length from by simp only[Ca,Ef,E6];omega]
   simp
theorem Ayl (y:Due) {i:Int}:∀ (n:Nat) (A R W:List Due),R.length=n→i=(A.length:Int)→A.length+1+R.length+W.length≤1000000 →
  lp (Cf i) (A++(R++y::W),((A.length+R.length:Nat):Int))=some (.go (A++y::(R++W),(A.length:Int)))
 | 0,A,R,W,c,h,hs=>by
  obtain rfl:=Agg c;refine Db ?_;unfold Cf;exact Cn (by simp;omega)
 | n+1,A,R,W,c,h,hs=>by
  obtain⟨L,x,rfl⟩:∃ L x,R=L++[x]:=by
   rcases List.eq_nil_or_concat R with rfl | ⟨L,x,rfl⟩
   ·cases c
   ·exact⟨L,x,Bf⟩
  have a:(L++[x]).length=L.length+1:=Bf;rw[a] at c hs;have f:=Ayl y (i:=i) n A L (x::W) Aa h (by simp only[Ef];omega);have e:A++((L++[x])++y::W)=(A++L)++x::(y::W):=Bf;have d:A++((L++[x])++y::W)=(A++(L++[x]))++y::W:=Bf
  have b:ln (A++((L++[x])++y::W))=((A.length+L.length+2+W.length:Nat):Int):=by unfold ln;simp only[Ca,Ef,E6];omega
  have g:ele (A++((L++[x])++y::W)) ((A.length+(L++[x]).length:Nat):Int)=y:=by rw[d];exact R7 (congrArg Nat.cast List.length_append.symm)
  have j:ele (A++((L++[x])++y::W)) (((A.length+(L++[x]).length:Nat):Int) - 1)=x:=by rw[e];exact R7 (by rw[a,Ca];omega)
  refine B4 (g':=(A++(L++y::(x::W)),((A.length+L.length:Nat):Int))) ?_ ?_
  ·unfold Cf
   simp only
   rw[Ck (by rw[a];omega),Ay (by rw[a];omega) (by rw[a];omega),Ay (by rw[a];omega) (by rw[a];omega),A8 (by rw[a];omega) (by rw[b,a];omega),A8 Aa (by rw[b,a];omega),A8 Aa (by rw[b,a];omega),Arx,A8 (by rw[a];omega) (by rw[b,a];omega),Ay (by rw[a];omega) (by rw[a];omega),g,j,
    d,Tk (congrArg Nat.cast List.length_append.symm),show (A++(L++[x]))++x::W=(A++L)++x::(x::W) from Bf,Tk (by rw[a,Ca];omega),a]
   rw[show ((A.length+(L.length+1):Nat):Int) - 1=((A.length+L.length:Nat):Int) from Aa,G6]
  ·rw[f];simp
theorem app4 (a b c d:List Due):(a++b)++(c++d)=a++((b++c)++d):=Bf
theorem Wj:∀ (I:Nat) (A L R Z:List Due),1≤L.length→1≤R.length→L.length+R.length≤2 ^ I→Qb L→Qb R→(∀ d∈L++R,In9 d)→A.length+L.length+R.length+Z.length≤1000000 →
  ∃ S,Qb S∧Stb (L++R) S∧A1 (I+1) (A++(L++(R++Z))) (A.length:Int) ((A.length+L.length:Nat):Int) ((A.length+L.length+R.length:Nat):Int)=some (A++(S++Z))
 | I,A,L,R,Z,hL1,hR1,hfl,hL,hR,hi,hs=>by
  have c6:∀ i:Nat,i<L.length→In9 (ele L (i:Int)):=fun i h=>hi _ (F8.2 (.inl (D9 h)));have c7:∀ i:Nat,i<R.length→In9 (ele R (i:Int)):=fun i h=>hi _ (F8.2 (.inr (D9 h)));generalize hD:A++(L++(R++Z))=D
  have N:ln D=((A.length+L.length+R.length+Z.length:Nat):Int):=by rw[←hD];unfold ln;simp only[Ca];omega
  have z:∀ i:Nat,i<L.length→ele D ((A.length+i:Nat):Int)=ele L (i:Int):=fun i h=>by rw[←hD,Aec,Aks h]
  have B:∀ i:Nat,i<R.length→ele D ((A.length+L.length+i:Nat):Int)=ele R (i:Int):=fun i h=>by rw[←hD,Nat.add_assoc,Aec,Aec,Aks h]
  unfold A1;rw[Ay Aa Aa];by_cases c1:L.length=1
  ·skip
   obtain⟨x,rfl⟩:=List.length_eq_one_iff.1 c1;have g:In9 x:=hi x Bf;have e1:ele D (A.length:Int)=x:=z 0 Bf
   obtain⟨k,d3,d4,a5,a6,a7⟩:=Ace (f:=Ci D (A.length:Int)) (ρ:=Empty) (fun h=>(ele D (h:Int)).due<x.due) (lo:=A.length+1) (hi:=A.length+1+R.length) (fun p q C E Q T=>by
     obtain⟨v,rfl⟩:∃ v,p=A.length+1+v:=⟨p - (A.length+1),Aa⟩;obtain⟨w,rfl⟩:∃ w,q=A.length+1+w:=⟨q - (A.length+1),Aa⟩;have e:=B v Aa;have s:=B w Aa;rw[c1] at e s;rw[s] at T;rw[e];have:=Yb hR (i:=v) (j:=w) Aa Aa
     omega) (fun i j C E Q=>by
     obtain⟨t,G⟩:∃ t,(i+j) / 2=A.length+1+t:=⟨(i+j) / 2 - (A.length+1),Aa⟩;have e:=B t Aa;rw[c1,←G] at e;have l:=c7 t Aa;rw[←e] at l;have a1:((i:Int)+j) / 2=(((i+j) / 2:Nat):Int):=Aa;unfold Ci;simp only;rw[Ck Aa,Ay Aa Aa,Ame Aa Aa,a1,A8 Aa (by rw[N];omega),A8 Aa (by rw[N];omega),e1,Aok l g,bd_ret]
     exact⟨fun h=>by rw[Ck Aa,Ay Aa Aa],fun h=>by rw[Cn Aa]⟩) (fun i=>by unfold Ci;exact Cn Aa) (R.length) (A.length+1) (A.length+1+R.length) Aa Aa Aa Aa (fun y C E=>Aa) (fun y C E=>Aa)
   obtain⟨t,G⟩:∃ t,k=A.length+1+t:=⟨k - (A.length+1),Aa⟩;have a8:R=R.take t++R.drop t:=(Lu _ _).symm
   have a9:∀ d∈R.take t,d.due<x.due:=fun d o=>by
    obtain⟨i,a4,i2,rfl⟩:=A1r o;have:=a5 (A.length+1+i) Aa Aa;have e:=B i i2;rw[c1] at e;rw[e] at this;exact this
   have U:∀ d∈R.drop t,x.due≤d.due:=fun d o=>by
    obtain⟨i,a4,i2,rfl⟩:=A1s o;have:=a6 (A.length+1+i) Aa Aa;have e:=B i i2;rw[c1] at e;rw[e] at this;omega
   have O:(R.take t).length=t:=by rw[I8];omega
   have W:=hR;rw[a8] at W;obtain⟨r1,b7,d6⟩:=Of.1 W;refine⟨R.take t++x::R.drop t,Of.2 ⟨r1,Acl.2 ⟨U,b7⟩,fun p b0 q J=>?_⟩,?_,?_⟩
   ·have:=a9 p b0
    rcases Gw.1 J with rfl | J
    ·omega
    ·have:=U q J;omega
   ·conv=>lhs;rw[a8]
    rw[show [x]++(R.take t++R.drop t)=([x]++R.take t)++R.drop t from Bf,show R.take t++x::R.drop t=(R.take t++[x])++R.drop t from Bf];exact Abs (Stb.swap fun a b4 b b5=>by rw[G7.1 b4];exact a9 b b5) (Jn _)
   ·rw[show ((((A.length + [x].length:Nat)):Int) - (A.length:Int)==1)=true from by rw[c1];simp;omega,br_true]
    rw[show ((A.length + [x].length:Nat):Int)=((A.length+1:Nat):Int) from rfl,show ((A.length + [x].length+R.length:Nat):Int)=((A.length+1+R.length:Nat):Int) from rfl,a7,bd_ret,Out.on_go];simp only;have b9:=Ayk x (i:=(k:Int)) (R.take t) A (R.drop t++Z) (by rw[O];omega) (by rw[O,Ca,Nn];simp only[Lv] at hs;omega)
    have K:D=A++x::(R.take t++(R.drop t++Z)):=by
     rw[←hD,show R++Z=R.take t++(R.drop t++Z) from by rw[←G6,Lu]];rfl
    rw[K,b9,bd_ret,Out.on_go];simp
  rw[show ((((A.length+L.length:Nat)):Int) - (A.length:Int)==1)=Az from by simp;omega,br_false,Ay Aa Aa];by_cases c2:R.length=1
  ·skip
   obtain⟨y,rfl⟩:=List.length_eq_one_iff.1 c2;have l:In9 y:=hi y Bf;have e2:ele D ((A.length+L.length:Nat):Int)=y:=B 0 Bf
   obtain⟨k,d3,d4,a5,a6,a7⟩:=Ace (f:=Cg D ((A.length+L.length:Nat):Int)) (ρ:=Empty) (fun h=>(ele D (h:Int)).due≤y.due) (lo:=A.length) (hi:=A.length+L.length) (fun p q C E Q T=>by
     obtain⟨v,rfl⟩:∃ v,p=A.length+v:=⟨p - A.length,Aa⟩;obtain⟨w,rfl⟩:∃ w,q=A.length+w:=⟨q - A.length,Aa⟩;rw[z w Aa] at T;rw[z v Aa];have:=Yb hL (i:=v) (j:=w) Aa Aa
     omega) (fun i j C E Q=>by
     obtain⟨t,G⟩:∃ t,(i+j) / 2=A.length+t:=⟨(i+j) / 2 - A.length,Aa⟩;have e:=z t Aa;rw[←G] at e;have g:=c6 t Aa;rw[←e] at g;have a1:((i:Int)+j) / 2=(((i+j) / 2:Nat):Int):=Aa;unfold Cg;simp only;rw[Ck Aa,Ay Aa Aa,Ame Aa Aa,a1,A8 Aa (by rw[N];omega),A8 Aa (by rw[N];omega),e2,Aok l g,bd_ret]
     exact⟨fun h=>by rw[W7 Aa,Kc,br_true,Ay Aa Aa],fun h=>by rw[Ls Aa,F9,br_false]⟩) (fun i=>by unfold Cg;exact Cn Aa) (L.length) A.length (A.length+L.length) Aa Aa Aa Aa (fun y C E=>Aa) (fun y C E=>Aa)
   obtain⟨t,G⟩:∃ t,k=A.length+t:=⟨k - A.length,Aa⟩;have b3:L=L.take t++L.drop t:=(Lu _ _).symm
   have a9:∀ d∈L.take t,d.due≤y.due:=fun d o=>by
    obtain⟨i,a4,i2,rfl⟩:=A1r o;have:=a5 (A.length+i) Aa Aa;rw[z i i2] at this;exact this
   have U:∀ d∈L.drop t,y.due<d.due:=fun d o=>by
    obtain⟨i,a4,i2,rfl⟩:=A1s o;have:=a6 (A.length+i) Aa Aa;rw[z i i2] at this;omega
   have O:(L.take t).length=t:=by rw[I8];omega
   have V:=hL;rw[b3] at V;obtain⟨r1,b7,d6⟩:=Of.1 V;refine⟨L.take t++y::L.drop t,Of.2 ⟨r1,Acl.2 ⟨fun d o=>by have:=U d o;omega,b7⟩,fun p b0 q J=>?_⟩,?_,?_⟩
   ·rcases Gw.1 J with rfl | J
    ·exact a9 p b0
    ·exact d6 p b0 q J
   ·rw[show L++[y]=L.take t++(L.drop t++[y]) from by rw[←G6,Lu],show L.take t++y::L.drop t=L.take t++([y]++L.drop t) from Bf]
    exact Abs (Jn _) (Stb.swap fun a b4 b b5=>by rw[G7.1 b5];exact U a b4)
   ·rw[show ((((A.length+L.length + [y].length:Nat)):Int) - ((A.length+L.length:Nat):Int)==1)=true from by rw[c2];simp;omega,br_true,a7,bd_ret,Out.on_go]
    simp only;have b6:(L.drop t).length=L.length - t:=Nn;have b9:=Ayl y (i:=(k:Int)) (L.length - t) (A++L.take t) (L.drop t) Z b6 (by rw[Ca,O];omega) (by rw[Ca,O,b6];simp only[Lv] at hs;omega)
    have K:D=(A++L.take t)++(L.drop t++y::Z):=by
     rw[←hD,show L++([y]++Z)=L.take t++(L.drop t++([y]++Z)) from by rw[←G6 (L.take t),Lu],G6];rfl
    rw[K,show ((A.length+L.length:Nat):Int)=(((A++L.take t).length+(L.drop t).length:Nat):Int) from by rw[Ca,O,b6];omega,b9,bd_ret,Out.on_go];simp
  rw[show ((((A.length+L.length+R.length:Nat)):Int) - ((A.length+L.length:Nat):Int)==1)=Az from by simp;omega,br_false,Ay Aa Aa];obtain⟨M,g9⟩:∃ M:Nat,M=(A.length+(A.length+L.length+R.length)) / 2:=⟨_,rfl⟩
  have c8:IntKind.i64.wrap (shrD (IntKind.u64.wrap ((A.length:Int)+((A.length+L.length+R.length:Nat):Int))) 1)=(M:Int):=by rw[Ame Aa Aa];omega
  rw[c8,Ay Aa Aa]
  obtain⟨H,r0,e4,g1,g5,g3,g4,g7,g6,g8⟩:∃ H r0:Nat,(br (Ap (((A.length+L.length:Nat):Int)>(M:Int))) (ck (IR ((M:Int)+((A.length+L.length:Nat):Int) - ((A.length+L.length+R.length:Nat):Int))) (some (Out.go ((M:Int)+((A.length+L.length:Nat):Int) - ((A.length+L.length+R.length:Nat):Int),(M:Int)):Out (Int×Int) Empty))) (some (.go ((A.length:Int),((A.length+L.length:Nat):Int))))=some (.go ((H:Int),(r0:Int))))∧A.length≤H∧H≤r0∧r0≤M∧r0≤A.length+L.length∧(H=A.length∨H+(A.length+L.length+R.length)=M+(A.length+L.length))∧(r0=M∨r0=A.length+L.length)∧M+(A.length+L.length)≤H+(A.length+L.length+R.length):=by
   by_cases c:((A.length+L.length:Nat):Int)>(M:Int)
   ·refine⟨M+(A.length+L.length) - (A.length+L.length+R.length),M,?_,Aa,Aa,Aa,Aa,Aa,Aa,Aa⟩
    rw[Ck c,Ay Aa Aa,show (M:Int)+((A.length+L.length:Nat):Int) - ((A.length+L.length+R.length:Nat):Int)=((M+(A.length+L.length) - (A.length+L.length+R.length):Nat):Int) from Aa]
   ·exact⟨A.length,A.length+L.length,Cn c,Aa,Aa,Aa,Aa,Aa,Aa,Aa⟩
  rw[e4,bd_ret,Out.on_go];simp only;rw[Ay Aa Aa]
  obtain⟨k,d3,d4,a5,a6,a7⟩:=Ace (f:=Ce D (A.length:Int) ((A.length+L.length:Nat):Int) ((A.length+L.length+R.length:Nat):Int)) (ρ:=Empty) (fun h=>(ele D (h:Int)).due≤(ele D ((M+(A.length+L.length) - 1 - h:Nat):Int)).due) (lo:=H) (hi:=r0) (fun p q C E Q T=>by
    obtain⟨v,c9⟩:∃ v,p=A.length+v:=⟨p - A.length,Aa⟩;obtain⟨w,d0⟩:∃ w,q=A.length+w:=⟨q - A.length,Aa⟩;rw[show M+(A.length+L.length) - 1 - q=A.length+L.length+(M - 1 - q) from Aa,B _ Aa,d0,z w Aa] at T;rw[show M+(A.length+L.length) - 1 - p=A.length+L.length+(M - 1 - p) from Aa,B _ Aa,c9,z v Aa];have e:=Yb hL (i:=v) (j:=w) Aa Aa;have s:=Yb hR (i:=M - 1 - q) (j:=M - 1 - p) Aa Aa;rw[d0,c9] at s
    omega) (fun i j C E Q=>by
    obtain⟨t,G⟩:∃ t,(i+j) / 2=A.length+t:=⟨(i+j) / 2 - A.length,Aa⟩;have e:=z t Aa;rw[←G] at e;have g:=c6 t Aa;rw[←e] at g;have s:=B (M - 1 - (i+j) / 2) Aa;rw[show A.length+L.length+(M - 1 - (i+j) / 2)=M+(A.length+L.length) - 1 - (i+j) / 2 from Aa] at s;have l:=c7 (M - 1 - (i+j) / 2) Aa;rw[←s] at l;have a1:((i:Int)+j) / 2=(((i+j) / 2:Nat):Int):=Aa;unfold Ce;simp only;rw[Ck Aa,Ay Aa Aa,c8,Ame (n:=(i:Int)+(j:Int)) Aa Aa,a1,show (M:Int)+((A.length+L.length:Nat):Int) - 1 - (((i+j) / 2:Nat):Int)=((M+(A.length+L.length) - 1 - (i+j) / 2:Nat):Int) from Aa,Ay Aa Aa,A8 Aa (by rw[N];omega),A8 Aa (by rw[N];omega),Aok l g,bd_ret]
    exact⟨fun h=>by rw[W7 Aa,Kc,br_true,Ay Aa Aa],fun h=>by rw[Ls Aa,F9,br_false]⟩) (fun i=>by unfold Ce;exact Cn Aa) (r0 - H) H r0 Aa Aa Aa Aa (fun y C E=>Aa) (fun y C E=>Aa)
  rw[a7,bd_ret,Out.on_go];simp only;have e3:(M:Int)+((A.length+L.length:Nat):Int) - (k:Int)=((A.length+L.length+(M - k):Nat):Int):=Aa;rw[e3,Ay Aa Aa];obtain⟨t,G⟩:∃ t,k=A.length+t:=⟨k - A.length,Aa⟩;obtain⟨u,f0⟩:∃ u,u=M - k:=⟨_,rfl⟩;rw[←f0];have b3:L=L.take t++L.drop t:=(Lu _ _).symm;have a8:R=R.take u++R.drop u:=(Lu _ _).symm
  have f1:(L.take t).length=t:=by rw[I8];omega
  have h2:(L.drop t).length=L.length - t:=Nn
  have f2:(R.take u).length=u:=by rw[I8];omega
  have h3:(R.drop u).length=R.length - u:=Nn
  have d5:∀ x∈L.drop t,∀ y∈R.take u,y.due<x.due:=fun x g y l=>by
   obtain⟨i,a4,i2,rfl⟩:=A1s g;obtain⟨j,j1,d2,rfl⟩:=A1r l;have:=a6 k Aa Aa;rw[show M+(A.length+L.length) - 1 - k=A.length+L.length+(M - 1 - k) from Aa,B _ Aa,G,z t Aa,←G] at this;have e:=Yb hL (i:=t) (j:=i) Aa i2;have s:=Yb hR (i:=j) (j:=M - 1 - k) Aa Aa;omega
  have f3:∀ x∈L.take t,∀ y∈R.drop u,x.due≤y.due:=fun x g y l=>by
   obtain⟨i,a4,i2,rfl⟩:=A1r g;obtain⟨j,j1,d2,rfl⟩:=A1s l;have:=a5 (k - 1) Aa Aa;rw[show M+(A.length+L.length) - 1 - (k - 1)=A.length+L.length+u from Aa,B _ Aa,show k - 1=A.length+(t - 1) from Aa,z _ Aa] at this;have e:=Yb hL (i:=i) (j:=t - 1) Aa Aa;have s:=Yb hR (i:=u) (j:=j) Aa d2;omega
  have V:=hL;rw[b3] at V;obtain⟨c4,a2,a3⟩:=Of.1 V;have W:=hR;rw[a8] at W;obtain⟨b1,b2,e0⟩:=Of.1 W
  have K:D=A++(L.take t++(L.drop t++(R.take u++(R.drop u++Z)))):=by
   have e:L++(R++Z)=L.take t++(L.drop t++(R++Z)):=by rw[←G6 (L.take t),Lu]
   have s:R++Z=R.take u++(R.drop u++Z):=by rw[←G6 (R.take u),Lu]
   rw[←hD,e,s]
  have e5:∀ d∈L.take t,In9 d:=fun d o=>hi d (F8.2 (.inl (Z2 o)));have e6:∀ d∈L.drop t,In9 d:=fun d o=>hi d (F8.2 (.inl (Ag8 o)));have e7:∀ d∈R.take u,In9 d:=fun d o=>hi d (F8.2 (.inr (Z2 o)));have e8:∀ d∈R.drop u,In9 d:=fun d o=>hi d (F8.2 (.inr (Ag8 o)))
  have e9:Stb (L++R) ((L.take t++R.take u)++(L.drop t++R.drop u)):=by
   rw[show L++R=(L.take t++L.drop t)++(R.take u++R.drop u) from by rw[Lu,Lu]];rw[app4,app4 (L.take t) (R.take u) (L.drop t) (R.drop u)];exact Abs (Jn _) (Abs (Stb.swap d5) (Jn _))
  generalize L.take t=L1 at *;generalize L.drop t=L2 at *;generalize R.take u=R1 at *;generalize R.drop u=R2 at *
  have h4:I≥1:=by
   rcases I with _ | f
   ·simp at hfl;omega
   ·omega
  obtain⟨f,rfl⟩:∃ f,I=f+1:=⟨I - 1,Aa⟩
  have h1:L.length+R.length≤2 * 2 ^ f:=by rw[Adb] at hfl;omega
  have f7:∃ r,Qb r∧Stb (L1++R1) r∧((Ap ((A.length:Int)<(k:Int))&&Ap ((k:Int)<(M:Int)))=true→A1 (f+1) (A++(L1++(R1++(L2++(R2++Z))))) (A.length:Int) (k:Int) (M:Int)=some (A++(r++(L2++(R2++Z)))))∧((Ap ((A.length:Int)<(k:Int))&&Ap ((k:Int)<(M:Int)))=Az→r=L1++R1):=by
   by_cases c:1≤L1.length∧1≤R1.length
   ·obtain⟨r,e,s,P⟩:=Wj f A L1 R1 (L2++(R2++Z)) c.1 c.2 Aa c4 b1 (fun d o=>(F8.1 o).elim (e5 d) (e7 d)) (by rw[Ca,Ca];omega)
    refine⟨r,e,s,fun _=>?_,fun h=>?_⟩
    ·rw[show (k:Int)=((A.length+L1.length:Nat):Int) from Aa,show (M:Int)=((A.length+L1.length+R1.length:Nat):Int) from Aa]
     exact P
    ·rw[Z4,Hs,Hs] at h
     omega
   ·refine⟨L1++R1,Of.2 ⟨c4,b1,fun x g y l=>?_⟩,Jn _,fun h=>?_,fun _=>rfl⟩
    ·have:=Al3 g
     have:=Al3 l;omega
    ·rw[Fa,Ij,Ij] at h
     omega
  obtain⟨r,f4,b8,f5,f6⟩:=f7
  have h0:r.length=t+u:=by rw[←b8.1,Ca,f1,f2]
  have f8:∃ F,Qb F∧Stb (L2++R2) F∧((Ap ((M:Int)<((A.length+L.length+u:Nat):Int))&&Ap (((A.length+L.length+u:Nat):Int)<((A.length+L.length+R.length:Nat):Int)))=true→A1 (f+1) (A++(r++(L2++(R2++Z)))) (M:Int) ((A.length+L.length+u:Nat):Int) ((A.length+L.length+R.length:Nat):Int)=some (A++((r++F)++Z)))∧((Ap ((M:Int)<((A.length+L.length+u:Nat):Int))&&Ap (((A.length+L.length+u:Nat):Int)<((A.length+L.length+R.length:Nat):Int)))=Az→F=L2++R2):=by
   by_cases c:1≤L2.length∧1≤R2.length
   ·obtain⟨F,e,s,P⟩:=Wj f (A++r) L2 R2 Z c.1 c.2 Aa a2 b2 (fun d o=>(F8.1 o).elim (e6 d) (e8 d)) (by rw[Ca];omega)
    refine⟨F,e,s,fun _=>?_,fun h=>?_⟩
    ·rw[Ca] at P
     rw[show (M:Int)=((A.length+r.length:Nat):Int) from Aa,show ((A.length+L.length+u:Nat):Int)=((A.length+r.length+L2.length:Nat):Int) from Aa,show ((A.length+L.length+R.length:Nat):Int)=((A.length+r.length+L2.length+R2.length:Nat):Int) from Aa];rw[G6] at P;rw[P];simp
    ·rw[Z4,Hs,Hs] at h
     omega
   ·refine⟨L2++R2,Of.2 ⟨a2,b2,fun x g y l=>?_⟩,Jn _,fun h=>?_,fun _=>rfl⟩
    ·have:=Al3 g
     have:=Al3 l;omega
    ·rw[Fa,Ij,Ij] at h
     omega
  obtain⟨F,w1,w2,f9,g0⟩:=f8;refine⟨r++F,Of.2 ⟨f4,w1,fun x g y l=>?_⟩,e9.trans (Abs b8 w2),?_⟩
  ·rcases F8.1 (b8.mem.2 g) with g | g <;> rcases F8.1 (w2.mem.2 l) with l | l
   ·exact a3 x g y l
   ·exact f3 x g y l
   ·have:=d5 y l x g;omega
   ·exact e0 x g y l
  have d8:∀ X,X=A++(L1++(R1++(L2++(R2++Z))))→(br (Ap ((A.length:Int)<(k:Int))&&Ap ((k:Int)<(M:Int))) (bd (A1 (f+1) X (A.length:Int) (k:Int) (M:Int)) fun d9=>br (Ap ((M:Int)<((A.length+L.length+u:Nat):Int))&&Ap (((A.length+L.length+u:Nat):Int)<((A.length+L.length+R.length:Nat):Int))) (bd (A1 (f+1) d9 (M:Int) ((A.length+L.length+u:Nat):Int) ((A.length+L.length+R.length:Nat):Int)) fun c0=>some c0) (some d9)) (br (Ap ((M:Int)<((A.length+L.length+u:Nat):Int))&&Ap (((A.length+L.length+u:Nat):Int)<((A.length+L.length+R.length:Nat):Int))) (bd (A1 (f+1) X (M:Int) ((A.length+L.length+u:Nat):Int) ((A.length+L.length+R.length:Nat):Int)) fun g2=>some g2) (some X)))=some (A++((r++F)++Z)):=fun X c5=>by
   have d1:(br (Ap ((M:Int)<((A.length+L.length+u:Nat):Int))&&Ap (((A.length+L.length+u:Nat):Int)<((A.length+L.length+R.length:Nat):Int))) (bd (A1 (f+1) (A++(r++(L2++(R2++Z)))) (M:Int) ((A.length+L.length+u:Nat):Int) ((A.length+L.length+R.length:Nat):Int)) fun c0=>some c0) (some (A++(r++(L2++(R2++Z))))))=some (A++((r++F)++Z)):=by
    cases a0:(Ap ((M:Int)<((A.length+L.length+u:Nat):Int))&&Ap (((A.length+L.length+u:Nat):Int)<((A.length+L.length+R.length:Nat):Int))) with
    | true=>rw[br_true,f9 a0,bd_ret]
    | false=>rw[br_false,g0 a0];simp
   cases a0:(Ap ((A.length:Int)<(k:Int))&&Ap ((k:Int)<(M:Int))) with
   | true=>rw[br_true,c5,f5 a0,bd_ret];exact d1
   | false =>
    rw[br_false,c5,show A++(L1++(R1++(L2++(R2++Z))))=A++(r++(L2++(R2++Z))) from by rw[f6 a0,G6]];exact d1
  by_cases c:1≤L2.length∧1≤R1.length
  ·rw[show (Ap ((k:Int)<((A.length+L.length:Nat):Int))&&Ap (((A.length+L.length:Nat):Int)<((A.length+L.length+u:Nat):Int)))=true from by rw[Fa,Ij,Ij];omega,br_true]
   have d7:=Az2 (A:=A++L1) (X:=L2) (Y:=R1) (Z:=R2++Z) c.1 c.2 (by rw[Ca,Ca];omega) (a:=(k:Int)) (m:=((A.length+L.length:Nat):Int)) (b:=((A.length+L.length+u:Nat):Int)) (by rw[Ca];omega) (by rw[Ca];omega) (by rw[Ca];omega);rw[G6,G6] at d7;rw[K,d7,bd_ret];exact d8 _ rfl
  ·rw[show (Ap ((k:Int)<((A.length+L.length:Nat):Int))&&Ap (((A.length+L.length:Nat):Int)<((A.length+L.length+u:Nat):Int)))=Az from by rw[Z4,Hs,Hs];omega,br_false]
   refine d8 D ?_;rw[K];by_cases c3:L2=[]
   ·rw[c3];simp
   ·have:R1=[]:=by
     have:=Aen.2 c3;exact Agg Aa
    rw[this];simp
inductive BS (bs:Nat):List Due→Prop
 | last (D:List Due):D.length≤bs→Qb D→BS bs D
 | cons (X Y:List Due):X.length=bs→Qb X→BS bs Y→BS bs (X++Y)
theorem BS.one {bs:Nat}{D:List Due} (h:BS bs D) (b:D.length≤bs) (e:1≤bs):Qb D:=by
 cases h with
 | last _ _ h=>exact h
 | cons X Y c a d =>
  rw[Ca] at b;obtain rfl:=Agg (show Y.length=0 from Aa);rw[N2];exact a
theorem BS.two {bs:Nat}{D:List Due} (h:BS bs D) (d:bs<D.length):∃ X Y,D=X++Y∧X.length=bs∧Qb X∧BS bs Y:=by
 cases h with
 | last _ h _=>omega
 | cons X Y a b c=>exact⟨X,Y,rfl,a,b,c⟩
theorem Apz:∀ (s:Nat) (A Y:List Due),Y.length≤s→(∀ d∈Y,In9 d)→A.length+Y.length≤1000000 →
  ∃ f g b1 Y',lp (Bv ((A.length+Y.length:Nat):Int)) (A++Y,(A.length:Int),((A.length+20:Nat):Int))=some (.go (f,g,b1))∧Be f g ((A.length+Y.length:Nat):Int)=some (A++Y')∧BS 20 Y'∧Stb Y Y'
 | s,A,Y,hs,hi,hl=>by
  by_cases c:20≤Y.length
  ·have n:Y=Y.take 20++Y.drop 20:=(Lu _ _).symm
   have v:(Y.take 20).length=20:=by rw[I8];omega
   have w:(Y.drop 20).length=Y.length - 20:=Nn;have r:∀ d∈Y.take 20,In9 d:=fun d i=>hi d (Z2 i);have t:∀ d∈Y.drop 20,In9 d:=fun d i=>hi d (Ag8 i);generalize Y.take 20=X at *;generalize Y.drop 20=W at *;obtain⟨X',j,e,h⟩:=Ae8 (A:=A) (S:=X) (Z:=W) r Aa Aa (a:=(A.length:Int)) (b:=((A.length+20:Nat):Int)) rfl Aa
   have m:X'.length=20:=by rw[←e.1];exact v
   cases s with
   | zero=>omega
   | succ s =>
    obtain⟨f,g,b1,W',k,l,p,q⟩:=Apz s (A++X') W Aa t (by rw[Ca];omega)
    have u:((A++X').length+W.length:Nat)=A.length+Y.length:=by rw[Ca];omega
    rw[u] at k l;refine⟨f,g,b1,X'++W',?_,by rw[l,G6],BS.cons X' W' m j p,by rw[n];exact Abs e q⟩;refine B4 (g':=((A++X')++W,((A++X').length:Int),(((A++X').length+20:Nat):Int))) ?_ k;unfold Bv;simp only;rw[Ck Aa,n,h,bd_ret,Ay Aa Aa,G6,Ca,m];rfl
  ·have o:Bv ((A.length+Y.length:Nat):Int) (A++Y,(A.length:Int),((A.length+20:Nat):Int))=some (.brk (A++Y,(A.length:Int),((A.length+20:Nat):Int))):=by
    unfold Bv;exact Cn Aa
   by_cases c1:1≤Y.length
   ·obtain⟨Y',j,e,h⟩:=Ae8 (A:=A) (S:=Y) (Z:=[]) hi c1 (by simp only[E6];omega) (a:=(A.length:Int)) (b:=((A.length+Y.length:Nat):Int)) rfl Aa
    rw[N2,N2] at h;exact⟨_,_,_,Y',Db o,h,BS.last Y' (by rw[←e.1];omega) j,e⟩
   ·obtain rfl:=Agg (show Y.length=0 from Aa)
    exact⟨_,_,_,[],Db o,Aqg (by simp only[E6];omega) Aa Aa,BS.last [] Bf Amz,Jn _⟩
theorem A4j:(2:Nat) ^ 63=9223372036854775808:=Ah
theorem Ayo {bs:Nat} (l:1≤bs) (B:bs≤1000000):∀ (s:Nat) (A Y:List Due),Y.length≤s→BS bs Y→(∀ d∈Y,In9 d)→A.length+Y.length≤1000000 →
  ∃ g f b1 Y',lp (Bu ((A.length+Y.length:Nat):Int) (bs:Int)) (A++Y,(A.length:Int),((A.length+2 * bs:Nat):Int))=some (.go (g,f,b1))∧0≤f∧f≤1000000∧(br (Ap (f+(bs:Int)<((A.length+Y.length:Nat):Int))) (A1 64 g f (f+(bs:Int)) ((A.length+Y.length:Nat):Int)) (some g))=some (A++Y')∧BS (2 * bs) Y'∧Stb Y Y'
 | s,A,Y,hs,hY,hi,hl=>by
  by_cases c:2 * bs≤Y.length
  ·obtain⟨a,i,rfl,z,n,k⟩:=hY.two Aa
   rw[Ca] at hs hl c
   obtain⟨b,W,rfl,G,E,F⟩:∃ b W,i=b++W∧b.length=bs∧Qb b∧BS bs W:=by
    by_cases e:bs<i.length
    ·exact k.two e
    ·exact⟨i,[],Bf,Aa,k.one Aa l,BS.last [] Bf Amz⟩
   rw[Ca] at hs hl;obtain⟨S,p,j,m⟩:=Wj 63 A a b W Aa Aa (by rw[A4j];omega) n E (fun d o=>hi d (by rcases F8.1 o with h | h <;> simp[h])) Aa
   have t:S.length=2 * bs:=by rw[←j.1,Ca];omega
   cases s with
   | zero=>omega
   | succ s =>
    obtain⟨g,f,b1,W',q,v,w,r,x,y⟩:=Ayo l B s (A++S) W Aa F (fun d o=>hi d (by simp[o])) (by rw[Ca];omega)
    have C:((A++S).length+W.length:Nat)=A.length+(a++(b++W)).length:=by rw[Ca,Ca,Ca];omega
    rw[C] at q r;refine⟨g,f,b1,S++W',?_,v,w,by rw[r,G6],BS.cons S W' t p x,by rw[←G6];exact Abs j y⟩;refine B4 (g':=((A++S)++W,((A++S).length:Int),(((A++S).length+2 * bs:Nat):Int))) ?_ q;unfold Bu;simp only;rw[Ck (by rw[Ca,Ca];omega),Ay Aa Aa,show (A.length:Int)+(bs:Int)=((A.length+a.length:Nat):Int) from Aa,show ((A.length+2 * bs:Nat):Int)=((A.length+a.length+b.length:Nat):Int) from Aa,m,bd_ret,Ay Aa Aa,Ay Aa Aa];rw[G6,Ca,t,show ((A.length+a.length+b.length:Nat):Int)=((A.length+2 * bs:Nat):Int) from Aa,show ((A.length+2 * bs:Nat):Int)+2 * (bs:Int)=((A.length+2 * bs+2 * bs:Nat):Int) from Aa]
  ·have u:Bu ((A.length+Y.length:Nat):Int) (bs:Int) (A++Y,(A.length:Int),((A.length+2 * bs:Nat):Int))=some (.brk (A++Y,(A.length:Int),((A.length+2 * bs:Nat):Int))):=by
    unfold Bu;exact Cn Aa
   by_cases c1:bs<Y.length
   ·obtain⟨a,i,rfl,z,n,k⟩:=hY.two c1
    rw[Ca] at c c1 hl;obtain⟨S,p,j,m⟩:=Wj 63 A a i [] Aa Aa (by rw[A4j];omega) n (k.one Aa l) hi (by simp only[E6];omega);refine⟨_,_,_,S,Db u,Aa,Aa,?_,BS.last S (by rw[←j.1,Ca];omega) p,j⟩;rw[Ck (by rw[Ca];omega),show (A.length:Int)+(bs:Int)=((A.length+a.length:Nat):Int) from Aa,Ca,←Nat.add_assoc];rw[N2,N2] at m;exact m
   ·exact⟨_,_,_,Y,Db u,Aa,Aa,Cn Aa,BS.last Y Aa (hY.one Aa l),Jn _⟩
theorem Apc:∀ (s:Nat) (D:List Due) (bs:Nat),D.length≤bs+s→1≤bs→bs≤1000000→BS bs D→(∀ d∈D,In9 d)→D.length≤400000 →
  ∃ S b,lp (B7 (D.length:Int)) (D,(bs:Int))=some (.go (S,b))∧Qb S∧Stb D S
 | s,D,bs,hs,h1,h2,hD,hi,hl=>by
  by_cases c:bs<D.length
  ·obtain⟨m,h,b1,Y',f,n,o,a,i,e⟩:=Ayo h1 h2 D.length [] D (Co _) hD hi (by simp;omega)
   simp only[E6,Tf,Ua] at f a
   cases s with
   | zero=>omega
   | succ s =>
    obtain⟨S,b,g,k,l⟩:=Apc s Y' (2 * bs) (by rw[←e.1];omega) Aa Aa i (fun d j=>hi d (e.mem.2 j)) (by rw[←e.1];exact hl);rw[←e.1] at g;refine⟨S,b,?_,k,e.trans l⟩;refine B4 (g':=(Y',((2 * bs:Nat):Int))) ?_ g;unfold B7;simp only;rw[Ck Aa,Ay Aa Aa,show lp (Bu (D.length:Int) (bs:Int)) (D,0,2 * (bs:Int))=_ from f,bd_ret,Out.on_go];simp only;rw[Ay Aa Aa];by_cases c2:h+(bs:Int)<(D.length:Int)
    ·rw[Ck c2] at a ⊢
     rw[a,bd_ret,Ay Aa Aa,show (bs:Int) * 2=((2 * bs:Nat):Int) from Aa]
    ·rw[Cn c2] at a ⊢
     rw[Ay Aa Aa,show (bs:Int) * 2=((2 * bs:Nat):Int) from Aa]
     cases a;rfl
  ·refine⟨D,bs,Db ?_,hD.one Aa h1,Jn _⟩
   unfold B7;exact Cn Aa
theorem Acw {D:List Due} (hi:∀ d∈D,In9 d) (k:D.length≤400000):∃ S,Bp D=some S∧Qb S∧Stb D S:=by
 obtain⟨g,h,b1,Y',c,e,i,a⟩:=Apz D.length [] D (Co _) hi (by simp;omega);simp only[E6,Tf,Ua] at c e;obtain⟨S,b,f,l,m⟩:=Apc D.length Y' 20 (by rw[←a.1];omega) Aa Aa i (fun d j=>hi d (a.mem.2 j)) (by rw[←a.1];exact k);rw[←a.1] at f;refine⟨S,?_,l,a.trans m⟩;unfold Bp D7;rw[show lp (Bv (ln D)) (D,0,20)=_ from c,bd_ret,Out.on_go];simp only;rw[show Be g h (ln D)=_ from e,bd_ret,show lp (B7 (ln D)) (Y',20)=_ from f,bd_ret,Out.on_go,bd_ret]
noncomputable def Es (h:Tgt) (f g:Int) (e:List Opr) (j:List Int) (a:List (List Int)) (k:Int) (i:List Due) (o:Opr) (d:Int):Option ((Int×Int)) :=
 ck (IX o.ar (ln a)) <|
 bd (Hk (IntKind.u64.wrap (ln (ele a o.ar)))) fun c =>
 ck (IR (c - 1)) <|
 bd (Mg o.sp o.pl d (c - 1)) fun b =>
 ck (IX b (ln (ele a o.ar))) <|
 some (o.ar,b)
noncomputable def Gp (a:Int) (g:Tgt) (e f:Int) (d:List Opr) (i:List Int) (b:List (List Int)) (j:Int) (h:List Due) (o:Opr) (k:Int):Option (List (List Int)) :=
 bd (Es g e f d i b j h o k) fun c =>
 some (updG b c.1 c.2 a)
noncomputable def C5 (c:Tgt) (f j:Int) (e:List Opr) (t:List (List Int)) (h pace slot:Int) (i:List Int×List Due):((List Due)×(List (Opr×Int×Int))×Int)→Option (Stp ((List Due)×(List (Opr×Int×Int))×Int) (Empty)):=fun (g,k,d) =>
 br (Ap (d<(ln e))) (
 ck (IX d (ln e)) <|
 ck (IR (pace - (ele e d).stage)) <|
 br ((((ele e d).slot != slot) || (Ap ((pace - (ele e d).stage)<0))) || (Ap ((pace - (ele e d).stage)≥h))) (
 ck (IR (d+1)) <|
 some (.next (g,k,(d+1)))) (
 bd (C0 c f j h ((ele e d).a) pace) fun l =>
 ck (IX l (ln i.1)) <|
 bd (C0 c f j h ((ele e d).b) pace) fun y =>
 ck (IX y (ln i.1)) <|
 br ((ele e d).op==1) (
 bd (Fg ((ele e d).op)) fun p =>
 ck (IX p 3) <|
 ck (IR (((pace * f)+slot)+(Cv c.w0 c.w1 c.w2 p))) <|
 bd (C0 c f j h ((ele e d).dest) pace) fun z =>
 ck (AL (g++[(Due.mk (((pace * f)+slot)+(Cv c.w0 c.w1 c.w2 p)) z ((ele e d).n))]).length 24) <|
 ck (IR (d+1)) <|
 some (.next ((g++[(Due.mk (((pace * f)+slot)+(Cv c.w0 c.w1 c.w2 p)) z ((ele e d).n))]),k,(d+1)))) (
 br ((ele e d).op==2) (
 bd (Fg ((ele e d).op)) fun q =>
 ck (IX q 3) <|
 ck (IR (((pace * f)+slot)+(Cv c.w0 c.w1 c.w2 q))) <|
 bd (C0 c f j h ((ele e d).dest) pace) fun A =>
 ck (AL (g++[(Due.mk (((pace * f)+slot)+(Cv c.w0 c.w1 c.w2 q)) A (pace - (ele e d).stage))]).length 24) <|
 ck (IR (d+1)) <|
 some (.next ((g++[(Due.mk (((pace * f)+slot)+(Cv c.w0 c.w1 c.w2 q)) A (pace - (ele e d).stage))]),k,(d+1)))) (
 br ((ele e d).op==3) (
 bd (Es c f j e i.1 t h g (ele e d) (pace - (ele e d).stage)) fun r =>
 bd (Fg ((ele e d).op)) fun s =>
 ck (IX s 3) <|
 ck (IR (((pace * f)+slot)+(Cv c.w0 c.w1 c.w2 s))) <|
 bd (C0 c f j h ((ele e d).dest) pace) fun u =>
 ck (AL (g++[(Due.mk (((pace * f)+slot)+(Cv c.w0 c.w1 c.w2 s)) u (ele (ele t r.1) r.2))]).length 24) <|
 ck (IR (d+1)) <|
 some (.next ((g++[(Due.mk (((pace * f)+slot)+(Cv c.w0 c.w1 c.w2 s)) u (ele (ele t r.1) r.2))]),k,(d+1)))) (
 br ((ele e d).op==4) (
 ck (AL (k++[((ele e d),(pace - (ele e d).stage),(ele i.1 l))]).length 8) <|
 bd (Fg ((ele e d).op)) fun m =>
 ck (IX m 3) <|
 ck (IR (((pace * f)+slot)+(Cv c.w0 c.w1 c.w2 m))) <|
 bd (C0 c f j h ((ele e d).dest) pace) fun v =>
 ck (AL (g++[(Due.mk (((pace * f)+slot)+(Cv c.w0 c.w1 c.w2 m)) v (ele i.1 l))]).length 24) <|
 ck (IR (d+1)) <|
 some (.next ((g++[(Due.mk (((pace * f)+slot)+(Cv c.w0 c.w1 c.w2 m)) v (ele i.1 l))]),(k++[((ele e d),(pace - (ele e d).stage),(ele i.1 l))]),(d+1)))) (
 ck (IR ((ele e d).op - 10)) <|
 bd (Uz ((ele e d).op - 10) (ele i.1 l) (ele i.1 y)) fun w =>
 bd (Fg ((ele e d).op)) fun o =>
 ck (IX o 3) <|
 ck (IR (((pace * f)+slot)+(Cv c.w0 c.w1 c.w2 o))) <|
 bd (C0 c f j h ((ele e d).dest) pace) fun x =>
 ck (AL (g++[(Due.mk (((pace * f)+slot)+(Cv c.w0 c.w1 c.w2 o)) x w)]).length 24) <|
 ck (IR (d+1)) <|
 some (.next ((g++[(Due.mk (((pace * f)+slot)+(Cv c.w0 c.w1 c.w2 o)) x w)]),k,(d+1))))))))) (
 some (.brk (g,k,d)))
noncomputable def Ee (g:Tgt) (e f:Int) (d:List Opr) (h:Int) (k:List Int×List Due) (i:List Due) (b:List (Opr×Int×Int)):((List (List Int))×Int)→Option (Stp ((List (List Int))×Int) (Empty)):=fun (c,a) =>
 br (Ap (a<(ln b))) (
 ck (IX a (ln b)) <|
 bd (Gp ((ele b a).2.2) g e f d k.1 c h i ((ele b a).1) ((ele b a).2.1)) fun j =>
 ck (IR (a+1)) <|
 some (.next (j,(a+1)))) (
 some (.brk (c,a)))
noncomputable def Gg (e:Tgt) (a d:Int) (c:List Opr) (j:List Int) (f:List (List Int)) (g:Int) (i:List Due) (pace slot:Int):Option (List Int×List (List Int)×List Due) :=
 ck (IR (pace * a)) <|
 ck (IR ((pace * a)+slot)) <|
 bd (Eb e a d c j f g i ((pace * a)+slot)) fun b =>
 bd (lp (C5 e a d c f g pace slot b) (b.2,([]:List (Opr×Int×Int)),0)) fun k=>k.on (fun (h,n,p) =>
 bd (lp (Ee e a d c g b h n) (f,0)) fun l=>l.on (fun (m,o) =>
 some (b.1,m,h)) (fun r=>r.elim)) (fun r=>r.elim)
def Ai3 (r:List Int) (d:Due):List Int:=upd r d.reg d.v
theorem Aht:∀ (q:List Due) (r:List Int),(q.foldl Ai3 r).length=r.length
 | [],r=>rfl
 | d::q,r=>by rw[Adk,Aht q];unfold Ai3;rw[El]
theorem Apd {xs:List Int}{i x v:Int} (h:v∈upd xs i x):v=x∨v∈xs:=by
 unfold upd at h;rcases Ahb h with h | h
 ·exact .inr h
 ·exact .inl h
theorem Ao5:∀ (q:List Due) (r:List Int),(∀ d∈q,InR d.v)→(∀ v∈r,InR v)→∀ v∈q.foldl Ai3 r,InR v
 | [],r,_,h=>h
 | d::q,r,hd,h=>Ao5 q _ (fun e b=>hd e (Z3 _ b)) fun v a=>by
  rcases Apd a with rfl | a
  ·exact hd d (Aav ..)
  ·exact h v a
theorem Afz {T:Int}{l:List Due} (h:∀ d∈l,d.due≠T):atT T l=[]:=List.filter_eq_nil_iff.2 fun d a=>by simpa using h d a
theorem Ani {T:Int}{l:List Due}{d:Due} (h:d∈atT T l):d∈l∧d.due=T:=by
 have:=Ul.1 h;exact⟨this.1,by simpa using this.2⟩
theorem Ad3 {c:Int}:∀ {S:List Due},Qb S→(∀ d∈S,c≤d.due)→∃ Z,S=atT c S++Z∧Qb Z∧∀ d∈Z,c+1≤d.due
 | [],_,_=>⟨[],rfl,List.Pairwise.nil,fun _ h=>by cases h⟩
 | x::S,hs,hc=>by
  obtain⟨g,i⟩:=Alu.1 hs;by_cases e:x.due=c
  ·obtain⟨Z,a,b,d⟩:=Ad3 i fun d f=>hc d (Z3 _ f)
   refine⟨Z,?_,b,d⟩;rw[show atT c (x::S)=x::atT c S from by unfold atT;rw[Age (by simpa using e)],Vz,←a]
  ·have j:=hc x (Aav ..)
   refine⟨x::S,?_,hs,fun d f=>?_⟩
   ·rw[Afz (T:=c) fun d f=>?_,Ua]
    rcases Gw.1 f with rfl | f
    ·exact e
    ·have:=g d f;omega
   ·rcases Gw.1 f with rfl | f
    ·omega
    ·have:=g d f;omega
def Sl (c:Int) (q:List Due):List Due:=q.filter fun d=>Ap (d.due≠c)
theorem A0o (c:Int) (q:List Due):q.length=(atT c q).length+(Sl c q).length:=by
 unfold atT Sl
 induction q with
 | nil=>rfl
 | cons x q a =>
  by_cases e:x.due=c
  ·rw[Age (by simpa using e),Adq (by simpa using e)];simp only[Ef];omega
  ·rw[Adq (by simpa using e),Age (by simpa using e)];simp only[Ef];omega
theorem A2z (c T:Int) (q:List Due):atT T (Sl c q)=if T=c then [] else atT T q:=by
 split
 ·rename_i h;subst h;exact Afz fun d a=>by have:=(Ul.1 a).2;simpa using this
 ·rename_i h
  unfold atT Sl;rw[List.filter_filter];refine List.filter_congr fun d _=>?_;by_cases e:d.due=T
  ·simp[e,h]
  ·simp[e]
theorem Ao0 {c:Int}{D S Z:List Due} (hs:Stb D S) (e:S=atT c S++Z) (g:∀ d∈Z,c+1≤d.due):Stb Z (Sl c D):=by
 have i:=A0o c D
 have b:S.length=(atT c S).length+Z.length:=by rw[←Ca,←e]
 have f:=hs.2 c;refine⟨by rw[←f] at b;have:=hs.1;omega,fun T=>?_⟩;rw[A2z];split
 ·rename_i h;subst h;exact Afz fun d a=>by have:=g d a;omega
 ·rename_i h
  have e':atT T S=atT T Z:=by
   rw[show atT T S=atT T (atT c S++Z) from congrArg _ e,Acf,show atT T (atT c S)=[] from Afz fun d a=>by have:=(Ani a).2;omega,Ua]
  rw[hs.2 T,e']
theorem Awk {c:Int}{A Z:List Due}{r:List Int} (a:∀ d∈A,d.due≤c∧0≤d.reg∧d.reg<r.length) (b:∀ d∈Z,c<d.due) (j:(A++Z).length≤1000000):lp (Em c (A++Z)) (r,0)=some (.go (A.foldl Ai3 r,(A.length:Int))):=by
 rw[Ca] at j
 have X:=G8 (f:=Em c (A++Z)) (ρ:=Empty) (fun i=>((A.take i).foldl Ai3 r,(i:Int))) A.length (fun i hi=>by
  have g:ele (A++Z) (i:Int)=ele A (i:Int):=by rw[Dj,Dj,Ec,Ec,Abx hi]
  have e:=a _ (D9 hi);have k:=Aht (A.take i) r;unfold Em;simp only
  rw[g,Fv (fun _=>⟨Aa,by unfold ln;rw[Ca];omega⟩),Ls (show (i:Int)<ln (A++Z) by unfold ln;rw[Ca];omega),Ls e.1,Adf,br_true,
   A8 Aa (by unfold ln;rw[Ca];omega),A8 Aa (by unfold ln;rw[Ca];omega),A8 Aa (by unfold ln;omega),Ay Aa Aa,Kg hi,Aau]
  rfl) (by
  unfold Em;simp only;rw[Fv (fun h=>⟨Aa,Ag3 h⟩)]
  cases Z with
  | nil=>rw[N2,W7 (show ¬(A.length:Int)<ln A by unfold ln;omega),Adj,br_false]
  | cons z Z =>
   have:=b z (Aav ..)
   rw[R7 rfl,W7 (show ¬z.due≤c from Aa),Bool.and_false,br_false])
 rw[X3] at X;exact X
theorem Ayz {t:Tgt}{p s:Int}{ops:List Opr}{M:List (List Int)}{N c:Int}{D S A Z:List Due}{r:List Int} (b:Bp D=some S) (e:S=A++Z) (a:∀ d∈A,d.due≤c∧0≤d.reg∧d.reg<r.length) (f:∀ d∈Z,c<d.due) (g:S.length≤1000000) :
  Eb t p s ops r M N D c=some (A.foldl Ai3 r,Z):=by
 unfold Eb;rw[b,bd_ret,e,Awk a f (by rw[←e];exact g),bd_ret,Out.on_go];simp only;rw[Rz Aa (by unfold ln;rw[Ca];omega) Aa];unfold sub ln;rw[I9,List.drop_left,W9 (by rw[Ca];omega)]
def Ai6 (N pa sl:Int) (o:Opr):Bool:=!(((o.slot != sl) || (Ap (pa - o.stage<0))) || (Ap (pa - o.stage≥N)))
def rgO (t:Tgt) (r:List Int) (x pa:Int):Int:=ele r ((x+pa) % t.regs)
def ixO (logs:List Int) (pa:Int) (o:Opr):Int:=idx o.sp o.pl (pa - o.stage) (ele logs o.ar)
def A1n (t:Tgt) (logs r:List Int) (M:List (List Int)) (pa:Int) (o:Opr):Int :=
 if o.op=1 then o.n else if o.op=2 then pa - o.stage else if o.op=3 then ele (ele M o.ar) (ixO logs pa o) else if o.op=4 then rgO t r o.a pa else opV (o.op - 10) (rgO t r o.a pa) (rgO t r o.b pa)
def A1z (t:Tgt) (logs r:List Int) (M:List (List Int)) (now pa:Int) (o:Opr):Due:=⟨now+Fb t o.op,(o.dest+pa) % t.regs,A1n t logs r M pa o⟩
def putO (t:Tgt) (logs r:List Int) (pa:Int) (W:List (List Int)) (o:Opr):List (List Int):=updG W o.ar (ixO logs pa o) (rgO t r o.a pa)
def stO (t:Tgt) (logs r:List Int) (pa:Int) (W:List (List Int)) (o:Opr):List (List Int):=if o.op=4 then putO t logs r pa W o else W
abbrev MemG (logs:List Int) (M:List (List Int)):Prop:=MemOk ⟨logs,[],[]⟩ M
theorem MemG.tO {logs:List Int}{M:List (List Int)} (h:MemG logs M) (o:Opr):MemOk (lpO logs o) M:=⟨h.len,h.row,h.rng⟩
structure RegsG (t:Tgt) (r:List Int):Prop where
 len:(r.length:Int)=t.regs
 rng:∀ v∈r,InR v
theorem At5 {t:Tgt}{k:Krn}{o:Opr}{logs:List Int} (h:Vo t k o logs):o.op=1∨o.op=2∨(o.op=3∧Lr logs.length (G5 o))∨(o.op=4∧Lr logs.length (G5 o))∨(11≤o.op∧o.op≤18):=by
 have a:=(h.2.2.stm 1 (show 1<2 from Aa)).2.2;have b:((lpO logs o).body.getD 1 Stm.zero)=G5 o:=rfl;rw[b] at a;have c:(G5 o).op=o.op:=rfl;have d:(lpO logs o).logs=logs:=rfl;rw[c,d] at a;rcases a with h | h | h | h | h
 ·exact .inl h.1
 ·exact .inr (.inl h.1)
 ·exact .inr (.inr (.inl ⟨h.1,h.2.2.1⟩))
 ·exact .inr (.inr (.inr (.inl ⟨h.1,h.2.2.1⟩)))
 ·exact .inr (.inr (.inr (.inr ⟨h.1,h.2.1⟩)))
section
variable {t : Tgt} {k : Krn} {logs : List Int} {o : Opr}
theorem Arq {r:List Int} (a:RegsG t r) (x pa:Int):InR (rgO t r x pa):=Afy a.rng _
theorem A15 (h:Vo t k o logs) {M:List (List Int)} (b:MemG logs M) (i:Lr logs.length (G5 o)) (u:Int):IX o.ar (ln M)∧IX o.ar (ln logs)∧IX (idx o.sp o.pl u (ele logs o.ar)) (ln (ele M o.ar))∧∃ L:Nat,L≤5∧ele logs o.ar=L∧(ele M o.ar).length=2 ^ L:=by
 obtain⟨w1,w2,j⟩:=Amt (l:=lpO logs o) (s:=G5 o) h.2.2 (b.tO o) i u;have f:(G5 o).ar=o.ar:=rfl;have g:(lpO logs o).logs=logs:=rfl;rw[f] at w1 w2;rw[g] at w2
 have e:((o.ar.toNat:Nat):Int)=o.ar:=by have:=w1.1;omega
 have c:=h.2.2.log o.ar.toNat (by have:=w2.2;unfold ln at this;show o.ar.toNat<logs.length;have:=w2.1;omega);rw[show (lpO logs o).logs.getD o.ar.toNat 0=ele logs ((o.ar.toNat:Nat):Int) from rfl,e] at c;have d:=b.row o.ar.toNat (by have:=w1.2;unfold ln at this;have:=w1.1;omega);rw[show M.getD o.ar.toNat []=ele M ((o.ar.toNat:Nat):Int) from rfl,show (⟨logs,[],[]⟩:Lp).logs.getD o.ar.toNat 0=ele logs ((o.ar.toNat:Nat):Int) from rfl,e] at d;obtain⟨L,a⟩:=Ik c.1;rw[a,I9] at d;have m:=Axw (show L≤5 from Aa);exact⟨w1,w2,j,L,Aa,a,Aa⟩
theorem Aye (h:Vo t k o logs) {M:List (List Int)} (d:MemG logs M) (e:Lr logs.length (G5 o)) (u:Int) (f:Tgt) (p s:Int) (ops:List Opr) (r:List Int) (N:Int) (q:List Due) :
  Es f p s ops r M N q o u=some (o.ar,idx o.sp o.pl u (ele logs o.ar)):=by
 obtain⟨w1,w2,g,L,b,c,a⟩:=A15 h d e u;unfold Es;rw[Ax w1,show ln (ele M o.ar)=((2 ^ L:Nat):Int) from by unfold ln;rw[a],A49 b,bd_ret,Ay Aa Aa,show (L:Int)+1 - 1=L from Aa,Yy,bd_ret,←c,Ax (by rw[show ((2 ^ L:Nat):Int)=ln (ele M o.ar) from by unfold ln;rw[a]];exact g)]
theorem A17 (h:Vo t k o logs) (b:InR o.n) {r:List Int}{M:List (List Int)} (c:RegsG t r) (a:MemG logs M) {pa:Int} (d:0≤pa∧pa≤300000) (hs:o.stage≤1001∧0≤o.stage):InR (A1n t logs r M pa o):=by
 unfold A1n;split
 ·exact b
 split
 ·constructor <;> omega
 split
 ·exact U4 a.rng _ _
 split
 ·exact Arq c _ _
 ·exact At6 _ _ _
theorem A6d {r:List Int} (b:RegsG t r) {pa:Int}{W:List (List Int)} (a:MemG logs W):MemG logs (putO t logs r pa W o):=a.updG _ _ _ (Arq b _ _)
theorem st_ok {r:List Int} (b:RegsG t r) {pa:Int}{W:List (List Int)} (a:MemG logs W):MemG logs (stO t logs r pa W o):=by
 unfold stO;split
 ·exact A6d b a
 ·exact a
theorem Aue {r:List Int} (a:RegsG t r) {pa:Int}:∀ (L:List Opr) {W:List (List Int)},MemG logs W→MemG logs (L.foldl (stO t logs r pa) W)
 | [],_,h=>h
 | o::L,_,h=>Aue a L (st_ok a h)
theorem Al9 {r:List Int}{pa:Int} (f:Opr→Bool):∀ (L:List Opr) (W:List (List Int)),(L.filter f).foldl (stO t logs r pa) W=(L.filter fun o=>f o&&o.op==4).foldl (putO t logs r pa) W
 | [],_=>rfl
 | o::L,W=>by
  by_cases h:f o=true
  ·by_cases a:o.op=4
   ·rw[Age h,Age (by simp[h,a]),Adk,Adk,Al9 f L]
    unfold stO;rw[Bj a]
   ·rw[Age h,Adq (by simp[a]),Adk,Al9 f L]
    unfold stO;rw[Bg a]
  ·rw[Adq h,Adq (by simp[h]),Al9 f L]
end
theorem Ayc {n b:Nat} (h:n≤10000000) (a:b≤32):AL n b:=⟨by rw[Ev];omega,Nl (Nat.mul_le_mul h a) Aa⟩
section
variable {t : Tgt} {k : Krn} {logs : List Int}
theorem Ayx (a:KMayP t k logs) {i:Nat} (hi:i<k.ops.length):Vo t k (ele k.ops (i:Int)) logs∧0≤(ele k.ops (i:Int)).stage∧(ele k.ops (i:Int)).stage≤1001∧1≤t.regs∧t.regs≤128:=by
 have h:=a.one i hi;have hs:=a.stages;have d:=F0.1 a.tgt;obtain⟨⟨_,_,b,c,_⟩,_⟩:=h;refine⟨a.one i hi,b,Aa,?_,?_⟩ <;> omega
def stV (t:Tgt) (r:List Int) (pa:Int) (o:Opr):Opr×Int×Int:=(o,pa - o.stage,rgO t r o.a pa)
theorem Axv (a:KMayP t k logs) (p s N x:Int) {pa:Int} (b:0≤pa∧pa≤300000) (d:0≤x∧x<t.regs):C0 t p s N x pa=some ((x+pa) % t.regs):=by
 have c:=F0.1 a.tgt;unfold C0;rw[Ay Aa Aa,Ax Aa,Ajm Aa]
theorem A0s (f:KMayP t k logs) {N now pa sl:Int} (T:0≤now∧now≤300000) (F:pa * k.pace+sl=now) (q:0≤pa∧pa≤300000) {r:List Int} (G:RegsG t r) {M:List (List Int)} (B:MemG logs M) {Q Z:List Due} (K:Q.length≤1000000) {V:List (Opr×Int×Int)} (P:V.length≤1000) {i:Nat} (hi:i<k.ops.length) :
  C5 t k.pace k.stages k.ops M N pa sl (r,Z) (Q,V,(i:Int))=some (.next (if Ai6 N pa sl (ele k.ops (i:Int))=true then Q++[A1z t logs r M now pa (ele k.ops (i:Int))] else Q,if (Ai6 N pa sl (ele k.ops (i:Int))&&(ele k.ops (i:Int)).op==4)=true then V++[stV t r pa (ele k.ops (i:Int))] else V,(i:Int)+1)):=by
 obtain⟨p,X,Y,L,O⟩:=Ayx f hi;have S:=f.n;have U:=f.pace;have W:=G.len;unfold C5;simp only;rw[Ck (by unfold ln;omega),A8 Aa (by unfold ln;omega),F];generalize ele k.ops (i:Int)=o at *;obtain⟨_,⟨v,w,x,y,z,A,I,J⟩,_⟩:=id p;rw[Ay Aa Aa];by_cases e:Ai6 N pa sl o=true
 ·have l:(((o.slot != sl) || (Ap (pa - o.stage<0))) || (Ap (pa - o.stage≥N)))=Az:=by unfold Ai6 at e;simpa using e
  have a0:0≤pa - o.stage:=by
   rw[Th,Th,Hs] at l;omega
  have s:∀ a:Int,0≤(a+pa) % t.regs∧(a+pa) % t.regs<t.regs:=fun a=>⟨Ro _ Aa,Rq _ Aa⟩;have C:=s o.a;have E:=s o.b;have c:0≤Kn o.op∧Kn o.op<3:=Kw _;have a1:=Ur t o.op
  have H:Cv t.w0 t.w1 t.w2 (Kn o.op)=Fb t o.op:=by unfold Fb;rw[Bj f.tgt]
  have g:∀ d:Due,AL (Q++[d]).length 24:=fun d=>Ayc (by rw[Ca,Lv];omega) Aa;rw[l,br_false,e,Rl,Bj rfl,Axv f _ _ _ _ q ⟨x,y⟩,bd_ret,A8 C.1 (by unfold ln;omega),Axv f _ _ _ _ q ⟨z,A⟩,bd_ret,A8 E.1 (by unfold ln;omega)];simp only[Pb,bd_some',Axv f _ _ _ _ q ⟨v,w⟩,H];unfold A1z A1n stV ixO rgO;rcases At5 p with h | h | ⟨h,u⟩ | ⟨h,u⟩ | h
  ·rw[show (o.op==1)=true from by simpa using h,br_true,A8 c.1 c.2,Ay Aa Aa,Ax (g _),Ay Aa Aa,Bj h,Bg (by simp;omega)]
  ·rw[show (o.op==1)=Az from by rw[h];rfl,br_false,show (o.op==2)=true from by simpa using h,br_true,A8 c.1 c.2,Ay Aa Aa,Ax (g _),Ay Aa Aa,Bg Aa,Bj h,Bg (by simp;omega)]
  ·rw[show (o.op==1)=Az from by rw[h];rfl,br_false,show (o.op==2)=Az from by rw[h];rfl,br_false,show (o.op==3)=true from by simpa using h,br_true,Aye p B u,bd_ret,A8 c.1 c.2,Ay Aa Aa,Ax (g _),Ay Aa Aa,Bg Aa,Bg Aa,Bj h,Bg (by simp;omega)]
  ·rw[show (o.op==1)=Az from by rw[h];rfl,br_false,show (o.op==2)=Az from by rw[h];rfl,br_false,show (o.op==3)=Az from by rw[h];rfl,br_false,show (o.op==4)=true from by simpa using h,br_true,Ax (Ayc (by rw[Ca,Lv];omega) Aa),A8 c.1 c.2,Ay Aa Aa,Ax (g _),Ay Aa Aa,Bg Aa,Bg Aa,Bg Aa,Bj h,Bj rfl]
  ·have m:∀ j:Int,j≤4→(o.op==j)=Az:=fun j R=>by rw[Xr];omega
   rw[m 1 Aa,br_false,m 2 Aa,br_false,m 3 Aa,br_false,m 4 Aa,br_false,Ay Aa Aa,Ao9,bd_ret,A8 c.1 c.2,Ay Aa Aa,Ax (g _),Ay Aa Aa,Bg Aa,Bg Aa,Bg Aa,Bg Aa,Bg Bf]
 ·have l:(((o.slot != sl) || (Ap (pa - o.stage<0))) || (Ap (pa - o.stage≥N)))=true:=by unfold Ai6 at e;rwa [Bool.not_eq_true,Aq8] at e
  rw[l,br_true,Ay Aa Aa,Bg e,Bg (by simp[e])]
def Xm (t:Tgt) (k:Krn) (logs r:List Int) (M:List (List Int)) (N now pa sl:Int) (n:Nat):List Due:=((k.ops.take n).filter (Ai6 N pa sl)).map (A1z t logs r M now pa)
def Avb (t:Tgt) (k:Krn) (logs r:List Int) (N pa sl:Int) (n:Nat) (M:List (List Int)):List (List Int):=((k.ops.take n).filter (Ai6 N pa sl)).foldl (stO t logs r pa) M
theorem Apb (t:Tgt) (k:Krn) (logs r:List Int) (M:List (List Int)) (N now pa sl:Int) (n:Nat):(Xm t k logs r M N now pa sl n).length≤n:=by
 unfold Xm;rw[Gl];exact Nl (Arc _ _) (by rw[I8];omega)
theorem Awe {r:List Int}{M:List (List Int)}{N now pa sl:Int}{i:Nat} (hi:i<k.ops.length):Xm t k logs r M N now pa sl (i+1)=if Ai6 N pa sl (ele k.ops (i:Int))=true then Xm t k logs r M N now pa sl i++[A1z t logs r M now pa (ele k.ops (i:Int))] else Xm t k logs r M N now pa sl i:=by
 unfold Xm;rw[Kg hi,Aq6,Q0];split
 ·rename_i h;rw[Age h];rfl
 ·rename_i h;rw[Adq h];simp
def Zt (t:Tgt) (k:Krn) (r:List Int) (N pa sl:Int) (n:Nat):List (Opr×Int×Int):=((k.ops.take n).filter fun o=>Ai6 N pa sl o&&o.op==4).map (stV t r pa)
theorem Aos (t:Tgt) (k:Krn) (r:List Int) (N pa sl:Int) (n:Nat):(Zt t k r N pa sl n).length≤n:=by
 unfold Zt;rw[Gl];exact Nl (Arc _ _) (by rw[I8];omega)
theorem A6j (a:KMayP t k logs) {N now pa sl:Int} (c:0≤now∧now≤300000) (e:pa * k.pace+sl=now) (d:0≤pa∧pa≤300000) {r:List Int} (g:RegsG t r) {M:List (List Int)} (b:MemG logs M) {Q Z:List Due} (l:Q.length≤100000) :
  lp (C5 t k.pace k.stages k.ops M N pa sl (r,Z)) (Q,[],0)=some (.go (Q++Xm t k logs r M N now pa sl k.ops.length,Zt t k r N pa sl k.ops.length,(k.ops.length:Int))):=by
 have m:=a.n
 have X:=G8 (f:=C5 t k.pace k.stages k.ops M N pa sl (r,Z)) (ρ:=Empty) (fun i=>(Q++Xm t k logs r M N now pa sl i,Zt t k r N pa sl i,(i:Int))) k.ops.length (fun i hi=>by
  have o:=Apb t k logs r M N now pa sl i;have p:=Aos t k r N pa sl i;rw[A0s a c e d g b (by rw[Ca];omega) Aa hi,Awe hi]
  have j:Zt t k r N pa sl (i+1)=if (Ai6 N pa sl (ele k.ops (i:Int))&&(ele k.ops (i:Int)).op==4)=true then Zt t k r N pa sl i++[stV t r pa (ele k.ops (i:Int))] else Zt t k r N pa sl i:=by
   unfold Zt;rw[Kg hi,Aq6,Q0];split
   ·rename_i h;rw[List.filter_cons,Bj h];rfl
   ·rename_i h;rw[List.filter_cons,Bg h];simp
  rw[j];congr 3;split
  ·rw[G6]
  ·rfl) (by unfold C5;exact Cn (by unfold ln;omega))
 rw[show Xm t k logs r M N now pa sl 0=[] from rfl,N2] at X;exact X
end
section
variable {t : Tgt} {k : Krn} {logs : List Int}
def putV (logs:List Int) (W:List (List Int)) (v:Opr×Int×Int):List (List Int):=updG W v.1.ar (idx v.1.sp v.1.pl v.2.1 (ele logs v.1.ar)) v.2.2
theorem Akp:∀ (L:List (Opr×Int×Int)) {W:List (List Int)},(∀ v∈L,InR v.2.2)→MemG logs W→MemG logs (L.foldl (putV logs) W)
 | [],_,_,h=>h
 | v::L,_,hv,h=>Akp L (fun u a=>hv u (Z3 _ a)) (h.updG _ _ _ (hv v (Aav ..)))
theorem A16 (g:KMayP t k logs) {r:List Int} (q:RegsG t r) {N pa sl:Int}{M:List (List Int)} (p:MemG logs M) {Q Z:List Due} :
  lp (Ee t k.pace k.stages k.ops N (r,Z) Q (Zt t k r N pa sl k.ops.length)) (M,0)=some (.go (Avb t k logs r N pa sl k.ops.length M,((Zt t k r N pa sl k.ops.length).length:Int))):=by
 have x:=g.n;have y:=Aos t k r N pa sl k.ops.length
 have l:∀ v∈Zt t k r N pa sl k.ops.length,∃ i:Nat,i<k.ops.length∧v=stV t r pa (ele k.ops (i:Int))∧(ele k.ops (i:Int)).op=4:=fun v a=>by
  unfold Zt at a;obtain⟨o,b,rfl⟩:=I7.1 a;obtain⟨m,c⟩:=Ul.1 b;obtain⟨i,hi,e⟩:=Qv (Z2 m);exact⟨i,hi,by rw[e],by rw[e];simp at c;exact c.2⟩
 have s:∀ v∈Zt t k r N pa sl k.ops.length,InR v.2.2:=fun v a=>by
  obtain⟨i,_,rfl,_⟩:=l v a;exact Arq q _ _
 have e:Avb t k logs r N pa sl k.ops.length M=(Zt t k r N pa sl k.ops.length).foldl (putV logs) M:=by
  unfold Avb Zt;rw[Al9,List.foldl_map];rfl
 rw[e];generalize hV:Zt t k r N pa sl k.ops.length=V at *
 have X:=G8 (f:=Ee t k.pace k.stages k.ops N (r,Z) Q V) (ρ:=Empty) (fun j=>((V.take j).foldl (putV logs) M,(j:Int))) V.length (fun j d=>by
  obtain⟨i,hi,ev,w⟩:=l _ (D9 d);have b:=g.one i hi
  have u:Lr logs.length (G5 (ele k.ops (i:Int))):=by rcases At5 b with h | h | h | h | h <;> first | exact h.2 | omega
  unfold Ee Gp;simp only;rw[Ck (by unfold ln;omega),A8 Aa (by unfold ln;omega),Kg d,Aau];rw[ev];show (bd (bd (Es t k.pace k.stages k.ops r _ N Q (ele k.ops (i:Int)) (pa - (ele k.ops (i:Int)).stage)) _) _)=_;rw[Aye b (Akp _ (fun v a=>s v (Z2 a)) p) u,bd_ret,bd_ret,Ay Aa Aa]
  rfl) (by unfold Ee;exact Cn (by unfold ln;omega))
 rw[X3] at X;exact X
theorem cyc_k (b:KMayP t k logs) {N now pa sl:Int} (g:0≤now∧now≤300000) (c:pa * k.pace+sl=now) (h:0≤pa∧pa≤300000) (i:0≤sl∧sl≤200) {r r1:List Int}{M:List (List Int)}{D Z:List Due}
  (f:Eb t k.pace k.stages k.ops r M N D now=some (r1,Z)) (d:RegsG t r1) (a:MemG logs M) (e:Z.length≤100000) :
  Gg t k.pace k.stages k.ops r M N D pa sl=some (r1,Avb t k logs r1 N pa sl k.ops.length M,Z++Xm t k logs r1 M N now pa sl k.ops.length):=by
 unfold Gg;rw[Ay Aa Aa,c,Ay Aa Aa,f,bd_ret];show (bd (lp (C5 t k.pace k.stages k.ops M N pa sl (r1,Z)) (Z,[],0)) _)=_;rw[A6j b g c h d a e,bd_ret,Out.on_go];simp only;rw[A16 b d a,bd_ret,Out.on_go]
abbrev MSt:=List Due×List Int×List (List Int)
def r1S (c:Int) (x:MSt):List Int:=(atT c x.1).foldl Ai3 x.2.1
def Aob (t:Tgt) (k:Krn) (logs:List Int) (N c:Int) (x:MSt):MSt :=
 (Sl c x.1++Xm t k logs (r1S c x) x.2.2 N c (c / k.pace) (c % k.pace) k.ops.length,r1S c x,Avb t k logs (r1S c x) N (c / k.pace) (c % k.pace) k.ops.length x.2.2)
def Ath (c:Int) (x:MSt):MSt:=(Sl c x.1,r1S c x,x.2.2)
def stS (t:Tgt) (k:Krn) (logs:List Int) (N:Int) (x0:MSt) (last:Nat):Nat→MSt
 | 0=>x0
 | c+1=>if c<last then Aob t k logs N c (stS t k logs N x0 last c) else Ath c (stS t k logs N x0 last c)
structure InvS (t:Tgt) (logs:List Int) (c:Int) (x:MSt):Prop where
 regs:RegsG t x.2.1
 mem:MemG logs x.2.2
 due:∀ d∈x.1,c≤d.due∧d.due≤c+5∧0≤d.reg∧d.reg<t.regs∧InR d.v
 cnt:∀ j:Nat,j≤6→x.1.countP (fun d=>Ap (c+j≤d.due))≤16 * (6 - j)
theorem InvS.len {c:Int}{x:MSt} (h:InvS t logs c x):x.1.length≤96:=by
 have:=h.cnt 0 Aa;rw[List.countP_eq_length.2 fun d a=>by have:=(h.due d a).1;simpa using this] at this;omega
theorem InvS.r1 {c:Int}{x:MSt} (h:InvS t logs c x):RegsG t (r1S c x):=by
 refine⟨by unfold r1S;rw[Aht];exact h.regs.len,Ao5 _ _ (fun d a=>(h.due d (Ani a).1).2.2.2.2) h.regs.rng⟩
theorem InvS.tail {c:Int}{x:MSt} (h:InvS t logs c x):InvS t logs (c+1) (Ath c x):=by
 have e:∀ d∈Sl c x.1,d∈x.1∧d.due≠c:=fun d a=>by
  have:=Ul.1 a;exact⟨this.1,by simpa using this.2⟩
 refine⟨h.r1,h.mem,fun d a=>?_,fun j n=>?_⟩
 ·obtain⟨b,m⟩:=e d a
  obtain⟨o,p,g,i,l⟩:=h.due d b;exact⟨Aa,Aa,g,i,l⟩
 ·show (Sl c x.1).countP _≤_
  by_cases f:j=6
  ·subst f
   rw[Arb.2 fun d a=>by have:=h.due d (e d a).1;simp;omega];omega
  ·have b:=h.cnt (j+1) Aa
   refine Nl (Nl ((List.filter_sublist ..).countP_le) ?_) (Nl b Aa);refine List.countP_mono_left fun d _ a=>?_;simp at a ⊢;omega
theorem A2q (a:KMayP t k logs) (l:∀ i:Nat,i<k.ops.length→InR (ele k.ops (i:Int)).n) {r:List Int}{M:List (List Int)} (q:RegsG t r) (j:MemG logs M) {N now pa sl:Int} (p:0≤pa∧pa≤300000) :
  ∀ d∈Xm t k logs r M N now pa sl k.ops.length,now+1≤d.due∧d.due≤now+6∧0≤d.reg∧d.reg<t.regs∧InR d.v:=fun d g=>by
 unfold Xm at g;obtain⟨o,m,rfl⟩:=I7.1 g;obtain⟨i,hi,e⟩:=Qv (Z2 (Ul.1 m).1);obtain⟨b,c,f,s,u⟩:=Ayx a hi;have h:=l i hi;rw[e] at b c f h
 have y:1≤Fb t o.op∧Fb t o.op≤6:=by
  have x:=F0.1 a.tgt;have w:=Kw o.op;unfold Fb;rw[Bj a.tgt];unfold Cv;split <;> (try split) <;> omega
 refine⟨by show now+1≤now+_;omega,by show now+_≤now+6;omega,Ro _ Aa,Rq _ Aa,A17 b h q j p ⟨f,c⟩⟩
theorem InvS.step (f:KMayP t k logs) (q:∀ i:Nat,i<k.ops.length→InR (ele k.ops (i:Int)).n) {N c:Int} (z:0≤c∧c≤300000) {x:MSt} (h:InvS t logs c x):InvS t logs (c+1) (Aob t k logs N c x):=by
 have F:=f.pace;have B:=f.n;have r:=Agy (show 0≤c from Aa) (show 0≤k.pace from Aa);have G:=Ag1 (b:=k.pace) (show 0≤c from Aa);have m:=A2q (N:=N) (now:=c) (sl:=c % k.pace) f q h.r1 h.mem (pa:=c / k.pace) ⟨r,Aa⟩;have g:=h.tail;refine⟨g.regs,Aue h.r1 _ h.mem,fun d a=>?_,fun j A=>?_⟩
 ·rcases F8.1 a with a | a
  ·exact g.due d a
  ·obtain⟨H,I,s,u,v⟩:=m d a
   exact⟨Aa,Aa,s,u,v⟩
 ·show (Sl c x.1++Xm t k logs (r1S c x) x.2.2 N c (c / k.pace) (c % k.pace) k.ops.length).countP _≤_
  rw[Alv];have E:=Apb t k logs (r1S c x) x.2.2 N c (c / k.pace) (c % k.pace) k.ops.length;by_cases o:j=6
  ·subst o
   have e:=g.cnt 6 Aa;rw[show (Ath c x).1=Sl c x.1 from rfl] at e;rw[Arb (l:=Xm ..).2 fun d a=>by have:=m d a;simp;omega];omega
  ·have C:∀ d∈Sl c x.1,d∈x.1∧d.due≠c:=fun d a=>by
    have:=Ul.1 a;exact⟨this.1,by simpa using this.2⟩
   have e:=h.cnt (j+1) Aa
   have w:(Sl c x.1).countP (fun d=>Ap (c+1+(j:Int)≤d.due))≤16 * (6 - (j+1)):=by
    refine Nl (Nl ((List.filter_sublist ..).countP_le) ?_) e;refine List.countP_mono_left fun d _ a=>?_;simp at a ⊢;omega
   have y:=List.countP_le_length (p:=fun d:Due=>Ap (c+1+(j:Int)≤d.due)) (l:=Xm t k logs (r1S c x) x.2.2 N c (c / k.pace) (c % k.pace) k.ops.length);omega
theorem A24 {c:Int} (m:0≤c∧c≤300000) {x:MSt} (h:InvS t logs c x) {D:List Due} (e:Stb D x.1) (p s:Int) (ops:List Opr) (M:List (List Int)) (N:Int) :
  ∃ Z,Eb t p s ops x.2.1 M N D c=some (r1S c x,Z)∧Stb Z (Sl c x.1):=by
 have n:=h.len;have f:∀ d∈D,c≤d.due∧d.due≤c+5∧0≤d.reg∧d.reg<t.regs∧InR d.v:=fun d a=>h.due d (e.mem.1 a);obtain⟨S,i,j,b⟩:=Acw (D:=D) (fun d a=>by have:=f d a;exact⟨Aa,Aa⟩) (by rw[e.1];omega);obtain⟨Z,g,z2,z3⟩:=Ad3 (c:=c) j fun d a=>(f d (b.mem.2 a)).1
 have hat:atT c S=atT c x.1:=by rw[←b.2 c,e.2 c]
 refine⟨Z,?_,?_⟩
 ·rw[Ayz (A:=atT c S) (Z:=Z) i g (fun d a=>by
   obtain⟨l,o⟩:=Ani a;have:=f d (b.mem.2 l);have:=h.regs.len
   omega) (fun d a=>by have:=z3 d a;omega) (by rw[←b.1,e.1];omega),hat]
  rfl
 ·exact(Ao0 (b.symm.trans e).symm g z3)
end
noncomputable def Lk (o:Opr):Option (Stm) :=
 some (Stm.mk o.op (Rf.mk 0 0) (Rf.mk 0 0) o.ar o.sp o.pl o.n)
noncomputable def G2 (a:Krn) (o:Opr):Option (Int) :=
 ck (IR (o.stage * a.pace)) <|
 ck (IR ((o.stage * a.pace)+o.slot)) <|
 some ((o.stage * a.pace)+o.slot)
noncomputable def Mq (a b n:Int) (t:Tgt):Option (Bool) :=
 some ((a==0) || (((Ap (n>b))&&(Ap (a>0)))&&(Ap (a<t.regs))))
noncomputable def Q5 (t:Tgt) (c:Krn) (o:Opr) (logs:List Int):Option (Bool) :=
 bd (Lk o) fun d =>
 bd (Fh d) fun g =>
 bd (show Option (Out (Int×Int×Int×Int) (Empty)) from br (Ap ((ln g)>0)) (
 some (.go (0,0,0,0))) (
 some (.go (d.a.st,d.a.bk,d.b.st,d.b.bk)))) fun m=>m.on (fun (i,j,k,l) =>
 bdG ((((Ap (o.slot≥0))&&(Ap (o.slot<c.pace)))&&(Ap (o.stage≥0)))&&(Ap (o.stage<c.stages))) (G2 c o) fun e =>
 bdG (((((Ap (o.slot≥0))&&(Ap (o.slot<c.pace)))&&(Ap (o.stage≥0)))&&(Ap (o.stage<c.stages)))&&(Ap (e≤1000))) (Is (Lp.mk logs [(Stm.mk 1 (Rf.mk 0 0) (Rf.mk 0 0) 0 0 0 0),(Stm.mk d.op (Rf.mk i j) (Rf.mk k l) d.ar d.sp d.pl d.n)] [])) fun f =>
 bdG ((((((((Ap (o.slot≥0))&&(Ap (o.slot<c.pace)))&&(Ap (o.stage≥0)))&&(Ap (o.stage<c.stages)))&&(Ap (e≤1000)))&&f)&&(Ap (o.dest≥0)))&&(Ap (o.dest<t.regs))) (Mq o.a 0 (ln g) t) fun h =>
 bdG (((((((((Ap (o.slot≥0))&&(Ap (o.slot<c.pace)))&&(Ap (o.stage≥0)))&&(Ap (o.stage<c.stages)))&&(Ap (e≤1000)))&&f)&&(Ap (o.dest≥0)))&&(Ap (o.dest<t.regs)))&&h) (Mq o.b 1 (ln g) t) fun p =>
 some ((((((((((Ap (o.slot≥0))&&(Ap (o.slot<c.pace)))&&(Ap (o.stage≥0)))&&(Ap (o.stage<c.stages)))&&(Ap (e≤1000)))&&f)&&(Ap (o.dest≥0)))&&(Ap (o.dest<t.regs)))&&h)&&p)) (fun r=>r.elim)
noncomputable def Ll (t:Tgt) (b:Krn) (logs:List Int):((List ((Int×Int)×Int))×Int)→Option (Stp ((List ((Int×Int)×Int))×Int) (Bool)):=fun (d,a) =>
 br (Ap (a<(ln b.ops))) (
 ck (IX a (ln b.ops)) <|
 bd (Q5 t b (ele b.ops a) logs) fun e =>
 br (!e) (
 some (.ret Az)) (
 bd (Fg ((ele b.ops a).op)) fun c =>
 ck (IR ((Fz d ((ele b.ops a).slot,c) 0)+1)) <|
 ck (IX c 3) <|
 br (Ap ((Fz (Oi d ((ele b.ops a).slot,c) ((Fz d ((ele b.ops a).slot,c) 0)+1)) ((ele b.ops a).slot,c) 0)>(Cv t.u0 t.u1 t.u2 c))) (
 some (.ret Az)) (
 ck (IR (a+1)) <|
 some (.next ((Oi d ((ele b.ops a).slot,c) ((Fz d ((ele b.ops a).slot,c) 0)+1)),(a+1)))))) (
 some (.brk (d,a)))
noncomputable def K2 (t:Tgt) (a:Krn) (logs:List Int):Option (Bool) :=
 bd (Gy t) fun c =>
 br (((((((!c) || (Ap (a.pace<1))) || (Ap (a.pace>200))) || (Ap (a.stages<1))) || (Ap (a.stages>1001))) || (Ap ((ln a.ops)<1))) || (Ap ((ln a.ops)>16))) (
 some Az) (
 bd (lp (Ll t a logs) (([]:List ((Int×Int)×Int)),0)) fun b=>b.on (fun (d,e) =>
 some true) (fun r=>some r))
def lpC (logs:List Int) (o:Opr):Lp:=⟨logs,[⟨1,⟨0,0⟩,⟨0,0⟩,0,0,0,0⟩,G5 o],[]⟩
theorem A2v {logs:List Int}{o:Opr}:LoopOk (lpC logs o)↔LoopOk (lpO logs o):=by
 have b:Rf.isZero ⟨0,0⟩:=⟨rfl,rfl⟩
 have key:∀ s c:Stm,(V9 logs.length 2 0 c)→LoopOk ⟨logs,[s,G5 o],[]⟩→LoopOk ⟨logs,[c,G5 o],[]⟩:=fun s c hs h=>by
  refine⟨h.1,h.2.1,h.2.2.1,h.2.2.2.1,h.2.2.2.2.1,fun j e=>?_⟩
  have d:j=0∨j=1:=by
   have:(Lp.mk logs [c,G5 o] []).body.length=2:=rfl;omega
  rcases d with rfl | rfl
  ·exact hs
  ·exact h.2.2.2.2.2 1 (by show (1:Int)<2;omega)
 refine⟨fun h=>key _ _ ?_ h,fun h=>key _ _ ?_ h⟩
 ·refine⟨fun a=>?_,fun a=>absurd a Ah,.inr (.inl ⟨rfl,rfl,⟨rfl,rfl,rfl⟩,b,b⟩)⟩
  rcases a with a | a <;> exact absurd a Ah
 ·refine⟨fun a=>?_,fun a=>absurd a Ah,.inl ⟨rfl,⟨rfl,rfl,rfl⟩,b,b⟩⟩
  rcases a with a | a <;> exact absurd a Ah
theorem A18 (o:Opr):((Bm (G5 o)).length:Int)=Sk o.op:=by
 unfold Bm Sk;rw[show (G5 o).op=o.op from rfl];by_cases h:o.op=4
 ·rw[Bj h,Bj h];rfl
 ·by_cases a:o.op>10
  ·rw[Bg h,Bj a,Bg h,Bj a];rfl
  ·rw[Bg h,Bg a,Bg h,Bg a];rfl
theorem A0l {logs:List Int}{o:Opr} (h:(lpO logs o).Fine):(lpC logs o).Fine:=by
 have a:InR 0:=by unfold InR;omega
 have c:InR 1:=by unfold InR;omega
 refine⟨h.rlogs,fun u b=>?_,h.routs,h.llogs,h.lbody,h.louts⟩;rcases Gw.1 b with rfl | b
 ·exact⟨c,a,a,a,a,a,a,a,a⟩
 ·exact h.rbody u (by rw[G7] at b;subst b;show G5 o∈[Atg,G5 o];simp)
theorem kop_s {t:Tgt} (F:Df t=true) {k:Krn}{o:Opr}{logs:List Int} (J:1≤k.pace∧k.pace≤200) (hs:1≤k.stages∧k.stages≤1001) (y:(lpO logs o).Fine):Q5 t k o logs=some (tb (Vo t k o logs)):=by
 rw[F0] at F;have E:Lk o=some (G5 o):=rfl;have H:Fh (G5 o)=some (Bm (G5 o)):=Aa9 _;have q:=A18 o
 have z:Is (lpC logs o)=some (tb (LoopOk (lpO logs o))):=by
  rw[Agr _ (A0l y)];congr 1;exact Ht A2v
 unfold Q5;rw[E,bd_ret,H,bd_ret]
 have C:(show Option (Out (Int×Int×Int×Int) (Empty)) from br (Ap ((ln (Bm (G5 o)))>0)) (some (.go (0,0,0,0))) (some (.go ((G5 o).a.st,(G5 o).a.bk,(G5 o).b.st,(G5 o).b.bk))))=some (.go (0,0,0,0)):=by
  by_cases c:ln (Bm (G5 o))>0
  ·rw[Ls c];rfl
  ·rw[W7 c];rfl
 rw[C,bd_ret,Out.on_go];simp only;rw[show (Lp.mk logs [(Stm.mk 1 (Rf.mk 0 0) (Rf.mk 0 0) 0 0 0 0),(Stm.mk (G5 o).op (Rf.mk 0 0) (Rf.mk 0 0) (G5 o).ar (G5 o).sp (G5 o).pl (G5 o).n)] [])=lpC logs o from rfl];by_cases e:0≤o.slot∧o.slot<k.pace∧0≤o.stage∧o.stage<k.stages
 ·have K:=Sr (a:=o.stage) (A:=1001) (b:=k.pace) (B:=200) Aa Aa Aa Aa
  have G:G2 k o=some (o.stage * k.pace+o.slot):=by
   unfold G2;rw[Ay Aa Aa,Ay Aa Aa]
  have m:((((Ap (o.slot≥0))&&(Ap (o.slot<k.pace)))&&(Ap (o.stage≥0)))&&(Ap (o.stage<k.stages)))=true:=by
   simp only[Fa,Ij];omega
  rw[m,G,bdG_t,bd_ret,Rl];by_cases g:o.stage * k.pace+o.slot≤1000
  ·rw[Ls g,bdG_t,z,bd_ret,Rl]
   by_cases h:LoopOk (lpO logs o)
   ·rw[Dz h,Rl]
    by_cases j:0≤o.dest∧o.dest<t.regs
    ·rw[show (Ap (o.dest≥0)&&Ap (o.dest<t.regs))=true from by simp only[Fa,Ij];omega,bdG_t]
     unfold Mq;rw[bd_ret,O4,Rl];have v:((o.a==0) || (((Ap (ln (Bm (G5 o))>0))&&(Ap (o.a>0)))&&(Ap (o.a<t.regs))))=tb (o.a=0∨(0<Sk o.op∧0<o.a∧o.a<t.regs)):=L6 (by unfold ln;rw[q];simp[Vp]);have w:((o.b==0) || (((Ap (ln (Bm (G5 o))>1))&&(Ap (o.b>0)))&&(Ap (o.b<t.regs))))=tb (o.b=0∨(1<Sk o.op∧0<o.b∧o.b<t.regs)):=L6 (by unfold ln;rw[q];simp[Vp]);rw[v,w]
     have l:Ar0 t o↔(o.a=0∨(0<Sk o.op∧0<o.a∧o.a<t.regs))∧(o.b=0∨(1<Sk o.op∧0<o.b∧o.b<t.regs)):=by
      unfold Ar0;constructor
      ·rintro⟨I,a2,a3,a4,a5,r,s,u⟩
       refine⟨?_,?_⟩
       ·by_cases c:o.a=0
        ·exact .inl c
        ·exact .inr ⟨by have:¬Sk o.op<1:=fun d=>c (s d);omega,Aa,a4⟩
       ·by_cases c:o.b=0
        ·exact .inl c
        ·exact .inr ⟨by have:¬Sk o.op<2:=fun d=>c (u d);omega,Aa,r⟩
      ·rintro⟨b1,b2⟩
       refine⟨j.1,j.2,?_,?_,?_,?_,fun d=>?_,fun d=>?_⟩
       all_goals first | omega | (rcases b1 with b1 | b1 <;> rcases b2 with b2 | b2 <;> omega)
     by_cases f:(o.a=0∨(0<Sk o.op∧0<o.a∧o.a<t.regs))
     ·by_cases i:(o.b=0∨(1<Sk o.op∧0<o.b∧o.b<t.regs))
      ·rw[Dz f,Dz i,Dz (p:=Vo t k o logs) ⟨⟨e.1,e.2.1,e.2.2.1,e.2.2.2,g⟩,l.2 ⟨f,i⟩,h⟩];rfl
      ·rw[Dz f,C3 i,C3 fun d:Vo t k o logs=>i (l.1 d.2.1).2];rfl
     ·rw[C3 f,C3 fun d:Vo t k o logs=>f (l.1 d.2.1).1];rfl
    ·have x:(Ap (o.dest≥0)&&Ap (o.dest<t.regs))=Az:=by
      rw[Z4,Hs,Hs];omega
     rw[x,C3 fun d:Vo t k o logs=>j ⟨d.2.1.1,d.2.1.2.1⟩];rfl
   ·rw[C3 h,C3 fun d:Vo t k o logs=>h d.2.2];rfl
  ·rw[W7 g,C3 fun d:Vo t k o logs=>g d.1.2.2.2.2];rfl
 ·have m:((((Ap (o.slot≥0))&&(Ap (o.slot<k.pace)))&&(Ap (o.stage≥0)))&&(Ap (o.stage<k.stages)))=Az:=by
   cases d:((((Ap (o.slot≥0))&&(Ap (o.slot<k.pace)))&&(Ap (o.stage≥0)))&&(Ap (o.stage<k.stages))) with
   | false=>rfl
   | true =>
    simp only[Fa,Ij] at d;exact absurd ⟨d.1.1.1,d.1.1.2,d.1.2,d.2⟩ e
  rw[m,C3 fun d:Vo t k o logs=>e ⟨d.1.1,d.1.2.1,d.1.2.2.1,d.1.2.2.2.1⟩];rfl
theorem Apx {t : Tgt} (b : Df t = true) {k : Krn} {n : Nat} : (∀ i, i < n → (Zw k (i + 1) (Qy k i) : Int) ≤ F6 t (Qy k i).2) ↔ (∀ i, i < n → (Zw k n (Qy k i) : Int) ≤ F6 t (Qy k i).2) := by
  have mono : ∀ (κ : Int × Int) i j, i ≤ j → Zw k i κ ≤ Zw k j κ := fun κ i j h => by
    induction j with
    | zero => have : i = 0 := by omega
              subst this; exact Co _
    | succ j a =>
      by_cases e : i = j + 1
      · subst e; exact Co _
      · rw[Vd]; have := a Aa; omega
  constructor
  · intro h
    have key : ∀ m, m ≤ n → ∀ κ, (Zw k m κ : Int) ≤ F6 t κ.2 := by
      intro m
      induction m with
      | zero => intro _ κ; have := (Ut b κ.2).1; show ((0 : Nat) : Int) ≤ _; omega
      | succ m a =>
        intro c κ;by_cases e : Qy k m = κ
        · have := h m Aa; rw[e] at this; exact this
        · rw[Vd, Bg e]; exact a Aa κ
    exact fun i _ => key n (Co _) _
  · intro h i hi
    have := h i hi;have := mono (Qy k i) (i + 1) n hi;omega
theorem Ayp {t:Tgt}{k:Krn}{logs:List Int} (y:∀ i:Nat,i<k.ops.length→(lpO logs (ele k.ops (i:Int))).Fine):K2 t k logs=some (tb (KMayP t k logs)):=by
 unfold K2;rw[Jr,bd_ret];by_cases h:Df t=true∧(1≤k.pace∧k.pace≤200)∧(1≤k.stages∧k.stages≤1001)∧(1≤k.ops.length∧k.ops.length≤16)
 ·obtain⟨b,q,r,x⟩:=h
  rw[show (((((((!Df t) || (Ap (k.pace<1))) || (Ap (k.pace>200))) || (Ap (k.stages<1))) || (Ap (k.stages>1001))) || (Ap ((ln k.ops)<1))) || (Ap ((ln k.ops)>16)))=Az from by rw[b];unfold ln;simp;omega,br_false]
  rcases Amd (f:=Ll t k logs) (n:=k.ops.length) (r0:=Az) (fun i=>Vo t k (ele k.ops (i:Int)) logs∧(Zw k (i+1) (Qy k i):Int)≤F6 t (Qy k i).2) (fun i m=>∀ κ,Fz m κ 0=(Zw k i κ:Int)) (fun i g hi u=>by
    have j:=Kw (ele k.ops (i:Int)).op;have E:=Auq k (Qy k i) i;have a:((ele k.ops (i:Int)).slot,Kn (ele k.ops (i:Int)).op)=Qy k i:=rfl;have v:=u (Qy k i)
    have z:Fz (Oi g (Qy k i) (Fz g (Qy k i) 0+1)) (Qy k i) 0=(Zw k (i+1) (Qy k i):Int):=by rw[O2,Bj rfl,v,Vd,Bj rfl];rfl
    have A:Cv t.u0 t.u1 t.u2 (Kn (ele k.ops (i:Int)).op)=F6 t (Qy k i).2:=rfl;unfold Ll;simp only;rw[Ck (by unfold ln;omega),A8 Aa (by unfold ln;omega),kop_s b q r (y i hi),bd_ret];by_cases d:Vo t k (ele k.ops (i:Int)) logs
    ·rw[Dz d,F9,br_false,Pb,bd_ret,a,Ay Aa Aa,A8 j.1 j.2,z,A]
     by_cases s:(Zw k (i+1) (Qy k i):Int)>F6 t (Qy k i).2
     ·rw[Ck s];exact .inr ⟨fun h=>Aa,rfl⟩
     ·rw[Cn s,Ay Aa Aa]
      refine .inl ⟨⟨d,Aa⟩,_,rfl,fun κ=>?_⟩;rw[O2,Vd];by_cases c:Qy k i=κ
      ·rw[Bj c,Bj c,v,c];rfl
      ·rw[Bg c,Bg c,u];rfl
    ·rw[C3 d]
     exact .inr ⟨fun h=>d h.1,rfl⟩) (fun g=>by unfold Ll;exact Cn (by unfold ln;omega)) [] (fun κ=>rfl) with ⟨l,m,e,_⟩ | ⟨l,e⟩
  ·rw[e,bd_ret,Out.on_go,Dz (p:=KMayP t k logs) ⟨b,q,r,x,fun i hi=>(l i hi).1,(Apx b).1 fun i hi=>(l i hi).2⟩]
  ·rw[e,bd_ret,Out.on_ret,C3 fun h:KMayP t k logs=>l fun i hi=>⟨h.one i hi,(Apx b).2 h.units i hi⟩]
 ·rw[C3 fun a:KMayP t k logs=>h ⟨a.tgt,a.pace,a.stages,a.n⟩]
  have j:(((((((!Df t) || (Ap (k.pace<1))) || (Ap (k.pace>200))) || (Ap (k.stages<1))) || (Ap (k.stages>1001))) || (Ap ((ln k.ops)<1))) || (Ap ((ln k.ops)>16)))=true:=by
   cases o:(((((((!Df t) || (Ap (k.pace<1))) || (Ap (k.pace>200))) || (Ap (k.stages<1))) || (Ap (k.stages>1001))) || (Ap ((ln k.ops)<1))) || (Ap ((ln k.ops)>16))) with
   | true=>rfl
   | false =>
    unfold ln at o;simp only[Th,Aq8,Hs] at o;obtain⟨⟨⟨⟨⟨⟨w,a2⟩,a3⟩,a4⟩,a5⟩,B⟩,C⟩:=o;exact absurd ⟨w,⟨Aa,Aa⟩,⟨Aa,Aa⟩,Aa,Aa⟩ h
  rw[j];rfl
noncomputable def J7 (t:Tgt) (b:Krn) (g h:Int):((List Due)×(List (List Int))×(List Int)×Int)→Option (Stp ((List Due)×(List (List Int))×(List Int)×Int) (Empty)):=fun (f,e,d,a) =>
 br (Ap (a<b.pace)) (
 bd (Gg t b.pace b.stages b.ops d e g f h a) fun c =>
 ck (IR (a+1)) <|
 some (.next (c.2.2,c.2.1,c.1,(a+1)))) (
 some (.brk (f,e,d,a)))
noncomputable def J8 (t:Tgt) (b:Krn) (e:Int):((List Due)×(List (List Int))×(List Int)×Int)→Option (Stp ((List Due)×(List (List Int))×(List Int)×Int) (Empty)):=fun (f,d,c,a) =>
 br (Ap (a<((e+b.stages) - 1))) (
 bd (lp (J7 t b e a) (f,d,c,0)) fun g=>g.on (fun (j,i,h,k) =>
 ck (IR (a+1)) <|
 some (.next (j,i,h,(a+1)))) (fun r=>r.elim)) (
 some (.brk (f,d,c,a)))
noncomputable def Jt (t:Tgt) (a:Krn) (regs:List Int) (memory:List (List Int)) (b:Int):Option (List Int×List (List Int)×Int) :=
 bd (Lm memory) fun c =>
 bdG (!(!c.2)) (K2 t a c.1) fun k =>
 br (((!c.2) || (!k)) || ((ln regs) != t.regs)) (
 some ([],[],2)) (
 br ((Ap (b<0)) || (Ap (b>200))) (
 some ([],[],3)) (
 bd (Acg regs) fun e =>
 bd (Qk memory) fun f =>
 br (Ap (b>0)) (
 ck (IR (b+a.stages)) <|
 ck (IR ((b+a.stages) - 1)) <|
 bd (lp (J8 t a b) ([],f,e,0)) fun g=>g.on (fun (i,d,h,l) =>
 bd (Eb t a.pace a.stages a.ops h d b i 1099511627776) fun j =>
 some (j.1,d,0)) (fun r=>r.elim)) (
 some (e,f,0))))
section
variable {t : Tgt} {k : Krn} {logs : List Int}
theorem Aso (a:KMayP t k logs) {M:List (List Int)} (h:MemG logs M):M.length≤100∧∀ r∈M,r.length≤100000 :=
 (h.tO (ele k.ops ((0:Nat):Int))).small (a.one 0 (by have:=a.n;omega)).2.2
theorem Ama {N:Int}{x0:MSt}{last c:Nat} (h:c<last):stS t k logs N x0 last (c+1)=Aob t k logs N c (stS t k logs N x0 last c):=by
 rw[stS,Bj h]
theorem Ahf {N:Int}{x0:MSt}{last c:Nat} (h:¬c<last):stS t k logs N x0 last (c+1)=Ath c (stS t k logs N x0 last c):=by
 rw[stS,Bg h]
theorem Adu (b:KMayP t k logs) (d:∀ i:Nat,i<k.ops.length→InR (ele k.ops (i:Int)).n) {N:Int}{x0:MSt} (a:InvS t logs 0 x0) {last:Nat}:∀ c:Nat,c≤300000→InvS t logs c (stS t k logs N x0 last c)
 | 0,_=>a
 | c+1,hc=>by
  have e:=Adu b d (N:=N) a (last:=last) c Aa;by_cases h:c<last
  ·rw[Ama h];exact e.step b d ⟨Aa,Aa⟩
  ·rw[Ahf h];exact e.tail
theorem lastK (c:KMayP t k logs) {N:Nat} (e:N≤200) (d:1≤N):∃ P R:Nat,k.pace=P∧(N:Int)+k.stages - 1=R∧1≤P∧P≤200∧1≤R∧R≤1200∧R * P≤240000∧((N:Int)+k.stages - 1) * k.pace=(R * P:Nat):=by
 have g:=c.pace;have hs:=c.stages;obtain⟨P,a⟩:=Ik (show 0≤k.pace from Aa);obtain⟨R,b⟩:=Ik (show 0≤(N:Int)+k.stages - 1 from Aa);have f:R * P≤1200 * 200:=Nat.mul_le_mul Aa Aa;exact⟨P,R,a,b,Aa,Aa,Aa,Aa,Aa,by rw[a,b];simp⟩
structure KInv (t:Tgt) (k:Krn) (logs:List Int) (N:Int) (x0:MSt) (last c:Nat) (g:List Due×List (List Int)×List Int):Prop where
 due:Stb g.1 (stS t k logs N x0 last c).1
 mem:g.2.1=(stS t k logs N x0 last c).2.2
 regs:g.2.2=(stS t k logs N x0 last c).2.1
theorem A27 (p:KMayP t k logs) (u:∀ i:Nat,i<k.ops.length→InR (ele k.ops (i:Int)).n) {N:Nat}{x0:MSt} (s:InvS t logs 0 x0) {P R pa:Nat} (b:k.pace=P) (A:1≤P∧P≤200) (B:R≤1200) (v:pa<R) (z:R * P≤240000) {g:List Due×List (List Int)×List Int} (c:KInv t k logs N x0 (R * P) (pa * P) g) :
  ∃ g',lp (J7 t k N pa) (g.1,g.2.1,g.2.2,0)=some (.go (g'.1,g'.2.1,g'.2.2,(P:Int)))∧KInv t k logs N x0 (R * P) ((pa+1) * P) g':=by
 have x:(pa+1) * P≤R * P:=Z1 _ v;rw[Ra,Nat.one_mul] at x
 have X:=Am6 (f:=J7 t k N pa) (ρ:=Empty) (n:=P) (fun (g:List Due×List (List Int)×List Int) i=>(g.1,g.2.1,g.2.2,i)) (fun j g=>KInv t k logs N x0 (R * P) (pa * P+j) g) (fun j g o c=>by
  obtain⟨D,M,r⟩:=g;obtain⟨l,a2,a3⟩:=c;simp only at l a2 a3;subst a2 a3;have a:=Adu p u (N:=N) s (last:=R * P) (pa * P+j) Aa
  have m:((pa * P+j:Nat):Int) / k.pace=pa:=by rw[b,←Int.natCast_ediv,Rc pa P,Nat.mul_add_div Aa,Nat.div_eq_of_lt o,Nat.add_zero]
  have q:((pa * P+j:Nat):Int) % k.pace=j:=by rw[b,←Int.natCast_emod,Rc pa P,Nat.mul_add_mod,Alp o]
  obtain⟨Z,y,z2⟩:=A24 ⟨Aa,Aa⟩ a l k.pace k.stages k.ops (stS t k logs N x0 (R * P) (pa * P+j)).2.2 N;have w:=a.len;have C:(Sl ((pa * P+j:Nat):Int) (stS t k logs N x0 (R * P) (pa * P+j)).1).length≤96:=Nl (Arc _ _) w;refine⟨(Z++Xm t k logs (r1S ((pa * P+j:Nat):Int) (stS t k logs N x0 (R * P) (pa * P+j))) (stS t k logs N x0 (R * P) (pa * P+j)).2.2 N ((pa * P+j:Nat):Int) pa j k.ops.length,Avb t k logs (r1S ((pa * P+j:Nat):Int) (stS t k logs N x0 (R * P) (pa * P+j))) N pa j k.ops.length (stS t k logs N x0 (R * P) (pa * P+j)).2.2,r1S ((pa * P+j:Nat):Int) (stS t k logs N x0 (R * P) (pa * P+j))),?_,?_⟩
  ·unfold J7
   simp only;rw[Ck Aa,cyc_k p (now:=((pa * P+j:Nat):Int)) ⟨Aa,Aa⟩ (by rw[b];simp) ⟨Aa,Aa⟩ ⟨Aa,Aa⟩ y a.r1 a.mem (by rw[z2.1];omega),bd_ret,Ay Aa Aa]
  ·have d:pa * P+j<R * P:=by omega
   refine⟨?_,?_,?_⟩
   ·show Stb _ (stS t k logs N x0 (R * P) (pa * P+j+1)).1
    rw[Ama d];unfold Aob;rw[m,q];exact z2.app (Jn _)
   ·show _=(stS t k logs N x0 (R * P) (pa * P+j+1)).2.2
    rw[Ama d];unfold Aob;rw[m,q]
   ·show _=(stS t k logs N x0 (R * P) (pa * P+j+1)).2.1
    rw[Ama d]
    rfl) (fun g=>by unfold J7;exact Cn Aa) g c
 obtain⟨g',e,h⟩:=X;exact⟨g',e,by rw[Ra,Nat.one_mul];exact h⟩
theorem Aow (e:KMayP t k logs) (f:∀ i:Nat,i<k.ops.length→InR (ele k.ops (i:Int)).n) {N:Int}{x0:MSt} (b:InvS t logs 0 x0) {L:Nat} (p:L≤240000) {S:List Due} (h:Qb S) (j:Stb S (stS t k logs N x0 L L).1) :
  ∀ m:Nat,m≤7→∃ S',Qb S'∧Stb S' (stS t k logs N x0 L (L+m)).1∧S.foldl Ai3 (stS t k logs N x0 L L).2.1=S'.foldl Ai3 (stS t k logs N x0 L (L+m)).2.1∧(stS t k logs N x0 L (L+m)).2.2=(stS t k logs N x0 L L).2.2∧∀ d∈(stS t k logs N x0 L (L+m)).1,d.due≤L+5
 | 0,_=>⟨S,h,j,rfl,rfl,fun d a=>(((Adu e f (N:=N) b (last:=L) L Aa).due d a).2.1)⟩
 | m+1,hmm=>by
  obtain⟨S',q,g,r,s,u⟩:=Aow e f b p h j m Aa;have o:=Adu e f (N:=N) b (last:=L) (L+m) Aa;obtain⟨Z,l,z2,z3⟩:=Ad3 (c:=((L+m:Nat):Int)) q fun d a=>(o.due d (g.mem.1 a)).1;have hat:atT ((L+m:Nat):Int) S'=atT ((L+m:Nat):Int) (stS t k logs N x0 L (L+m)).1:=g.2 _;refine⟨Z,z2,?_,?_,?_,fun d a=>?_⟩
  ·show Stb Z (stS t k logs N x0 L (L+m+1)).1
   rw[Ahf Aa];exact Ao0 g.symm l z3
  ·show _=Z.foldl Ai3 (stS t k logs N x0 L (L+m+1)).2.1
   rw[Ahf Aa,r]
   conv=>lhs;rw[l]
   rw[Aau,hat];rfl
  ·show (stS t k logs N x0 L (L+m+1)).2.2=_
   rw[Ahf Aa];exact s
  ·rw[show L+(m+1)=L+m+1 from rfl,Ahf Aa] at a
   exact u d (Ul.1 a).1
end
def Sf (y:LayD) (a:Int) (q:Nat):Int:=(ele y.places a - q - 1) % y.regs
def frA (y:LayD) (a:Int) (n:Nat):List Int:=(List.range n).map (Sf y a)
def Ry (y:LayD) (L:List Int):List Int:=L.flatMap fun a=>frA y a (Uj y.body a).toNat
def Pq (y:LayD) (L:List Int):Prop:=(Ry y L).Nodup
theorem Asm {l:List Int}{x:Int}:(l++[x]).Nodup↔l.Nodup∧x∉l:=by
 rw[List.nodup_append];constructor
 ·rintro⟨c,_,g⟩
  exact⟨c,fun h=>g x h x Bf rfl⟩
 ·rintro⟨c,f⟩
  exact⟨c,Bf,fun a i b d e=>by
   rw[G7] at d;subst d;subst e
   exact f i⟩
theorem Apl (y:LayD) (a:Int) (n:Nat):frA y a (n+1)=frA y a n++[Sf y a n]:=rm_succ.symm
theorem Ake {y:LayD}{a:Int}{F:List Int}:∀ n,(F++frA y a n).Nodup↔F.Nodup∧∀ i,i<n→Sf y a i∉F++frA y a i
 | 0=>by
  show (F++[]).Nodup↔_;rw[N2];exact⟨fun h=>⟨h,fun i hi=>absurd hi (Rn _)⟩,fun h=>h.1⟩
 | n+1=>by
  rw[Apl,←G6,Asm,Ake n];constructor
  ·rintro⟨⟨c,b⟩,d⟩
   refine⟨c,fun i hi=>?_⟩;by_cases e:i=n
   ·subst e;exact d
   ·exact b i Aa
  ·rintro⟨c,b⟩
   exact⟨⟨c,fun i hi=>b i Aa⟩,b n Aa⟩
theorem LayD.Ok.bk {y:LayD} (b:y.Ok):∀ i:Nat,i<y.body.length→∀ r∈Bm (ele y.body (i:Int)),0≤r.bk∧r.bk≤3:=fun i hi r a=>(b.us i hi r a).2.2
theorem Amj {y:LayD} (b:y.Ok) (a:Int):0≤Uj y.body a∧Uj y.body a≤3:=Aul b.bk a _ (Co _)
theorem A0z {y:LayD} (c:y.Ok) {L:List Int}{i:Nat} (hi:i<L.length) (k:∀ x∈L,0≤x∧x<y.body.length) {n:Nat} (z:n≤3) {F:List Int}{m:List (Int×Bool)} (t:∀ v,Fz m v Az=true↔v∈F) :
  ((∀ q,q<n→Sf y (ele L (i:Int)) q∉F++frA y (ele L (i:Int)) q)∧∃ m',lp (Jz y.regs y.places L i n) (m,0)=some (.go (m',(n:Int)))∧∀ v,Fz m' v Az=true↔v∈F++frA y (ele L (i:Int)) n)∨(¬(∀ q,q<n→Sf y (ele L (i:Int)) q∉F++frA y (ele L (i:Int)) q)∧lp (Jz y.regs y.places L i n) (m,0)=some (.ret Az)):=by
 have d:=c.regs;have l:=k _ (D9 hi);obtain⟨a,o⟩:=Ik l.1;have u:=c.pl a Aa;have w:=c.lp;rw[←o] at u;refine Amd (f:=Jz y.regs y.places L i n) (n:=n) (r0:=Az) (fun q=>Sf y (ele L (i:Int)) q∉F++frA y (ele L (i:Int)) q) (fun q m=>∀ v,Fz m v Az=true↔v∈F++frA y (ele L (i:Int)) q) (fun q g A b=>?_) (fun g=>by unfold Jz;exact Cn Aa) m (fun v=>by rw[t];show _↔v∈F++[];rw[N2]);have B:=Uu (ele y.places (ele L (i:Int)) - (q:Int) - 1) (show 0<y.regs from Aa);have p:(ele y.places (ele L (i:Int)) - (q:Int) - 1) % y.regs=Sf y (ele L (i:Int)) q:=rfl;unfold Jz;simp only;rw[Ck Aa,A8 Aa (by unfold ln;omega),Ay Aa Aa,Ay Aa Aa,Ax Aa,Ay Aa Aa,Ax Aa,tm2 d.1 d.2,p];by_cases h:Sf y (ele L (i:Int)) q∈F++frA y (ele L (i:Int)) q
 ·rw[(b _).2 h,br_true]
  exact .inr ⟨fun j=>j h,rfl⟩
 ·have r:Fz g (Sf y (ele L (i:Int)) q) Az=Az:=by
   cases s:Fz g (Sf y (ele L (i:Int)) q) Az with
   | false=>rfl
   | true=>exact absurd ((b _).1 s) h
  rw[r,br_false,Ay Aa Aa];refine .inl ⟨h,_,rfl,fun v=>?_⟩;rw[O2,Apl,←G6,F8,G7,←b];by_cases e:Sf y (ele L (i:Int)) q=v
  ·rw[Bj e];simp[e]
  ·rw[Bg e]
   exact⟨.inl,fun h=>h.resolve_right fun h=>e h.symm⟩
theorem Aio {y:LayD}{L:List Int}{i:Nat} (hi:i<L.length):Ry y (L.take (i+1))=Ry y (L.take i)++frA y (ele L (i:Int)) (Uj y.body (ele L (i:Int))).toNat:=by
 rw[Kg hi];unfold Ry;rw[List.flatMap_append];simp
theorem Abc {y:LayD}{L:List Int}:∀ n,n≤L.length→((Ry y (L.take n)).Nodup↔∀ i,i<n→∀ q,q<(Uj y.body (ele L (i:Int))).toNat→Sf y (ele L (i:Int)) q∉Ry y (L.take i)++frA y (ele L (i:Int)) q)
 | 0,_=>by simp[Ry]
 | n+1,h=>by
  rw[Aio Aa,Ake,Abc n Aa];constructor
  ·rintro⟨a,b⟩ i hi
   by_cases e:i=n
   ·subst e;exact b
   ·exact a i Aa
  ·intro a
   exact⟨fun i hi=>a i Aa,a n Aa⟩
theorem Apm {y:LayD} (b:y.Ok) {L:List Int} (o:∀ x∈L,0≤x∧x<y.body.length) (u:L.length≤100000):Mm y.logs y.body y.outs y.pace y.regs y.places L=some (tb (Pq y L)):=by
 have t:=b.n;unfold Mm
 have X:=Amd (f:=Nf y.logs y.body y.outs y.regs y.places L) (n:=L.length) (r0:=Az) (fun i=>∀ q,q<(Uj y.body (ele L (i:Int))).toNat→Sf y (ele L (i:Int)) q∉Ry y (L.take i)++frA y (ele L (i:Int)) q) (fun i m=>∀ v,Fz m v Az=true↔v∈Ry y (L.take i)) (fun i g hi s=>by
  have r:=Amj b (ele L (i:Int));obtain⟨n,j⟩:=Ik r.1;unfold Nf;simp only;rw[Ck (by unfold ln;omega),A8 Aa (by unfold ln;omega),A4p (l:=⟨y.logs,y.body,y.outs⟩) t.2 b.bk,bd_ret,show Uj (Lp.mk y.logs y.body y.outs).body (ele L (i:Int))=Uj y.body (ele L (i:Int)) from rfl,j,I9];rcases A0z b hi o (n:=n) Aa s with ⟨a,m',c,k⟩ | ⟨a,c⟩
  ·refine .inl ⟨a,m',?_,fun v=>?_⟩
   ·rw[c,bd_ret,Out.on_go,Ay Aa Aa]
   ·rw[k,Aio hi,j,I9]
  ·exact .inr ⟨a,by rw[c,bd_ret,Out.on_ret]⟩) (fun g=>by unfold Nf;exact Cn (by unfold ln;omega)) [] (fun v=>by simp[Ry,A0i])
 have d:=Abc (y:=y) (L:=L) L.length (Co _);rw[X3] at d;rcases X with ⟨a,m,e,_⟩ | ⟨a,e⟩
 ·rw[e,bd_ret,Out.on_go,Dz (p:=Pq y L) (d.2 a)]
 ·rw[e,bd_ret,Out.on_ret,C3 fun h:Pq y L=>a (d.1 h)]
end Go.Rd
end