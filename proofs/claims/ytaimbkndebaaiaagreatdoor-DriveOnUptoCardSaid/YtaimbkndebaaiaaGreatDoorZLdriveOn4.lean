/- Texts for the law, 4. -/
import Derived.Test.YtaimbkndebaaiaaGreatDoorZLdriveOn3
set_option linter.unusedVariables false
set_option linter.unusedSimpArgs false
set_option maxRecDepth 8000
set_option linter.defProp false
open Decidable renaming decide→Ao
open Bool renaming false→Ay
section
namespace Go.Rd
def Lt (a b:Edg):Prop:=Aeu a b<0
theorem Lt.trans {a b c:Edg} (h:Lt a b) (d:Lt b c):Lt a c:=by unfold Lt at *;rw[Ep] at *;omega
theorem Lt.irrefl {a:Edg}:¬Lt a a:=by unfold Lt;rw[Ep];omega
theorem Lt.asymm {a b:Edg} (h:Lt a b):¬Lt b a:=fun c=>Lt.irrefl (h.trans c)
theorem Lt.tri {a b:Edg} (c:¬Lt a b) (d:¬Lt b a):a=b:=by
 unfold Lt at *;rw[Ep] at *
 cases a;cases b;simp only[Edg.mk.injEq] at *;omega
def Lx (l:List Edg):Prop:=l.Pairwise Lt
theorem Ahm:∀ {a b:List Edg},Lx a→Lx b→(∀ e,e∈a↔e∈b)→a=b
 | [],[],_,_,_=>rfl
 | [],y::b,_,_,h=>by have:=(h y).2 Ba;cases this
 | x::a,[],_,_,h=>by have:=(h x).1 Ba;cases this
 | x::a,y::b,ha,hb,h=>by
  obtain⟨g,a2⟩:=Ak0.1 ha;obtain⟨b1,b2⟩:=Ak0.1 hb
  have i:x=y:=by
   rcases Gl.1 ((h x).1 Ba) with c | c
   ·exact c
   ·rcases Gl.1 ((h y).2 Ba) with f | f
    ·exact f.symm
    ·exact absurd (b1 x c) (g y f).asymm
  subst i;congr 1;refine Ahm a2 b2 fun e=>⟨fun d=>?_,fun d=>?_⟩
  ·rcases Gl.1 ((h e).1 (by simp[d])) with c | c
   ·subst c;exact absurd (g e d) Lt.irrefl
   ·exact c
  ·rcases Gl.1 ((h e).2 (by simp[d])) with c | c
   ·subst c;exact absurd (b1 e d) Lt.irrefl
   ·exact c
theorem Xw {l:List Edg}{x:Edg} (h:Lx l) (f:∀ e∈l,Lt e x):Lx (l++[x]):=by
 unfold Lx;rw[List.pairwise_append];exact⟨h,Aqq _ _,fun a d b c=>by simp only[Gx] at c;subst c;exact f a d⟩
theorem Atz (a b:Edg):([a.fr,a.tO,a.bk,a.wt]==[b.fr,b.tO,b.bk,b.wt])=tb (a=b):=by
 refine Ls ?_
 cases a;cases b
 simp
def Srt (l:List Edg):Prop:=l.Pairwise fun a b=>¬Lt b a
theorem Srt.at {l:List Edg} (h:Srt l) {i j:Nat} (b:i<j) (a:j<l.length):¬Lt (ele l (j:Int)) (ele l (i:Int)):=by
 have:=Aqv.1 h i j Aa a b;simpa[C7,Dy,a,show i<l.length from Aa] using this
theorem Aor {l:List Edg}{n:Nat}{e:Edg}:e∈l.take n↔∃ i:Nat,i<n∧i<l.length∧ele l (i:Int)=e:=by
 constructor
 ·intro h
  obtain⟨i,hi,rfl⟩:=Acw h;rw[Kb] at hi;exact⟨i,Aa,Aa,by simp[C7,Dy,show i<l.length from Aa]⟩
 ·rintro⟨i,b,a,rfl⟩
  rw[C7,Dy,E3 a];exact Wz (by rw[Rv,Bg b,E3 a];rfl)
theorem An6 {l:List Edg}{k:Nat}{x:Edg} (h:k<l.length):(upd l (k:Int) x).take (k+1)=l.take k++[x]:=by
 unfold upd;rw[Iw,Af8,List.take_set_of_le (Cf _),Ala h];rfl
theorem Axv {l:List Edg}{k i:Nat} (h:k+i<l.length):ele (sub l (k:Int) (ln l)) (i:Int)=ele l ((k+i:Nat):Int):=by
 unfold sub ln;rw[C7,C7,Dy,Rv,Bg Aa,Xb,Iw,Dy]
structure CptI (s:List Edg) (k0:Nat) (ows:List Edg) (k j:Nat):Prop where
 len:ows.length=s.length
 kp:1≤k0
 j1:1≤j
 jn:k0+j≤s.length
 kk:k0≤k
 kj:k+1≤k0+j
 st:Lx (ows.take k)
 mem:∀ e,e∈ows.take k↔e∈s.take (k0+j)
 last:ele ows ((k - 1:Nat):Int)=ele s ((k0+j - 1:Nat):Int)
 rest:∀ p:Nat,k0+j - 1≤p→p<s.length→ele ows (p:Int)=ele s (p:Int)
theorem Aos {l:List Edg} (h:Lx l) (c:0<l.length):∀ e∈l,e=ele l ((l.length - 1:Nat):Int)∨Lt e (ele l ((l.length - 1:Nat):Int)):=fun e a=>by
 obtain⟨i,hi,rfl⟩:=Acw a
 have b:ele l ((l.length - 1:Nat):Int)=l[l.length - 1]:=by simp[C7,Dy,show l.length - 1<l.length from Aa]
 rw[b];by_cases d:i=l.length - 1
 ·left;congr 1
 ·right;exact Aqv.1 h i (l.length - 1) hi Aa Aa
theorem Ao3 {l:List Edg}{k i:Nat} (h:i<k):ele (l.take k) (i:Int)=ele l (i:Int):=by
 rw[C7,C7,Dy,Rv,Bg h,Dy]
theorem A0f {s:List Edg} (hs:Srt s) (C:s.length≤4611686018427387904) {k0:Nat}{ows:List Edg}{k j:Nat} (h:CptI s k0 ows k j) (d:k0+j<s.length) :
  (∃ r k',Bs s k0 (ows,(k:Int),(j:Int))=some (.next (r,((k':Nat):Int),((j+1:Nat):Int)))∧CptI s k0 r k' (j+1)):=by
 have f:=h.len;have E:=h.j1;have F:=h.kj;have l:=h.kp;have u:=h.kk
 have v:ln s=ln ows:=by unfold ln;rw[f]
 have z:ln (sub ows (k0:Int) (ln ows))=((s.length - k0:Nat):Int):=by
  have:=Al4 (xs:=ows) (i:=(k0:Int)) (j:=ln ows) ⟨Aa,by unfold ln;omega,E6 _⟩;unfold ln at this ⊢;rw[this];omega
 have A:ele (sub ows (k0:Int) (ln ows)) (j:Int)=ele s ((k0+j:Nat):Int):=by rw[Axv Aa,h.rest _ Aa d]
 have B:ele (sub ows (k0:Int) (ln ows)) ((j:Int) - 1)=ele s ((k0+j - 1:Nat):Int):=by
  rw[show (j:Int) - 1=((j - 1:Nat):Int) from Aa,Axv Aa,h.rest _ Aa Aa,show k0+(j - 1)=k0+j - 1 from Aa]
 have q:((j+1:Nat):Int)=(j:Int)+1:=rfl
 have n:∀ e,e∈s.take (k0+(j+1))↔e∈s.take (k0+j)∨e=ele s ((k0+j:Nat):Int):=fun e=>by
  rw[show k0+(j+1)=(k0+j)+1 from rfl,J5 d,Fw,Gx]
 unfold Bs;simp only;rw[v,Ra Aa (by unfold ln;omega) (E6 _),z,Ce Aa,A7 Aa Aa,Av Aa Aa,A7 Aa Aa,A,B,Atz];by_cases b:ele s ((k0+j:Nat):Int)=ele s ((k0+j - 1:Nat):Int)
 ·rw[Dm b,F0,br_false,Av Aa Aa,←q]
  refine⟨ows,k,rfl,⟨f,l,Aa,Aa,u,Aa,h.st,fun e=>?_,?_,fun p t c=>h.rest p Aa c⟩⟩
  ·rw[h.mem,n]
   refine⟨.inl,fun a=>a.elim id fun a=>?_⟩;rw[a,b,Aor];exact⟨k0+j - 1,Aa,Aa,rfl⟩
  ·rw[h.last,show k0+(j+1) - 1=k0+j from Aa,b]
 ·rw[Cw b,Jz,br_true,A7 Aa Aa,A7 Aa (by unfold ln;omega),Av Aa Aa,Av Aa Aa,←q]
  refine⟨_,k+1,rfl,⟨by rw[D9];exact f,l,Aa,Aa,Aa,Aa,?_,fun e=>?_,?_,fun p t c=>?_⟩⟩
  ·rw[An6 Aa]
   refine Xw h.st fun e x=>?_
   have w:(ows.take k).length=k:=by rw[Kb];omega
   have o:=Aos h.st Aa e x;rw[w,Ao3 Aa,h.last] at o;have y:=hs.at (i:=k0+j - 1) (j:=k0+j) Aa d
   have m:Lt (ele s ((k0+j - 1:Nat):Int)) (ele s ((k0+j:Nat):Int)):=by
    by_cases g:Lt (ele s ((k0+j - 1:Nat):Int)) (ele s ((k0+j:Nat):Int))
    ·exact g
    ·exact absurd (Lt.tri y g) b
   rcases o with a | a
   ·rw[a];exact m
   ·exact a.trans m
  ·rw[An6 Aa,Fw,Gx,h.mem,n]
  ·rw[show k+1 - 1=k from rfl,Abl ⟨Aa,by unfold ln;omega⟩,show k0+(j+1) - 1=k0+j from Aa]
  ·rw[Vu Aa]
   exact h.rest p Aa c
theorem Ao7 {s:List Edg} (hs:Srt s) (b:s.length≤4611686018427387904) {k0:Nat}:∀ (m j k:Nat) (ows:List Edg),k0+j+m=s.length→CptI s k0 ows k j→∃ a k',lp (Bs s k0) (ows,(k:Int),(j:Int))=some (.go (a,((k':Nat):Int),((s.length - k0:Nat):Int)))∧CptI s k0 a k' (s.length - k0)
 | 0,j,k,ows,hm,h=>by
  have g:j=s.length - k0:=by have:=h.kk;omega
  subst g;refine⟨ows,k,C2 ?_,h⟩;have l:=h.len
  have n:ln s=ln ows:=by unfold ln;rw[l]
  have o:ln (sub ows (k0:Int) (ln ows))=((s.length - k0:Nat):Int):=by
   have:=Al4 (xs:=ows) (i:=(k0:Int)) (j:=ln ows) ⟨Aa,by unfold ln;omega,E6 _⟩;unfold ln at this ⊢;rw[this];omega
  unfold Bs;simp only;rw[n,Ra Aa (by unfold ln;omega) (E6 _),o,Ch Aa]
 | m+1,j,k,ows,hm,h=>by
  obtain⟨a,k',c,d⟩:=A0f hs b h Aa;obtain⟨q,p,e,f⟩:=Ao7 hs b m (j+1) k' a Aa d;exact⟨q,p,Bz c e,f⟩
theorem Awr {s:List Edg} (hs:Srt s) (C:s.length≤4611686018427387904):∃ ys,Cz s=some ys∧Lx ys∧∀ e,e∈ys↔e∈s:=by
 unfold Cz;by_cases A:s.length<2
 ·rw[Ce (by unfold ln;omega)]
  refine⟨s,rfl,?_,fun e=>N7⟩
  match s,A with
  | [],_=>exact List.Pairwise.nil
  | [x],_=>exact Aqq _ _
 ·rw[Ch (by unfold ln;omega)]
  have key:∀ m k:Nat,1≤k→k+m=s.length→Lx (s.take k)→(Lx s∧lp Bt (s,(k:Int))=some (.go (s,(s.length:Int))))∨(∃ ys,lp Bt (s,(k:Int))=some (.ret ys)∧Lx ys∧∀ e,e∈ys↔e∈s):=by
   intro m
   induction m with
   | zero =>
    intro k n F f;have:k=s.length:=Aa;subst this;rw[Xa] at f;refine .inl ⟨f,C2 ?_⟩;unfold Bt;exact Ch (by unfold ln;omega)
   | succ m L =>
    intro k n F f
    have e:Bt (s,(k:Int))=br (tb (ele s (k:Int)=ele s ((k - 1:Nat):Int))) (ck (SX (k:Int) (ln s) (ln s))<|bd (lp (Bs s k) (s,(k:Int),1)) fun M=>M.on (fun (p,l,Q) =>
      ck (SX l (ln p) (ln p))<|ck (SX 0 l (ln (clr p l (Edg.mk 0 0 0 0))))<|some (.ret (sub (clr p l (Edg.mk 0 0 0 0)) 0 l))) (fun r=>r.elim)) (some (.next (s,((k+1:Nat):Int)))):=by
     unfold Bt;simp only;rw[Ce (by unfold ln;omega),A7 Aa (by unfold ln;omega),Av Aa Aa,show (k:Int) - 1=((k - 1:Nat):Int) from Aa,A7 Aa (by unfold ln;omega),Atz,Av Aa Aa];rfl
    by_cases h:ele s (k:Int)=ele s ((k - 1:Nat):Int)
    ·rw[Dm h,br_true,Ra Aa (by unfold ln;omega) (E6 _)] at e
     have B:CptI s k s k 1:=⟨rfl,n,Cf _,Aa,Cf _,Cf _,f,fun x=>by
       rw[J5 Aa,Fw,Gx];refine⟨.inl,fun d=>d.elim id fun d=>?_⟩;rw[d,h,Aor]
       exact⟨k - 1,Aa,Aa,rfl⟩,h.symm,fun _ _ _=>rfl⟩
     obtain⟨q,o,t,g⟩:=Ao7 hs C m 1 k s Aa B;rw[show ((1:Nat):Int)=1 from rfl] at t;rw[t,bd_ret,Out.on_go] at e;simp only at e;have P:=g.len;have N:=g.kk;have O:=g.kj;have E:=Amq (xs:=q) (i:=(o:Int)) (z:=Edg.mk 0 0 0 0) (by unfold ln;omega);rw[Ra Aa (by unfold ln;omega) (E6 _),Ra Aa Aa (by unfold ln;rw[E];omega)] at e
     have J:sub (clr q (o:Int) (Edg.mk 0 0 0 0)) 0 (o:Int)=q.take o:=by
      unfold sub clr;have y:(0:Int).toNat=0:=rfl;rw[y,Akp,Int.sub_zero,Iw,Aqx (by rw[Kb];omega),List.take_take,Nat.min_self]
     rw[J] at e;refine .inr ⟨_,Hk e,g.st,fun x=>?_⟩;rw[g.mem,show k+(s.length - k)=s.length from Aa,Xa]
    ·rw[Cw h,br_false] at e
     have I:Lx (s.take (k+1)):=by
      rw[J5 Aa];refine Xw f fun x K=>?_
      have G:(s.take k).length=k:=by rw[Kb];omega
      have w:=Aos f Aa x K;rw[G,Ao3 Aa] at w;have H:=hs.at (i:=k - 1) (j:=k) Aa Aa
      have v:Lt (ele s ((k - 1:Nat):Int)) (ele s (k:Int)):=by
       by_cases u:Lt (ele s ((k - 1:Nat):Int)) (ele s (k:Int))
       ·exact u
       ·exact absurd (Lt.tri H u) h
      rcases w with d | d
      ·rw[d];exact v
      ·exact d.trans v
     rcases L (k+1) Aa Aa I with ⟨a,b⟩ | ⟨ys,a,b⟩
     ·exact .inl ⟨a,(Lk e).trans b⟩
     ·exact .inr ⟨ys,(Lk e).trans a,b⟩
  have n:Lx (s.take 1):=by
   match s with
   | []=>exact List.Pairwise.nil
   | x::_=>exact Aqq _ _
  rcases key (s.length - 1) 1 (Cf _) Aa n with ⟨a,b⟩ | ⟨ys,a,b,c⟩
  ·rw[show ((1:Nat):Int)=1 from rfl] at b
   rw[b,bd_ret,Out.on_go];exact⟨s,rfl,a,fun e=>N7⟩
  ·rw[show ((1:Nat):Int)=1 from rfl] at a
   rw[a,bd_ret,Out.on_ret];exact⟨ys,rfl,b,c⟩
theorem Ay6 (l:List Edg):Srt (Afl l)∧(∀ e,e∈Afl l↔e∈l)∧(Afl l).length=l.length:=by
 refine⟨?_,fun e=>List.mem_mergeSort,List.length_mergeSort ..⟩;have:=List.pairwise_mergeSort (le:=fun x y=>!Ao (Aeu y x<0)) (fun a b c d f=>?_) (fun a b=>?_) l
 ·refine this.imp fun {a b} h=>?_
  unfold Lt;simpa using h
 ·simp only[Aky,H5] at *
  rw[Ep] at *;omega
 ·simp only[Wd,Aky,H5]
  rw[Ep,Ep];omega
theorem Awo {l:Lp}{t:Tgt}{e:Edg}{fr tO:Nat} (i:fr<l.body.length) (b:tO<l.body.length) (g:e.fr=fr) (a:e.tO=tO) (k:LoopOk l):EdgeP l t e↔(UseE l t tO e∨MemE l fr tO e):=by
 constructor
 ·rintro⟨u,n,h | ⟨f,j,h⟩⟩
  ·have:(u:Int)=tO:=by
    obtain⟨r,m,rfl⟩:=h;exact a
   rw[this] at h;exact .inl h
  ·have c:(u:Int)=tO:=by rw[←a,h.tO]
   have d:(f:Int)=fr:=by rw[←g,h.fr]
   rw[c,d] at h;exact .inr h
 ·rintro(h | h)
  ·exact⟨tO,b,.inl h⟩
  ·exact⟨tO,b,.inr ⟨fr,i,h⟩⟩
theorem A26 {α β:Type} [Inhabited α] {c:Bool}{x:α}{k:α→Option β}:bdG c (some x) k=k (if c=true then x else default):=by cases c <;> rfl
theorem Av5 {A B:Bool}{x y d:Int}:((A&&B)&&(x==if (A&&B)=true then y else d))=((A&&B)&&(x==y)):=by cases A <;> cases B <;> rfl
theorem tb_or {p q:Prop}:tb (p∨q)=(tb p || tb q):=by
 by_cases a:p
 ·rw[Dm (.inl a),Dm a];rfl
 ·by_cases b:q
  ·rw[Dm (.inr b),Cw a,Dm b];rfl
  ·rw[Cw (fun h=>h.elim a b),Cw a,Cw b];rfl
theorem Avy {l:Lp} (E:LoopOk l) (t:Tgt) {fr tO:Nat} (u:fr<l.body.length) (v:tO<l.body.length) {bk wt:Int} (w:0≤bk) (J:bk≤32):Amt l t ⟨fr,tO,bk,wt⟩=some (tb (UseE l t tO ⟨fr,tO,bk,wt⟩∨MemE l fr tO ⟨fr,tO,bk,wt⟩)):=by
 have b0:=Oj (ele l.body (tO:Int));unfold Amt;simp only;rw[A7 Aa (by unfold ln;omega),Aro,bd_ret]
 have step:∀ i:Nat,0≤i→i<(Bk (ele l.body (tO:Int))).length→(¬((ele (Bk (ele l.body (tO:Int))) (i:Int)).st=fr∧(ele (Bk (ele l.body (tO:Int))) (i:Int)).bk=bk∧wt=E4 t (ele l.body (fr:Int)).op)→Sc l t ⟨fr,tO,bk,wt⟩ (Bk (ele l.body (tO:Int))) i=some (.next ((i:Int)+1))) ∧
   (¬¬((ele (Bk (ele l.body (tO:Int))) (i:Int)).st=fr∧(ele (Bk (ele l.body (tO:Int))) (i:Int)).bk=bk∧wt=E4 t (ele l.body (fr:Int)).op)→Sc l t ⟨fr,tO,bk,wt⟩ (Bk (ele l.body (tO:Int))) i=some (.ret true)):=fun i _ hi=>by
  have B:IX (i:Int) (ln (Bk (ele l.body (tO:Int)))):=⟨Aa,by unfold ln;omega⟩
  have e:Sc l t ⟨fr,tO,bk,wt⟩ (Bk (ele l.body (tO:Int))) i=br (tb ((ele (Bk (ele l.body (tO:Int))) (i:Int)).st=fr∧(ele (Bk (ele l.body (tO:Int))) (i:Int)).bk=bk∧wt=E4 t (ele l.body (fr:Int)).op)) (some (.ret true)) (some (.next ((i:Int)+1))):=by
   unfold Sc;simp only;rw[Ce (by unfold ln;omega),Au B,Fc (fun _=>B),Fc (fun _=>⟨Aa,by unfold ln;omega⟩),Arn];rw[A26,Av5,Av Aa Aa];have N:∀ (x y z:Bool) (p q r:Prop),(x=true↔p)→(y=true↔q)→(z=true↔r)→((x&&y)&&z)=tb (p∧q∧r):=fun x y z p q r u v w=>Ls (by rw[E0,E0,u,v,w,Ur]);rw[N _ _ _ _ _ _ C8 C8 C8]
  rw[e];exact⟨fun h=>by rw[Cw h];rfl,fun h=>by rw[Dm (Pk.1 h)];rfl⟩
 have H:UseE l t tO ⟨fr,tO,bk,wt⟩↔∃ i:Nat,i<(Bk (ele l.body (tO:Int))).length∧((ele (Bk (ele l.body (tO:Int))) (i:Int)).st=fr∧(ele (Bk (ele l.body (tO:Int))) (i:Int)).bk=bk∧wt=E4 t (ele l.body (fr:Int)).op):=by
  constructor
  ·rintro⟨r,j,A⟩
   obtain⟨i,hi,rfl⟩:=Qa j;simp only[Edg.mk.injEq] at A;obtain⟨m,a2,a3,a4⟩:=A;exact⟨i,hi,m.symm,a3.symm,by rw[a4,←m]⟩
  ·rintro⟨i,hi,m,a2,a3⟩
   exact⟨_,Dt hi,by rw[m,a2,a3]⟩
 rcases Sw (f:=Sc l t ⟨fr,tO,bk,wt⟩ (Bk (ele l.body (tO:Int)))) (n:=(Bk (ele l.body (tO:Int))).length) (fun _=>true) (Bk (ele l.body (tO:Int))).length 0 Aa step (by unfold Sc;exact Ch (by unfold ln;omega)) with ⟨h,e⟩ | ⟨i,_,hi,O,_,e⟩
 ·rw[show (((0:Nat)):Int)=0 from rfl] at e
  have T:¬UseE l t tO ⟨fr,tO,bk,wt⟩:=fun U=>by
   obtain⟨i,hi,d⟩:=H.1 U;exact h i Aa hi d
  rw[e,bd_ret,Out.on_go,tb_or,Cw T,Wb,A7 Aa (by unfold ln;omega),A7 Aa (by unfold ln;omega),Asy,bd_ret,Out.on_go];unfold Aeo;rw[bd_ret]
  have K:(((((ele l.body (fr:Int)).op==3 || (ele l.body (fr:Int)).op==4)&&((ele l.body (tO:Int)).op==3 || (ele l.body (tO:Int)).op==4))&&((ele l.body (fr:Int)).ar==(ele l.body (tO:Int)).ar))&&((ele l.body (fr:Int)).op==4 || (ele l.body (tO:Int)).op==4))=tb (Ap6 l fr tO):=by
   unfold Ap6;refine Ls ?_;unfold Ad5;simp[Ur]
  rw[K]
  have V:(if ((ele l.body (fr:Int)).op==4)=true then (1:Int) else 0)=if (ele l.body (fr:Int)).op=4 then 1 else 0:=Ba
  rw[V];by_cases d:Ap6 l fr tO
  ·rw[Dm d,F0,Wb]
   by_cases s:wt=if (ele l.body (fr:Int)).op=4 then 1 else 0
   ·obtain⟨W,a0,g1,I⟩:=Ua E u d.1
    obtain⟨X,_,_,_⟩:=Ua E v d.2.1;have C:(ele l.logs (ele l.body (fr:Int)).ar).toNat≤5:=Aa;obtain⟨b1,b2,b3⟩:=Aul C;have L:Lu l (ele l.body (fr:Int))=2 ^ (ele l.logs (ele l.body (fr:Int)).ar).toNat:=rfl
    have S:(if Ao ((fr:Int)≥tO)=true then (1:Int) else 0)=Gz fr tO:=by unfold Gz;simp
    have a9:=Adk fr tO;rw[show (wt != if (ele l.body (fr:Int)).op=4 then 1 else 0)=Ay from by rw[←s];exact Aqf _,br_false,Au a0,Ayn _ I,bd_ret,Asy,bd_ret,Out.on_go,S];rw[←L];have G:∀ k:Int,0≤k→k≤32→Si (ele l.body (fr:Int)) (ele l.body (tO:Int)) k (Lu l (ele l.body (fr:Int)))=some (tb (Tw (ele l.body (fr:Int)) (ele l.body (tO:Int)) k (Lu l (ele l.body (fr:Int))))):=fun k a b=>A1y W X a b C;rw[G bk w J,On];by_cases j:Gz fr tO≤bk∧bk≤Lu l (ele l.body (fr:Int))
    ·rw[show (Ao (bk<Gz fr tO) || Ao (bk>Lu l (ele l.body (fr:Int))))=Ay from by simp;omega]
     simp only[Jz,Na,Wb];by_cases o:Tw (ele l.body (fr:Int)) (ele l.body (tO:Int)) bk (Lu l (ele l.body (fr:Int)))
     ·rw[Dm o,F0,br_false]
      have a1:((bk.toNat:Nat):Int)=bk:=Aa;have F:(((Gz fr tO).toNat:Nat):Int)=Gz fr tO:=Aa
      have Y:∀ i:Nat,(Gz fr tO).toNat≤i→i<bk.toNat→(¬Tw (ele l.body (fr:Int)) (ele l.body (tO:Int)) i (Lu l (ele l.body (fr:Int)))→Sb l ⟨fr,tO,bk,wt⟩ (Lu l (ele l.body (fr:Int))) i=some (.next ((i:Int)+1)))∧(¬¬Tw (ele l.body (fr:Int)) (ele l.body (tO:Int)) i (Lu l (ele l.body (fr:Int)))→Sb l ⟨fr,tO,bk,wt⟩ (Lu l (ele l.body (fr:Int))) i=some (.ret Ay)):=fun i _ hi=>by
       have e:Sb l ⟨fr,tO,bk,wt⟩ (Lu l (ele l.body (fr:Int))) i=br (tb (Tw (ele l.body (fr:Int)) (ele l.body (tO:Int)) i (Lu l (ele l.body (fr:Int))))) (some (.ret Ay)) (some (.next ((i:Int)+1))):=by
        unfold Sb;simp only;rw[Ce Aa,G i Aa Aa,bd_ret,Av Aa Aa]
       rw[e];exact⟨fun h=>by rw[Cw h];rfl,fun h=>by rw[Dm (Pk.1 h)];rfl⟩
      rcases Sw (f:=Sb l ⟨fr,tO,bk,wt⟩ (Lu l (ele l.body (fr:Int)))) (n:=bk.toNat) (fun _=>Ay) (bk.toNat - (Gz fr tO).toNat) (Gz fr tO).toNat Aa Y (by unfold Sb;exact Ch (by show ¬((bk.toNat:Int)<bk);omega)) with ⟨M,g⟩ | ⟨i,a5,a6,P,_,g⟩
      ·rw[F] at g
       rw[g,bd_ret,Out.on_go,Dm];refine⟨d,rfl,rfl,s,j.1,j.2,o,fun k a7 Q=>?_⟩;have a8:k<bk:=Q;have R:((k.toNat:Nat):Int)=k:=Aa;have:=M k.toNat Aa Aa;rwa [R] at this
      ·rw[F] at g
       rw[g,bd_ret,Out.on_ret,Cw];exact fun h=>P (h.first i Aa (by show (i:Int)<bk;omega))
     ·rw[Cw o,Jz,br_true,Cw fun h=>o h.meet]
    ·rw[show (Ao (bk<Gz fr tO) || Ao (bk>Lu l (ele l.body (fr:Int))))=true from by simp;omega]
     simp only[Uw,br_true];rw[Cw fun h=>j ⟨h.lo,h.hi⟩]
   ·rw[show (wt != if (ele l.body (fr:Int)).op=4 then 1 else 0)=true from by simpa using s,br_true,Cw fun h=>s h.wt]
  ·rw[Cw d,Jz,Uw,br_true,Cw fun h=>d h.c]
 ·rw[show (((0:Nat)):Int)=0 from rfl] at e
  rw[e,bd_ret,Out.on_ret,Dm (.inl (H.2 ⟨i,hi,Pk.1 O⟩))]
structure UpTo (l:Lp) (t:Tgt) (p:Edg) (b:Int) (v:List Edg):Prop where
 st:Lx v
 mem:∀ e,e∈v↔EdgeP l t e∧Lt e p
 len:(v.length:Int)≤b
theorem AL32 {n:Nat} (h:n≤100000):AL n 32:=⟨by rw[Ej];omega,Aa⟩
theorem Rl {l:Lp}{t:Tgt}{p g:Edg}{b d:Int}{v:List Edg} (h:UpTo l t p b v) (i:b≤d) (f:∀ e,EdgeP l t e→(Lt e p↔Lt e g)):UpTo l t g d v :=
 ⟨h.st,fun e=>by rw[h.mem];exact⟨fun ⟨a,c⟩=>⟨a,(f e a).1 c⟩,fun ⟨a,c⟩=>⟨a,(f e a).2 c⟩⟩,W8 h.len i⟩
theorem Azh {l:Lp} (p:LoopOk l) (t:Tgt):∃ E,Aan l t=some E∧Lx E∧(∀ e,e∈E↔EdgeP l t e)∧E.length≤60000:=by
 have P:=p.2.2.1;have i:∀ e,EdgeP l t e→EdgeIn l.body.length e:=fun e h=>h.in p;unfold Aan
 have XE:=O3 (f:=S7 l t) (n:=l.body.length) (fun k v=>UpTo l t ⟨k,0,0,0⟩ (k * 3696) v) (fun fr v x d=>?_) (fun g=>by unfold S7;exact Ch (by unfold ln;omega)) [] ⟨List.Pairwise.nil,fun e=>⟨fun h=>(by cases h),fun ⟨m,o⟩=>by
  have:=i e m;have:=this.fr;unfold Lt at o;rw[Ep] at o;have:=(i e m).tO;have:=(i e m).bk;have:=(i e m).wt;simp only at o;omega⟩,Ba⟩
 ·obtain⟨E,G,j⟩:=XE
  rw[G,bd_ret,Out.on_go];refine⟨E,rfl,j.st,fun e=>?_,by have:=j.len;omega⟩;rw[j.mem];refine⟨fun h=>h.1,fun h=>⟨h,?_⟩⟩;have:=(i e h).fr;unfold Lt;rw[Ep];left;exact this.2
 ·have B:=O3 (f:=S6 l t fr) (n:=l.body.length) (fun k v=>UpTo l t ⟨fr,k,0,0⟩ ((fr:Int) * 3696+k * 231) v) (fun tO v A d=>?_) (fun g=>by unfold S6;exact Ch (by unfold ln;omega)) v (Rl d Aa fun e c=>N7)
  ·obtain⟨v1,H,K⟩:=B
   refine⟨v1,?_,Rl K Aa fun e c=>?_⟩
   ·unfold S7
    simp only;rw[Ce (by unfold ln;omega),H,bd_ret,Out.on_go];simp only;rw[Av Aa Aa]
   ·have m:=(i e c).tO;have o:=(i e c).bk;have w:=(i e c).wt
    unfold Lt;rw[Ep,Ep];simp only;omega
  ·have C:=O3 (f:=S5 l t fr tO) (n:=33) (fun k v=>UpTo l t ⟨fr,tO,k,0⟩ ((fr:Int) * 3696+tO * 231+k * 7) v) (fun bk v N d=>?_) (fun g=>by unfold S5;exact Ch Aa) v (Rl d Aa fun e c=>N7)
   ·obtain⟨v2,I,L⟩:=C
    refine⟨v2,?_,Rl L Aa fun e c=>?_⟩
    ·unfold S6
     simp only;rw[Ce (by unfold ln;omega),I,bd_ret,Out.on_go];simp only;rw[Av Aa Aa]
    ·have o:=(i e c).bk;have w:=(i e c).wt
     unfold Lt;rw[Ep,Ep];simp only;omega
   ·have F:=O3 (f:=S4 l t fr tO bk) (n:=7) (fun k v=>UpTo l t ⟨fr,tO,bk,k⟩ ((fr:Int) * 3696+tO * 231+bk * 7+k) v) (fun wt v Q d=>?_) (fun g=>by unfold S4;exact Ch Aa) v (Rl d Aa fun e c=>N7)
    ·obtain⟨v3,J,M⟩:=F
     refine⟨v3,?_,Rl M Aa fun e c=>?_⟩
     ·unfold S5
      simp only;rw[Ce Aa,J,bd_ret,Out.on_go];simp only;rw[Av Aa Aa]
     ·have w:=(i e c).wt
      unfold Lt;rw[Ep,Ep];simp only;omega
    ·have O:=d.len
     have y:=Awo (t:=t) (e:=⟨fr,tO,bk,wt⟩) x A rfl rfl p;unfold S4;simp only;rw[Ce Aa,Avy p t x A Aa Aa,bd_ret,Av Aa Aa];by_cases j:UseE l t tO ⟨fr,tO,bk,wt⟩∨MemE l fr tO ⟨fr,tO,bk,wt⟩
     ·rw[Dm j,br_true,Au (AL32 (by rw[B2,Lf];omega))]
      refine⟨_,rfl,Xw d.st fun e c=>((d.mem e).1 c).2,fun e=>?_,by rw[B2,Lf];omega⟩;rw[Fw,Gx,d.mem];constructor
      ·rintro(⟨a,b⟩ | rfl)
       ·refine⟨a,?_⟩
        unfold Lt at b ⊢;rw[Ep] at b ⊢;simp only at b ⊢;omega
       ·exact⟨y.2 j,by unfold Lt;rw[Ep];exact .inr ⟨rfl,.inr ⟨rfl,.inr ⟨rfl,by show (wt:Int)<((wt+1:Nat):Int);omega⟩⟩⟩⟩
      ·rintro⟨a,b⟩
       unfold Lt at b;rw[Ep] at b;simp only at b;by_cases z:e=⟨fr,tO,bk,wt⟩
       ·exact .inr z
       ·refine .inl ⟨a,?_⟩
        unfold Lt;rw[Ep];simp only;have:¬(e.fr=fr∧e.tO=tO∧e.bk=bk∧e.wt=wt):=fun ⟨q,r,s,u⟩=>z (by cases e;simp only[Edg.mk.injEq] at *;exact⟨q,r,s,u⟩);omega
     ·rw[Cw j,br_false,Av Aa Aa]
      refine⟨v,rfl,d.st,fun e=>?_,Aa⟩;rw[d.mem];constructor
      ·rintro⟨a,b⟩
       refine⟨a,?_⟩;unfold Lt at b ⊢;rw[Ep] at b ⊢;simp only at b ⊢;omega
      ·rintro⟨a,b⟩
       refine⟨a,?_⟩;unfold Lt at b ⊢;rw[Ep] at b ⊢;simp only at b ⊢
       have:¬(e.fr=fr∧e.tO=tO∧e.bk=bk∧e.wt=wt):=fun ⟨q,r,s,u⟩=>j (y.1 (by
        have:e=⟨fr,tO,bk,wt⟩:=by cases e;simp only[Edg.mk.injEq] at *;exact⟨q,r,s,u⟩
        rw[←this];exact a))
       omega
structure Cnt (P:Edg→Prop) (b:Nat) (v:List Edg):Prop where
 mem:∀ e,e∈v↔P e
 len:v.length≤b
theorem A3g {l:Lp} (p:LoopOk l) (I:l.Fine) {t:Tgt} (N:C4 t=true):∃ E,Fa l t=some (E,0)∧Lx E∧(∀ e,e∈E↔EdgeP l t e):=by
 have S:=p.2.2.1;unfold Fa;rw[Afu l I,bd_ret,Jd,Dm p,N];simp only[F0,Jz,bdG_t,bd_ret,Rt,br_false];have Xv:=O3 (f:=Mw l t) (n:=l.body.length) (fun k v=>Cnt (fun e=>∃ tO:Nat,tO<k∧(UseE l t tO e∨∃ fr:Nat,fr<l.body.length∧MemE l fr tO e)) (k * 18) v) (fun tO v s m=>?_) (fun g=>by unfold Mw;exact Ch (by unfold ln;omega)) [] ⟨fun e=>⟨fun h=>(by cases h),fun ⟨_,h,_⟩=>Aa⟩,Z0 _⟩
 ·obtain⟨v,B,m⟩:=Xv
  rw[B,bd_ret,Out.on_go];simp only;obtain⟨Q,R,U⟩:=Ay6 v;have K:=m.len;unfold Aam;rw[Au Aa,bd_ret];obtain⟨ys,c1,c2,c3⟩:=Awr Q Aa;rw[c1,bd_ret];exact⟨ys,rfl,c2,fun e=>by rw[c3,R,m.mem];rfl⟩
 ·have T:=Oj (ele l.body (tO:Int))
  have K:=m.len;have z:=O3 (f:=Mv l t tO (Bk (ele l.body (tO:Int)))) (n:=(Bk (ele l.body (tO:Int))).length) (fun k w=>Cnt (fun e=>e∈v∨∃ j:Nat,j<k∧e=⟨(ele (Bk (ele l.body (tO:Int))) (j:Int)).st,tO,(ele (Bk (ele l.body (tO:Int))) (j:Int)).bk,E4 t (ele l.body (ele (Bk (ele l.body (tO:Int))) (j:Int)).st).op⟩) (tO * 18+k) w) (fun i w hi d=>?_) (fun g=>by unfold Mv;exact Ch (by unfold ln;omega)) v ⟨fun e=>⟨.inl,fun h=>h.elim id fun ⟨_,h,_⟩=>Aa⟩,Aa⟩
  ·obtain⟨v1,C,x⟩:=z
   have A:=O3 (f:=Mu l tO) (n:=l.body.length) (fun k w=>Cnt (fun e=>e∈v1∨∃ fr:Nat,fr<k∧MemE l fr tO e) (tO * 18+2+k) w) (fun i w hi d=>?_) (fun g=>by unfold Mu;exact Ch (by unfold ln;omega)) v1 ⟨fun e=>⟨.inl,fun h=>h.elim id fun ⟨_,h,_⟩=>Aa⟩,by have:=x.len;omega⟩
   ·obtain⟨v2,F,y⟩:=A
    refine⟨v2,?_,fun e=>?_,by have:=y.len;omega⟩
    ·unfold Mw
     simp only;rw[Ce (by unfold ln;omega),A7 Aa (by unfold ln;omega),Aai,bd_ret,C,bd_ret,Out.on_go];simp only;rw[F,bd_ret,Out.on_go];simp only;rw[Av Aa Aa]
    ·rw[y.mem,x.mem,m.mem]
     constructor
     ·rintro((⟨u,b,a⟩ | ⟨j,b,rfl⟩) | ⟨fr,b,a⟩)
      ·exact⟨u,Aa,a⟩
      ·exact⟨tO,Aa,.inl ⟨_,Dt b,rfl⟩⟩
      ·exact⟨tO,Aa,.inr ⟨fr,b,a⟩⟩
     ·rintro⟨u,b,a⟩
      by_cases c:u=tO
      ·subst c
       rcases a with ⟨r,L,rfl⟩ | ⟨fr,G,H⟩
       ·obtain⟨j,J,rfl⟩:=Qa L
        exact .inl (.inr ⟨j,J,rfl⟩)
       ·exact .inr ⟨fr,G,H⟩
      ·exact .inl (.inl ⟨u,Aa,a⟩)
   ·obtain⟨r,P,o⟩:=Azt p hi s
    have O:=d.len;unfold Mu;simp only;rw[Ce (by unfold ln;omega),P,bd_ret,Av Aa Aa];rcases o with ⟨o,q⟩ | ⟨o,q⟩
    ·rw[o,br_true,Au (AL32 (by rw[B2,Lf];omega))]
     refine⟨_,rfl,fun e=>?_,by rw[B2,Lf];omega⟩;rw[Fw,Gx,d.mem];constructor
     ·rintro((h | ⟨f,b,a⟩) | rfl)
      ·exact .inl h
      ·exact .inr ⟨f,Aa,a⟩
      ·exact .inr ⟨i,Aa,q⟩
     ·rintro(h | ⟨f,b,a⟩)
      ·exact .inl (.inl h)
      ·by_cases c:f=i
       ·subst c;exact .inr (a.one q)
       ·exact .inl (.inr ⟨f,Aa,a⟩)
    ·rw[o,br_false,Av Aa Aa]
     refine⟨w,rfl,fun e=>?_,Aa⟩;rw[d.mem];constructor
     ·rintro(h | ⟨f,b,a⟩)
      ·exact .inl h
      ·exact .inr ⟨f,Aa,a⟩
     ·rintro(h | ⟨f,b,a⟩)
      ·exact .inl h
      ·by_cases c:f=i
       ·subst c;exact absurd a (q e)
       ·exact .inr ⟨f,Aa,a⟩
  ·have O:=d.len
   have M:=(Abh p s (Dt hi)).st Aa;unfold Mv;simp only;rw[Ce (by unfold ln;omega),A7 Aa (by unfold ln;omega),A7 M.1 (by unfold ln;omega),Nu,bd_ret,Au (AL32 (by rw[B2,Lf];omega)),Av Aa Aa];refine⟨_,rfl,fun e=>?_,by rw[B2,Lf];omega⟩;rw[Fw,Gx,d.mem];constructor
   ·rintro((h | ⟨j,b,a⟩) | rfl)
    ·exact .inl h
    ·exact .inr ⟨j,Aa,a⟩
    ·exact .inr ⟨i,Aa,rfl⟩
   ·rintro(h | ⟨j,b,a⟩)
    ·exact .inl (.inl h)
    ·by_cases c:j=i
     ·subst c;exact .inr a
     ·exact .inl (.inr ⟨j,Aa,a⟩)
theorem Sh {l:Lp} (c:LoopOk l) (i:l.Fine) {t:Tgt} (j:C4 t=true):∃ E,Fa l t=some (E,0)∧Aan l t=some E∧Lx E∧(∀ e,e∈E↔EdgeP l t e)∧E.length≤60000:=by
 obtain⟨E,d,a,b⟩:=A3g c i j;obtain⟨F,f,g,h,f4⟩:=Azh c t
 have:E=F:=Ahm a g fun e=>by rw[b,h]
 subst this;exact⟨E,d,f,a,b,f4⟩
theorem Awn {l:Lp} (b:l.Fine) {t:Tgt} (h:¬(LoopOk l∧C4 t=true)):Fa l t=some ([],2):=by
 unfold Fa;rw[Afu l b,bd_ret,Jd];by_cases a:LoopOk l
 ·have:C4 t=Ay:=by
   cases c:C4 t with
   | true=>exact absurd ⟨a,c⟩ h
   | false=>rfl
  rw[Dm a,this];rfl
 ·rw[Cw a];rfl
noncomputable def Jr (l:Lp) (t:Tgt) (p:Pln):((List ((Int×Int)×Int))×Int)→Option (Stp ((List ((Int×Int)×Int))×Int) (Bool)):=fun (c,a) =>
 br (Ao (a<(ln p.times))) (
 ck (IX a (ln p.times)) <|
 br ((Ao ((ele p.times a)<0)) || (Ao ((ele p.times a)>1000))) (
 some (.ret Ay)) (
 ck (p.pace≠0) <|
 ck (IX a (ln l.body)) <|
 bd (E8 ((ele l.body a).op)) fun b =>
 ck (IR ((Fp c ((Int.tmod (ele p.times a) p.pace),b) 0)+1)) <|
 ck (IX b 3) <|
 br (Ao ((Fp (N4 c ((Int.tmod (ele p.times a) p.pace),b) ((Fp c ((Int.tmod (ele p.times a) p.pace),b) 0)+1)) ((Int.tmod (ele p.times a) p.pace),b) 0)>(Cq t.u0 t.u1 t.u2 b))) (
 some (.ret Ay)) (
 ck (IR (a+1)) <|
 some (.next ((N4 c ((Int.tmod (ele p.times a) p.pace),b) ((Fp c ((Int.tmod (ele p.times a) p.pace),b) 0)+1)),(a+1)))))) (
 some (.brk (c,a)))
noncomputable def Jq (p:Pln) (b:List Edg):Int→Option (Stp (Int) (Bool)):=fun a =>
 br (Ao (a<(ln b))) (
 ck (IX a (ln b)) <|
 ck (IX ((ele b a).tO) (ln p.times)) <|
 ck (IR ((ele b a).bk * p.pace)) <|
 ck (IR ((ele p.times ((ele b a).tO))+((ele b a).bk * p.pace))) <|
 ck (IX ((ele b a).fr) (ln p.times)) <|
 ck (IR ((ele p.times ((ele b a).fr))+(ele b a).wt)) <|
 br (Ao (((ele p.times ((ele b a).tO))+((ele b a).bk * p.pace))<((ele p.times ((ele b a).fr))+(ele b a).wt))) (
 some (.ret Ay)) (
 ck (IR (a+1)) <|
 some (.next (a+1)))) (
 some (.brk a))
noncomputable def Kk (l:Lp) (t:Tgt) (p:Pln) (a:List Edg):Option (Bool) :=
 bd (lp (Jr l t p) (([]:List ((Int×Int)×Int)),0)) fun c=>c.on (fun (d,e) =>
 bd (lp (Jq p a) 0) fun b=>b.on (fun f =>
 some true) (fun r=>some r)) (fun r=>some r)
noncomputable def K3 (l:Lp) (t:Tgt) (p:Pln):Option (Bool) :=
 bd (Fa l t) fun a =>
 bdG ((((a.2==0)&&(Ao (p.pace≥1)))&&(Ao (p.pace≤200)))&&((ln p.times)==(ln l.body))) (Kk l t p a.1) fun b =>
 some (((((a.2==0)&&(Ao (p.pace≥1)))&&(Ao (p.pace≤200)))&&((ln p.times)==(ln l.body)))&&b)
def Hj (l:Lp) (p:Pln) (i:Nat):Int×Int:=(Int.tmod (ele p.times (i:Int)) p.pace,Ka (ele l.body (i:Int)).op)
def Ni (l:Lp) (p:Pln) (k:Nat) (κ:Int×Int):Nat:=(List.range k).countP fun j=>Ao (Hj l p j=κ)
def Fv (t:Tgt) (c:Int):Int:=Cq t.u0 t.u1 t.u2 c
theorem Kz (l:Lp) (p:Pln) (k:Nat) (κ:Int×Int):Ni l p (k+1) κ=Ni l p k κ+if Hj l p k=κ then 1 else 0:=by
 unfold Ni;rw[Uy,Ak1,Aqo];by_cases h:Hj l p k=κ <;> simp[h]
theorem Av4 (l : Lp) (p : Pln) {κ : Int × Int} {i j : Nat} (h : i ≤ j) : Ni l p i κ ≤ Ni l p j κ := by
  induction j with
  | zero => have : i = 0 := by omega
            subst this; exact Cf _
  | succ j a =>
    by_cases e : i = j + 1
    · subst e; exact Cf _
    · rw[Kz]; have := a Aa; omega
theorem Amp (l:Lp) (p:Pln) (κ:Int×Int):∀ k,Ni l p k κ≤k
 | 0=>Cf _
 | k+1=>by rw[Kz];have:=Amp l p κ k;split <;> omega
theorem Tz {t:Tgt} (a:C4 t=true) (c:Int):1≤Fv t c∧Fv t c≤4:=by
 rw[Fq] at a;exact Ae2 ⟨a.1.1,a.1.2.1⟩ ⟨a.2.1.1,a.2.1.2.1⟩ ⟨a.2.2.1.1,a.2.2.1.2.1⟩
theorem At1 {l:Lp}{p:Pln}{t:Tgt} (b:C4 t=true) {n:Nat}:(∀ k,k<n→(Ni l p (k+1) (Hj l p k):Int)≤Fv t (Hj l p k).2)↔(∀ i,i<n→(Ni l p n (Hj l p i):Int)≤Fv t (Hj l p i).2):=by
 constructor
 ·intro h
  have key:∀ k,k≤n→∀ κ,(Ni l p k κ:Int)≤Fv t κ.2:=by
   intro k
   induction k with
   | zero=>intro _ κ;have:=(Tz b κ.2).1;show ((0:Nat):Int)≤_;omega
   | succ k c =>
    intro a κ;by_cases e:Hj l p k=κ
    ·have:=h k Aa;rw[e] at this;exact this
    ·rw[Kz,Bb e];exact c Aa κ
  exact fun i _=>key n (Cf _) _
 ·intro h k a
  have:=h k a;have:=Av4 l p (κ:=Hj l p k) (show k+1≤n from a);omega
def Wt (p:Pln) (i:Nat):Prop:=0≤ele p.times (i:Int)∧ele p.times (i:Int)≤1000
def Aec (p:Pln) (e:Edg):Prop:=ele p.times e.fr+e.wt≤ele p.times e.tO+e.bk * p.pace
structure LegalP (l:Lp) (t:Tgt) (p:Pln):Prop where
 loop:LoopOk l
 tgt:C4 t=true
 pace:1≤p.pace∧p.pace≤200
 len:p.times.length=l.body.length
 rng:∀ i,i<l.body.length→Wt p i
 units:∀ i,i<l.body.length→(Ni l p l.body.length (Hj l p i):Int)≤Fv t (Hj l p i).2
 edge:∀ e,EdgeP l t e→Aec p e
def Aur (l:Lp) (t:Tgt) (p:Pln):Prop:=((∀ i,i<l.body.length→Wt p i)∧(∀ i,i<l.body.length→(Ni l p l.body.length (Hj l p i):Int)≤Fv t (Hj l p i).2))∧∀ e,EdgeP l t e→Aec p e
theorem Asa {l:Lp}{p:Pln} (j:LoopOk l) (n:1≤p.pace∧p.pace≤200) (m:p.times.length=l.body.length) (f:∀ i,i<l.body.length→Wt p i) {t:Tgt}{e:Edg} (h:EdgeP l t e) :
  IX e.tO (ln p.times)∧IX e.fr (ln p.times)∧(0≤e.bk * p.pace∧e.bk * p.pace≤6400)∧(0≤ele p.times e.tO∧ele p.times e.tO≤1000)∧(0≤ele p.times e.fr∧ele p.times e.fr≤1000)∧(0≤e.wt∧e.wt≤6):=by
 obtain⟨g,a2,a3,a4,_⟩:=h.in j;have o:=R4 (a:=e.bk) (A:=32) (b:=p.pace) (B:=200) Aa Aa Aa Aa;have k:0≤e.bk * p.pace:=Afz a3.1 Aa;have c:=f e.tO.toNat Aa;have d:=f e.fr.toNat Aa;unfold Wt at c d;rw[show ((e.tO.toNat:Nat):Int)=e.tO from Aa] at c;rw[show ((e.fr.toNat:Nat):Int)=e.fr from Aa] at d;exact⟨⟨a2.1,by unfold ln;omega⟩,⟨g.1,by unfold ln;omega⟩,⟨k,Aa⟩,c,d,a4⟩
theorem Adq {l:Lp}{t:Tgt}{E:List Edg} (a:∀ e,e∈E↔EdgeP l t e) {q:Edg→Prop}:(∀ i:Nat,i<E.length→q (ele E (i:Int)))↔∀ e,EdgeP l t e→q e:=by
 constructor
 ·intro h e b
  obtain⟨i,hi,rfl⟩:=Qa ((a e).2 b);exact h i hi
 ·exact fun h i hi=>h _ ((a _).1 (Dt hi))
theorem Aye {l:Lp}{t:Tgt}{p:Pln} (r:LoopOk l) (w:C4 t=true) (C:1≤p.pace∧p.pace≤200) (A:p.times.length=l.body.length) {E:List Edg} (o:∀ e,e∈E↔EdgeP l t e) (H:E.length≤60000):Kk l t p E=some (tb (Aur l t p)):=by
 have J:=r.2.2.1;unfold Kk
 rcases Alk (f:=Jr l t p) (n:=p.times.length) (r0:=Ay) (fun i=>Wt p i∧(Ni l p (i+1) (Hj l p i):Int)≤Fv t (Hj l p i).2) (fun k m=>∀ κ,Fp m κ 0=(Ni l p k κ:Int)) (fun i m hi s=>by
   have q:=Ki (ele l.body (i:Int)).op;have I:=Amp l p (Hj l p i) i;have u:Fp m (Hj l p i) 0=(Ni l p i (Hj l p i):Int):=s _;have z:Hj l p i=(Int.tmod (ele p.times (i:Int)) p.pace,Ka (ele l.body (i:Int)).op):=rfl
   have B:Fp (N4 m (Hj l p i) (Fp m (Hj l p i) 0+1)) (Hj l p i) 0=(Ni l p (i+1) (Hj l p i):Int):=by rw[Ol,Bg rfl,u,Kz,Bg rfl];rfl
   have e:Jr l t p (m,(i:Int))=br (!tb (Wt p i)) (some (.ret Ay)) (br (Ao ((Ni l p (i+1) (Hj l p i):Int)>Fv t (Hj l p i).2)) (some (.ret Ay)) (some (.next (N4 m (Hj l p i) (Fp m (Hj l p i) 0+1),(i:Int)+1)))):=by
    unfold Jr;simp only;rw[Ce (by unfold ln;omega),A7 Aa (by unfold ln;omega)]
    have x:(Ao (ele p.times (i:Int)<0) || Ao (ele p.times (i:Int)>1000))=!tb (Wt p i):=by
     have:(!(Ao (ele p.times (i:Int)<0) || Ao (ele p.times (i:Int)>1000)))=tb (Wt p i):=Ls (by unfold Wt;simp);rw[←this,Acn]
    rw[x,Au Aa,A7 Aa (by unfold ln;omega),Ov,bd_ret,←z,Av Aa Aa,A7 q.1 q.2,B,Av Aa Aa];rfl
   rw[e];by_cases a:Wt p i
   ·rw[Dm a,F0,br_false]
    by_cases b:(Ni l p (i+1) (Hj l p i):Int)>Fv t (Hj l p i).2
    ·rw[Ce b];exact .inr ⟨fun h=>Aa,rfl⟩
    ·rw[Ch b]
     refine .inl ⟨⟨a,Aa⟩,_,rfl,fun κ=>?_⟩;rw[Ol,Kz];by_cases c:Hj l p i=κ
     ·rw[Bg c,Bg c,u,c];rfl
     ·rw[Bb c,Bb c,s];rfl
   ·rw[Cw a];exact .inr ⟨fun h=>a h.1,rfl⟩) (fun g=>by unfold Jr;exact Ch (by unfold ln;omega)) [] (fun κ=>rfl) with ⟨a,m,d,_⟩ | ⟨a,d⟩
 ·rw[d,bd_ret,Out.on_go]
  simp only;have v:∀ i,i<l.body.length→Wt p i:=fun i hi=>(a i Aa).1;have y:=(At1 (l:=l) (p:=p) w (n:=l.body.length)).1 fun i hi=>(a i Aa).2
  rcases U4 (f:=Jq p E) (n:=E.length) (p:=fun i=>Aec p (ele E (i:Int))) (fun i hi _=>by
    obtain⟨F,G,K,L,x5,M⟩:=Asa r C A v ((o _).1 (Dt hi))
    have e:Jq p E i=br (!tb (Aec p (ele E (i:Int)))) (some (.ret Ay)) (some (.next ((i:Int)+1))):=by
     unfold Jq;rw[Ce (by unfold ln;omega),A7 Aa (by unfold ln;omega),Au F,Av Aa Aa,Av Aa Aa,Au G,Av Aa Aa,Av Aa Aa];congr 1;have:(!Ao (ele p.times (ele E (i:Int)).tO+(ele E (i:Int)).bk * p.pace<ele p.times (ele E (i:Int)).fr+(ele E (i:Int)).wt))=tb (Aec p (ele E (i:Int))):=Ls (by unfold Aec;simp);rw[←this,Acn]
    rw[e]
    exact⟨fun h=>by rw[Dm h];rfl,fun h=>by rw[Cw h];rfl⟩) (by unfold Jq;exact Ch (by unfold ln;omega)) with ⟨b,j⟩ | ⟨b,j⟩
  ·rw[j,bd_ret,Out.on_go,Dm ⟨⟨v,y⟩,(Adq o).1 b⟩]
  ·rw[j,bd_ret,Out.on_ret,Cw fun h=>b ((Adq o).2 h.2)]
 ·rw[d,bd_ret,Out.on_ret,Cw fun h=>a fun i hi=>⟨h.1.1 i Aa,(At1 w).2 h.1.2 i Aa⟩]
theorem Adj {l:Lp}{t:Tgt}{p:Pln}:LegalP l t p↔(LoopOk l∧C4 t=true)∧(1≤p.pace∧p.pace≤200)∧p.times.length=l.body.length∧Aur l t p :=
 ⟨fun h=>⟨⟨h.loop,h.tgt⟩,h.pace,h.len,⟨h.rng,h.units⟩,h.edge⟩,fun ⟨b,c,d,a⟩=>⟨b.1,b.2,c,d,a.1.1,a.1.2,a.2⟩⟩
theorem Auf {l:Lp} (d:l.Fine) (t:Tgt) (p:Pln):K3 l t p=some (tb (LegalP l t p)):=by
 unfold K3;by_cases h:LoopOk l∧C4 t=true
 ·obtain⟨E,f,j,k,g,i⟩:=Sh h.1 d h.2
  rw[f,bd_ret];simp only;by_cases b:(1≤p.pace∧p.pace≤200)∧p.times.length=l.body.length
  ·have c:((((0:Int)==0)&&(Ao (p.pace≥1)))&&(Ao (p.pace≤200))&&((ln p.times)==(ln l.body)))=true:=by
    unfold ln;simp only[E0,H4,C8];exact⟨⟨⟨trivial,Aa⟩,Aa⟩,Aa⟩
   rw[c,Aye h.1 h.2 b.1 b.2 g i,bdG_t,bd_ret,Q0];congr 1;exact Hh ⟨fun a=>Adj.2 ⟨h,b.1,b.2,a⟩,fun a=>(Adj.1 a).2.2.2⟩
  ·have c:((((0:Int)==0)&&(Ao (p.pace≥1)))&&(Ao (p.pace≤200))&&((ln p.times)==(ln l.body)))=Ay:=by
    cases e:((((0:Int)==0)&&(Ao (p.pace≥1)))&&(Ao (p.pace≤200))&&((ln p.times)==(ln l.body))) with
    | false=>rfl
    | true =>
     unfold ln at e;simp only[E0,H4,C8] at e;exact absurd ⟨⟨Aa,Aa⟩,Aa⟩ b
   rw[c,bdG_f,Acs,Cw fun a=>b ⟨a.pace,a.len⟩]
 ·rw[Awn d h,bd_ret,Cw fun a=>h ⟨a.loop,a.tgt⟩]
  rfl
noncomputable def Ja (a b:Int):Option (Int) :=
 ck (b≠0) <|
 ck (IR ((Int.tmod a b)+b)) <|
 ck (b≠0) <|
 some (Int.tmod ((Int.tmod a b)+b) b)
noncomputable def Mt (t:Tgt) (b:List Int):Int→Option (Stp (Int) (Krn×Int)):=fun a =>
 br (Ao (a<(ln b))) (
 ck (IX a (ln b)) <|
 br ((Ao ((ele b a)<0)) || (Ao ((ele b a)≥t.regs))) (
 some (.ret ((Krn.mk 0 0 []),2))) (
 ck (IR (a+1)) <|
 some (.next (a+1)))) (
 some (.brk a))
noncomputable def Jg (t:Tgt) (p:Pln) (d:List Int) (b:List Rf):((List Int)×Int)→Option (Stp ((List Int)×Int) (Empty)):=fun (c,a) =>
 br (Ao (a<(ln b))) (
 ck (IX a (ln b)) <|
 ck (IX ((ele b a).st) (ln d)) <|
 ck (IX ((ele b a).st) (ln p.times)) <|
 ck (p.pace≠0) <|
 ck (IR (Int.tdiv (ele p.times ((ele b a).st)) p.pace)) <|
 ck (IR ((ele d ((ele b a).st))+(Int.tdiv (ele p.times ((ele b a).st)) p.pace))) <|
 ck (IR (((ele d ((ele b a).st))+(Int.tdiv (ele p.times ((ele b a).st)) p.pace)) - (ele b a).bk)) <|
 ck (IX 1 (ln c)) <|
 ck (IR ((((ele d ((ele b a).st))+(Int.tdiv (ele p.times ((ele b a).st)) p.pace)) - (ele b a).bk) - (ele c 1))) <|
 bd (Ja ((((ele d ((ele b a).st))+(Int.tdiv (ele p.times ((ele b a).st)) p.pace)) - (ele b a).bk) - (ele c 1)) t.regs) fun e =>
 ck (IX a 2) <|
 ck (IX (4+a) (ln c)) <|
 ck (IR (a+1)) <|
 some (.next ((upd c (4+a) e),(a+1)))) (
 some (.brk (c,a)))
noncomputable def Jh (l:Lp) (t:Tgt) (p:Pln) (c:List Int):((List Opr)×Int×Int)→Option (Stp ((List Opr)×Int×Int) (Empty)):=fun (d,e,a) =>
 br (Ao (a<(ln l.body))) (
 ck (IX a (ln l.body)) <|
 ck (IX a (ln p.times)) <|
 ck (p.pace≠0) <|
 ck (IX a (ln p.times)) <|
 ck (p.pace≠0) <|
 ck (IR (Int.tdiv (ele p.times a) p.pace)) <|
 ck (IX a (ln c)) <|
 bd (E9 (ele l.body a)) fun g =>
 bd (lp (Jg t p c g) (([(Int.tmod (ele p.times a) p.pace),(Int.tdiv (ele p.times a) p.pace),(ele l.body a).op,(ele c a),0,0,(ele l.body a).ar,(ele l.body a).sp,(ele l.body a).pl,(ele l.body a).n]:List Int),0)) fun f=>f.on (fun (b,h) =>
 ck (b.length=10) <|
 ck (AL (d++[(Zj b)]).length 80) <|
 ck (IX 1 (ln b)) <|
 ck (IR ((ele b 1)+1)) <|
 ck (IR (a+1)) <|
 some (.next ((d++[(Zj b)]),(max e ((ele b 1)+1)),(a+1)))) (fun r=>r.elim)) (
 some (.brk (d,e,a)))
noncomputable def Qo (l:Lp) (t:Tgt) (p:Pln) (a:List Int):Option (Krn×Int) :=
 bd (K3 l t p) fun x5 =>
 br ((!x5) || ((ln a) != (ln l.body))) (
 some ((Krn.mk 0 0 []),2)) (
 bd (lp (Mt t a) 0) fun c=>c.on (fun f =>
 bd (lp (Jh l t p a) ([],0,0)) fun d=>d.on (fun (e,b,g) =>
 some ((Krn.mk p.pace b e),0)) (fun r=>r.elim)) (fun r=>some r))
def Fj (p:Pln) (i:Int):Int:=Int.tdiv (ele p.times i) p.pace
def Akg (t:Tgt) (p:Pln) (a:List Int) (i:Int) (r:Rf):Int:=(ele a r.st+Fj p r.st - r.bk - Fj p i) % t.regs
def abV (t:Tgt) (p:Pln) (c:List Int) (i:Int) (us:List Rf):Int×Int:=match us with | []=>(0,0) | [a]=>(Akg t p c i a,0) | a::b::_=>(Akg t p c i a,Akg t p c i b)
def Ane (l:Lp) (t:Tgt) (p:Pln) (a:List Int) (i:Int) (us:List Rf):Opr :=
 ⟨Int.tmod (ele p.times i) p.pace,Fj p i,(ele l.body i).op,ele a i,(abV t p a i us).1,(abV t p a i us).2,(ele l.body i).ar,(ele l.body i).sp,(ele l.body i).pl,(ele l.body i).n⟩
def O5 (p:Pln):Nat→Int
 | 0=>0
 | i+1=>max (O5 p i) (Fj p i+1)
def Adb (t:Tgt) (a:List Int) (i:Nat):Prop:=0≤ele a (i:Int)∧ele a (i:Int)<t.regs
def Ap7 (l:Lp) (t:Tgt) (p:Pln) (a:List Int):Krn:=⟨p.pace,O5 p l.body.length,(List.range l.body.length).map fun i:Nat=>Ane l t p a i (Bk (ele l.body (i:Int)))⟩
def Abg (l:Lp) (t:Tgt) (p:Pln) (a:List Int):Prop:=LegalP l t p∧a.length=l.body.length∧∀ i,i<l.body.length→Adb t a i
theorem Aab {p:Pln}{i:Nat} (d:1≤p.pace∧p.pace≤200) (c:Wt p i):0≤Fj p i∧Fj p i≤1000:=by
 unfold Fj;obtain⟨a,b⟩:=c;rw[Afj a];exact⟨Af2 a Aa,W8 (Af5 _ a) b⟩
theorem Abn {a b:Int} (d:1≤b) (c:b≤128):Ja a b=some (a % b):=by
 have e:=T0 a (show 0<b from Aa);unfold Ja;rw[Au Aa,Av Aa Aa,Au Aa];congr 1;rw[Ais Aa,Aqi];have h:=Ak7 a b;rw[show Int.tmod a b=a - b * Int.tdiv a b from Aa,Alc]
theorem A1l {l:Lp}{t:Tgt}{p:Pln}{a:List Int} (h:Abg l t p a) {i:Nat} (hi:i<l.body.length) {r:Rf} (j:r∈Bk (ele l.body (i:Int))) :
  (0≤r.st∧r.st<l.body.length)∧(0≤r.bk∧r.bk≤3)∧(0≤Fj p r.st∧Fj p r.st≤1000)∧(0≤Fj p i∧Fj p i≤1000)∧(0≤ele a r.st∧ele a r.st<128)∧(1≤t.regs∧t.regs≤128):=by
 have b:=Abh h.1.loop hi j;have e:=b.st Aa;obtain⟨k,g⟩:=H6 e.1;have c:k<l.body.length:=Aa;have d:=h.1.tgt;rw[Fq] at d;have f:=h.2.2 k c;rw[g];unfold Adb at f;exact⟨Aa,⟨b.1,b.2.1⟩,Aab h.1.pace (h.1.rng k c),Aab h.1.pace (h.1.rng i hi),Aa,d.2.2.2⟩
theorem A2w {l:Lp}{t:Tgt}{p:Pln}{a:List Int} (h:Abg l t p a) {i:Nat} (hi:i<l.body.length) {us:List Rf} (e:∀ r∈us,r∈Bk (ele l.body (i:Int))) {j:Nat} (d:j<us.length) (k:j<2) {b:List Int} (f:b.length=10) (c:ele b 1=Fj p i) :
  Jg t p a us (b,(j:Int))=some (.next (upd b (4+(j:Int)) (Akg t p a i (ele us (j:Int))),(j:Int)+1)):=by
 obtain⟨o,q,s,u,v,w⟩:=A1l h hi (e _ (Dt d));have m:=h.1.len;have g:=h.2.1;have n:=h.1.pace;unfold Jg;simp only;unfold Akg;unfold Fj at *
 rw[Ce (by unfold ln;omega),A7 Aa (by unfold ln;omega),A7 Aa (by unfold ln;omega),A7 Aa (by unfold ln;omega),Au Aa,Av Aa Aa,Av Aa Aa,Av Aa Aa,A7 Aa (by unfold ln;omega),c,Av Aa Aa,Abn Aa Aa,bd_ret,
  A7 Aa Aa,A7 Aa (by unfold ln;omega),Av Aa Aa]
theorem Ar9 {l:Lp}{t:Tgt}{p:Pln}{d:List Int} (h:Abg l t p d) {i:Nat} (hi:i<l.body.length) {c1 c2 c3 c4 c5 c6 c7:Int} :
  ∃ b,lp (Jg t p d (Bk (ele l.body (i:Int)))) ([c1,Fj p i,c2,c3,0,0,c4,c5,c6,c7],0)=some (.go (b,((Bk (ele l.body (i:Int))).length:Int)))∧b=[c1,Fj p i,c2,c3,(abV t p d i (Bk (ele l.body (i:Int)))).1,(abV t p d i (Bk (ele l.body (i:Int)))).2,c4,c5,c6,c7]:=by
 have o:=Oj (ele l.body (i:Int));have f:=fun {j:Nat} m n {b:List Int} g k=>A2w h hi (us:=Bk (ele l.body (i:Int))) (fun r q=>q) (j:=j) m n (b:=b) g k;generalize Bk (ele l.body (i:Int))=us at *
 have e:∀ b:List Int,Jg t p d us (b,(us.length:Int))=some (.brk (b,(us.length:Int))):=fun b=>by
  unfold Jg;exact Ch (by unfold ln;omega)
 match us,o with
 | [],_=>exact⟨_,C2 (e _),rfl⟩
 | [a],_ =>
  refine⟨_,Bz (f (j:=0) Ba Aa rfl rfl) (C2 (e _)),rfl⟩
 | [a,c],_ =>
  refine⟨_,Bz (f (j:=0) Ba Aa rfl rfl) (Bz (f (j:=1) Ba Aa rfl rfl) (C2 (e _))),rfl⟩
theorem Av0 {l:Lp}{t:Tgt}{p:Pln}{a:List Int} (h:Abg l t p a):lp (Jh l t p a) ([],0,0)=some (.go ((Ap7 l t p a).ops,(Ap7 l t p a).stages,(l.body.length:Int))):=by
 have q:=h.1.len;have o:=h.2.1;have m:=h.1.pace;have r:=h.1.loop.2.2.1;refine Gy (f:=Jh l t p a) (fun i=>((List.range i).map fun i:Nat=>Ane l t p a i (Bk (ele l.body (i:Int))),O5 p i,(i:Int))) l.body.length (fun i hi=>?_) (by unfold Jh;exact Ch (by unfold ln;omega));have hs:=Aab m (h.1.rng i hi);obtain⟨b,c,d⟩:=Ar9 h hi (c1:=Int.tmod (ele p.times (i:Int)) p.pace) (c2:=(ele l.body (i:Int)).op) (c3:=ele a (i:Int)) (c4:=(ele l.body (i:Int)).ar) (c5:=(ele l.body (i:Int)).sp) (c6:=(ele l.body (i:Int)).pl) (c7:=(ele l.body (i:Int)).n);have e:Int.tdiv (ele p.times (i:Int)) p.pace=Fj p i:=rfl;unfold Jh;simp only;rw[Ce (by unfold ln;omega),A7 Aa (by unfold ln;omega),A7 Aa (by unfold ln;omega),Au Aa,A7 Aa (by unfold ln;omega),Au Aa,e,Av Aa Aa,A7 Aa (by unfold ln;omega),Aai,bd_ret,c,bd_ret,Out.on_go,d];simp only;rw[Au (by rfl)];have j:Zj [Int.tmod (ele p.times (i:Int)) p.pace,Fj p i,(ele l.body (i:Int)).op,ele a (i:Int),(abV t p a i (Bk (ele l.body (i:Int)))).1,(abV t p a i (Bk (ele l.body (i:Int)))).2,(ele l.body (i:Int)).ar,(ele l.body (i:Int)).sp,(ele l.body (i:Int)).pl,(ele l.body (i:Int)).n]=Ane l t p a i (Bk (ele l.body (i:Int))):=rfl;rw[j,Au (AL80 (by simp;omega)),A7 Aa (by unfold ln;simp)];have k:ele [Int.tmod (ele p.times (i:Int)) p.pace,Fj p i,(ele l.body (i:Int)).op,ele a (i:Int),(abV t p a i (Bk (ele l.body (i:Int)))).1,(abV t p a i (Bk (ele l.body (i:Int)))).2,(ele l.body (i:Int)).ar,(ele l.body (i:Int)).sp,(ele l.body (i:Int)).pl,(ele l.body (i:Int)).n] 1=Fj p i:=rfl;rw[k,Av Aa Aa,Av Aa Aa,rm_succ (g:=fun i:Nat=>Ane l t p a i (Bk (ele l.body (i:Int))))];rfl
theorem A6f {l:Lp} (k:l.Fine) (t:Tgt) (p:Pln) {a:List Int} (m:a.length≤9223372036854775807):Qo l t p a=some (if tb (Abg l t p a)=true then (Ap7 l t p a,0) else (⟨0,0,[]⟩,2)):=by
 unfold Qo;rw[Auf k,bd_ret];by_cases b:LegalP l t p∧a.length=l.body.length
 ·rw[Dm b.1,show ((!true) || ((ln a) != (ln l.body)))=Ay from by unfold ln;simp[b.2],br_false]
  have n:=b.1.loop.2.2.1
  rcases Ll (f:=Mt t a) (fun i=>(i:Int)) a.length (Adb t a) (fun _=>((Krn.mk 0 0 []),2)) (fun i hi _=>by
    unfold Mt Adb;rw[Ce (by unfold ln;omega),A7 Aa (by unfold ln;omega)];constructor
    ·intro h
     rw[show (Ao (ele a (i:Int)<0) || Ao (ele a (i:Int)≥t.regs))=Ay from by simp;omega,br_false,Av Aa Aa];rfl
    ·intro h
     rw[show (Ao (ele a (i:Int)<0) || Ao (ele a (i:Int)≥t.regs))=true from by simp;omega,br_true]) (by unfold Mt;exact Ch (by unfold ln;omega)) with ⟨d,e⟩ | ⟨i,d,g,_,e⟩
  ·have c:Abg l t p a:=⟨b.1,b.2,fun i hi=>d i Aa⟩
   rw[show (0:Int)=((0:Nat):Int) from rfl,e,bd_ret,Out.on_go];have:=Av0 c;rw[show lp (Jh l t p a) ([],((0:Nat):Int),((0:Nat):Int))=_ from this,bd_ret,Out.on_go,Dm c];rfl
  ·rw[show (0:Int)=((0:Nat):Int) from rfl,e,bd_ret,Out.on_ret,Cw fun c:Abg l t p a=>g (c.2.2 i Aa)]
   rfl
 ·have j:((!tb (LegalP l t p)) || ((ln a) != (ln l.body)))=true:=by
   by_cases h:LegalP l t p
   ·have:¬a.length=l.body.length:=fun e=>b ⟨h,e⟩
    rw[Dm h];unfold ln;simp;omega
   ·rw[Cw h];rfl
  rw[j,br_true,Cw fun c:Abg l t p a=>b ⟨c.1,c.2.1⟩];rfl
theorem Al1 {α:Type}{v:List α}{i:Int}{x:α}:(upd v i x).length=v.length:=List.length_set
theorem Amh {l:Lp}{t:Tgt}{p:Pln}{a:List Int}:(Ap7 l t p a).ops.length=l.body.length:=by unfold Ap7;simp
noncomputable def L5 (a:Int) (c:List Rf):(Int×Int)→Option (Stp (Int×Int) (Empty)):=fun (d,b) =>
 br (Ao (b<(ln c))) (
 ck (IX b (ln c)) <|
 br ((ele c b).st==a) (
 ck (IR (b+1)) <|
 some (.next ((max d ((ele c b).bk)),(b+1)))) (
 ck (IR (b+1)) <|
 some (.next (d,(b+1))))) (
 some (.brk (d,b)))
noncomputable def L6 (l:Lp) (a:Int):(Int×Int)→Option (Stp (Int×Int) (Empty)):=fun (d,c) =>
 br (Ao (c<(ln l.body))) (
 ck (IX c (ln l.body)) <|
 bd (E9 (Stm.mk ((ele l.body c).op) ((ele l.body c).a) ((ele l.body c).b) ((ele l.body c).ar) ((ele l.body c).sp) ((ele l.body c).pl) ((ele l.body c).n))) fun g =>
 bd (lp (L5 a g) (d,0)) fun f=>f.on (fun (e,h) =>
 ck (IR (c+1)) <|
 some (.next (e,(c+1)))) (fun r=>r.elim)) (
 some (.brk (d,c)))
noncomputable def P3 (l:Lp) (a:Int):Option (Int) :=
 bd (lp (L6 l a) (0,0)) fun c=>c.on (fun (b,d) =>
 some b) (fun r=>r.elim)
noncomputable def Hw (s:List Int) (v:Int):Int→Option (Stp (Int) (Int)):=fun a =>
 br (Ao (a<(ln s))) (
 ck (IX a (ln s)) <|
 br (v==(ele s a)) (
 some (.ret a)) (
 ck (IR (a+1)) <|
 some (.next (a+1)))) (
 some (.brk a))
noncomputable def N3 (s:List Int) (v:Int):Option (Int) :=
 bd (lp (Hw s v) 0) fun a=>a.on (fun b =>
 some (-1)) (fun r=>some r)
noncomputable def It (s:List Int) (v:Int):Option (Bool) :=
 bd (N3 s v) fun a =>
 some (Ao (a≥0))
noncomputable def Oe (f:Int) (g:List Int) (a e:Int) (c:List Rf):((List Use)×Int)→Option (Stp ((List Use)×Int) (Empty)):=fun (d,b) =>
 br (Ao (b<(ln c))) (
 ck (IX b (ln c)) <|
 br ((ele c b).st==a) (
 ck (IX e (ln g)) <|
 ck (IR ((ele c b).bk * f)) <|
 ck (IR ((ele g e)+((ele c b).bk * f))) <|
 ck (AL (d++[(Use.mk ((ele g e)+((ele c b).bk * f)) (Ao ((ele c b).bk>0)))]).length 16) <|
 ck (IR (b+1)) <|
 some (.next ((d++[(Use.mk ((ele g e)+((ele c b).bk * f)) (Ao ((ele c b).bk>0)))]),(b+1)))) (
 ck (IR (b+1)) <|
 some (.next (d,(b+1))))) (
 some (.brk (d,b)))
noncomputable def P7 (d:List Stm) (i:Int) (j:List Int) (a:Int):((List Use)×Int)→Option (Stp ((List Use)×Int) (Empty)):=fun (e,c) =>
 br (Ao (c<(ln d))) (
 ck (IX c (ln d)) <|
 bd (E9 (Stm.mk ((ele d c).op) ((ele d c).a) ((ele d c).b) ((ele d c).ar) ((ele d c).sp) ((ele d c).pl) ((ele d c).n))) fun h =>
 bd (lp (Oe i j a c h) (e,0)) fun f=>f.on (fun (g,k) =>
 ck (IR (c+1)) <|
 some (.next (g,(c+1)))) (fun r=>r.elim)) (
 some (.brk (e,c)))
noncomputable def Uh (d:List Stm) (e h:Int) (f:List Int) (a:Int):Option (List Use) :=
 bd (lp (P7 d e f a) ([],0)) fun b=>b.on (fun (c,g) =>
 some c) (fun r=>r.elim)
noncomputable def Oo (f:Int) (d:List Int) (a e j:Int) (c:List Use):Int→Option (Stp (Int) (Bool)):=fun b =>
 br (Ao (b<(ln c))) (
 ck (IX b (ln c)) <|
 ck (IX a (ln d)) <|
 br (((Ao (((ele d e)+(j * f))≥(ele d a)))&&(Ao (((ele d e)+(j * f))≤(ele c b).til))) || (((ele c b).later&&(Ao (j>0)))&&(Ao (((ele d e)+(j * f))≤(ele c b).til)))) (
 some (.ret true)) (
 ck (IR (b+1)) <|
 some (.next (b+1)))) (
 some (.brk b))
noncomputable def Xt (h:List Int) (d k:Int) (b:List Int) (a c j:Int) (f:List Use):Option (Bool) :=
 ck (IX c (ln b)) <|
 ck (IR (j * d)) <|
 ck (IR ((ele b c)+(j * d))) <|
 bd (lp (Oo d b a c j f) 0) fun e=>e.on (fun i =>
 ck ((Ao (j≤0))=true→IX a (ln b)) <|
 bdG ((Ao (j≤0))&&(Ao (((ele b c)+(j * d))≥(ele b a)))) (It h a) fun g =>
 some (((Ao (j≤0))&&(Ao (((ele b c)+(j * d))≥(ele b a))))&&g)) (fun r=>some r)
noncomputable def Ox (h:List Int) (e d:Int) (i:List Int) (a c:Int) (f:List Use):Int→Option (Stp (Int) (Bool)):=fun b =>
 br (Ao (b≤((Int.tdiv 4000 e)+1))) (
 bdG ((c != a) || (b != 0)) (Xt h e d i a c b f) fun g =>
 br (((c != a) || (b != 0))&&g) (
 some (.ret Ay)) (
 ck (IR (b+d)) <|
 some (.next (b+d)))) (
 some (.brk b))
noncomputable def Lz (h:List Stm) (i:List Int) (c b:Int) (k j d:List Int) (a e:Int):Option (Bool) :=
 bd (Uh h c b k a) fun g =>
 ck (IX a (ln d)) <|
 ck (IX e (ln d)) <|
 ck (IR ((ele d a) - (ele d e))) <|
 ck (b≠0) <|
 ck (IR ((Int.tmod ((ele d a) - (ele d e)) b)+b)) <|
 ck (b≠0) <|
 ck (c≠0) <|
 ck (IR (Int.tdiv 4000 c)) <|
 ck (IR ((Int.tdiv 4000 c)+1)) <|
 ck (b≠0) <|
 ck (IR (Int.tdiv ((Int.tdiv 4000 c)+1) b)) <|
 ck (IR ((Int.tdiv ((Int.tdiv 4000 c)+1) b)+2)) <|
 ck (IR (((Int.tdiv ((Int.tdiv 4000 c)+1) b)+2) * b)) <|
 ck (IR ((Int.tmod ((Int.tmod ((ele d a) - (ele d e)) b)+b) b) - (((Int.tdiv ((Int.tdiv 4000 c)+1) b)+2) * b))) <|
 bd (lp (Ox i c b j a e g) ((Int.tmod ((Int.tmod ((ele d a) - (ele d e)) b)+b) b) - (((Int.tdiv ((Int.tdiv 4000 c)+1) b)+2) * b))) fun f=>f.on (fun l =>
 some true) (fun r=>some r)
noncomputable def Jm (a:Int) (d l:List Int) (c f:Int):((List (Int×Bool))×Int)→Option (Stp ((List (Int×Bool))×Int) (Bool)):=fun (e,b) =>
 br (Ao (b<f)) (
 ck (IX (ele l c) (ln d)) <|
 ck (IR ((ele d (ele l c)) - b)) <|
 ck (IR (((ele d (ele l c)) - b) - 1)) <|
 ck (a≠0) <|
 ck (IR ((Int.tmod (((ele d (ele l c)) - b) - 1) a)+a)) <|
 ck (a≠0) <|
 br (Fp e (Int.tmod ((Int.tmod (((ele d (ele l c)) - b) - 1) a)+a) a) Ay) (
 some (.ret Ay)) (
 ck (IR (b+1)) <|
 some (.next ((N4 e (Int.tmod ((Int.tmod (((ele d (ele l c)) - b) - 1) a)+a) a) true),(b+1))))) (
 some (.brk (e,b)))
noncomputable def Mx (g:List Int) (f:List Stm) (h:List Int) (j:Int) (i l:List Int):((List (Int×Bool))×Int)→Option (Stp ((List (Int×Bool))×Int) (Bool)):=fun (b,a) =>
 br (Ao (a<(ln l))) (
 ck (IX a (ln l)) <|
 bd (P3 (Lp.mk g f h) (ele l a)) fun e =>
 bd (lp (Jm j i l a e) (b,0)) fun d=>d.on (fun (c,k) =>
 ck (IR (a+1)) <|
 some (.next (c,(a+1)))) (fun r=>some (.ret r))) (
 some (.brk (b,a)))
noncomputable def L9 (c:List Int) (b:List Stm) (d:List Int) (i f:Int) (e l:List Int):Option (Bool) :=
 bd (lp (Mx c b d f e l) (([]:List (Int×Bool)),0)) fun a=>a.on (fun (g,h) =>
 some true) (fun r=>some r)
structure LayD where
 (logs:List Int)
 (body:List Stm)
 (outs:List Int)
 (pace regs:Int)
 (time ready places:List Int)
structure LayD.Ok (y:LayD):Prop where
 n:1≤y.body.length∧y.body.length≤16
 lt:y.time.length=y.body.length
 lr:y.ready.length=y.body.length
 lp:y.places.length=y.body.length
 lo:y.outs.length≤100000
 pace:1≤y.pace∧y.pace≤200
 regs:1≤y.regs∧y.regs≤128
 tm:∀ i:Nat,i<y.body.length→0≤ele y.time (i:Int)∧ele y.time (i:Int)≤1000
 rd:∀ i:Nat,i<y.body.length→0≤ele y.ready (i:Int)∧ele y.ready (i:Int)≤1006
 pl:∀ i:Nat,i<y.body.length→-100000≤ele y.places (i:Int)∧ele y.places (i:Int)≤100000
 us:∀ i:Nat,i<y.body.length→∀ r∈Bk (ele y.body (i:Int)),0≤r.st∧r.st<y.body.length∧0≤r.bk∧r.bk≤3
def Aki (a:Int):List Rf→Int→Int
 | [],f=>f
 | r::us,f=>Aki a us (if r.st=a then max f r.bk else f)
def Anf (body:List Stm) (a:Int):Nat→Int
 | 0=>0
 | k+1=>Aki a (Bk (ele body (k:Int))) (Anf body a k)
def Tp (body:List Stm) (a:Int):Int:=Anf body a body.length
theorem Ao0 (a:Int):∀ (u v:List Rf) (f:Int),Aki a (u++v) f=Aki a v (Aki a u f)
 | [],_,_=>rfl
 | r::u,v,f=>Ao0 a u v _
theorem Atw (a:Int):∀ (u:List Rf) (f:Int),f≤Aki a u f∧∀ r∈u,r.st=a→r.bk≤Aki a u f
 | [],f=>⟨E6 _,fun r h=>by cases h⟩
 | r::u,f=>by
  have h:=Atw a u (if r.st=a then max f r.bk else f);refine⟨W8 ?_ h.1,fun x b hs=>?_⟩
  ·split <;> omega
  ·rcases Gl.1 b with rfl | b
   ·refine W8 ?_ h.1
    rw[Bg hs];omega
   ·exact h.2 x b hs
theorem Atv (a:Int) {B:Int}:∀ (u:List Rf) (f:Int),f≤B→(∀ r∈u,r.bk≤B)→Aki a u f≤B
 | [],_,h,_=>h
 | r::u,f,h,hu=>Atv a u _ (by have:=hu r Ba;split <;> omega) fun x b=>hu x (by simp[b])
theorem Atx {body:List Stm} (b:∀ i:Nat,i<body.length→∀ r∈Bk (ele body (i:Int)),0≤r.bk∧r.bk≤3) (a:Int):∀ k,k≤body.length→0≤Anf body a k∧Anf body a k≤3
 | 0,_=>by show 0≤(0:Int)∧(0:Int)≤3;omega
 | k+1,h=>by
  have c:=Atx b a k Aa;have d:=Atw a (Bk (ele body (k:Int))) (Anf body a k);exact⟨W8 c.1 d.1,Atv a _ _ c.2 fun r e=>(b k Aa r e).2⟩
theorem A32 {l:Lp} (h:l.body.length≤16) (m:∀ i:Nat,i<l.body.length→∀ r∈Bk (ele l.body (i:Int)),0≤r.bk∧r.bk≤3) (a:Int):P3 l a=some (Tp l.body a):=by
 have X:=Gy (f:=L6 l a) (ρ:=Empty) (fun k=>(Anf l.body a k,(k:Int))) l.body.length (fun k g=>by
  have d:=Oj (ele l.body (k:Int))
  have Y:=Gy (f:=L5 a (Bk (ele l.body (k:Int)))) (ρ:=Empty) (fun j=>(Aki a ((Bk (ele l.body (k:Int))).take j) (Anf l.body a k),(j:Int))) (Bk (ele l.body (k:Int))).length (fun j c=>by
   unfold L5;simp only;rw[Ce (by unfold ln;omega),A7 Aa (by unfold ln;omega),J5 c,Ao0];by_cases e:(ele (Bk (ele l.body (k:Int))) (j:Int)).st=a
   ·rw[show ((ele (Bk (ele l.body (k:Int))) (j:Int)).st==a)=true from by simp[e],br_true,Av Aa Aa]
    show _=some (Stp.next (if _ then _ else _,_));rw[Bg e];rfl
   ·rw[show ((ele (Bk (ele l.body (k:Int))) (j:Int)).st==a)=Ay from by simp[e],br_false,Av Aa Aa]
    show _=some (Stp.next (if _ then _ else _,_))
    rw[Bb e];rfl) (by unfold L5;exact Ch (by unfold ln;omega))
  rw[Xa] at Y;unfold L6;simp only
  rw[Ce (by unfold ln;omega),A7 Aa (by unfold ln;omega),show E9 (Stm.mk ((ele l.body (k:Int)).op) ((ele l.body (k:Int)).a) ((ele l.body (k:Int)).b) ((ele l.body (k:Int)).ar) ((ele l.body (k:Int)).sp) ((ele l.body (k:Int)).pl) ((ele l.body (k:Int)).n))=some (Bk (ele l.body (k:Int))) from Aai _,bd_ret,
   show lp (L5 a (Bk (ele l.body (k:Int)))) (Anf l.body a k,0)=_ from Y,bd_ret,Out.on_go,Av Aa Aa]
  rfl) (by unfold L6;exact Ch (by unfold ln;omega))
 unfold P3;rw[show lp (L6 l a) (0,0)=_ from X,bd_ret,Out.on_go];rfl
def An0 (y:LayD) (a:Int) (k:Nat) (r:Rf) (x:Use):Prop:=r.st=a∧x=⟨ele y.time (k:Int)+r.bk * y.pace,Ao (r.bk>0)⟩
theorem A1k {y:LayD} (i:y.Ok) (a:Int) {k:Nat} (m:k<y.body.length) {g0:List Use} (s:g0.length≤1000):∃ g,lp (Oe y.pace y.time a k (Bk (ele y.body (k:Int)))) (g0,0)=some (.go (g,((Bk (ele y.body (k:Int))).length:Int)))∧((∀ x,x∈g↔x∈g0∨∃ r∈Bk (ele y.body (k:Int)),An0 y a k r x)∧g.length≤g0.length+2):=by
 have q:=Oj (ele y.body (k:Int))
 have X:=O3 (f:=Oe y.pace y.time a k (Bk (ele y.body (k:Int)))) (ρ:=Empty) (n:=(Bk (ele y.body (k:Int))).length) (fun j g=>(∀ x,x∈g↔x∈g0∨∃ r∈(Bk (ele y.body (k:Int))).take j,An0 y a k r x)∧g.length≤g0.length+j) (fun j g l o=>by
  obtain⟨d,p⟩:=o;have w:=i.us k m _ (Dt l);have v:=i.tm k m;have u:=i.pace;have z:=R4 (a:=(ele (Bk (ele y.body (k:Int))) (j:Int)).bk) (A:=3) (b:=y.pace) (B:=200) Aa Aa Aa Aa;have t:=i.lt;unfold Oe;simp only;rw[Ce (by unfold ln;omega),A7 Aa (by unfold ln;omega),J5 l];by_cases e:(ele (Bk (ele y.body (k:Int))) (j:Int)).st=a
  ·rw[show ((ele (Bk (ele y.body (k:Int))) (j:Int)).st==a)=true from by simp[e],br_true,A7 Aa (by unfold ln;omega),Av Aa Aa,Av Aa Aa,Au ⟨by show _≤9223372036854775807;simp;omega,by simp;omega⟩,Av Aa Aa]
   refine⟨_,rfl,fun x=>?_,by simp;omega⟩;rw[Fw,Gx,d];constructor
   ·rintro((h | ⟨r,h,c⟩) | h)
    ·exact .inl h
    ·exact .inr ⟨r,by simp[h],c⟩
    ·exact .inr ⟨_,Ba,e,h⟩
   ·rintro(h | ⟨r,h,c⟩)
    ·exact .inl (.inl h)
    ·rcases Fw.1 h with h | h
     ·exact .inl (.inr ⟨r,h,c⟩)
     ·rw[Gx] at h
      subst h;exact .inr c.2
  ·rw[show ((ele (Bk (ele y.body (k:Int))) (j:Int)).st==a)=Ay from by simp[e],br_false,Av Aa Aa]
   refine⟨_,rfl,fun x=>?_,Aa⟩;rw[d];constructor
   ·rintro(h | ⟨r,h,c⟩)
    ·exact .inl h
    ·exact .inr ⟨r,by simp[h],c⟩
   ·rintro(h | ⟨r,h,c⟩)
    ·exact .inl h
    ·rcases Fw.1 h with h | h
     ·exact .inr ⟨r,h,c⟩
     ·rw[Gx] at h
      subst h
      exact absurd c.1 e) (fun g=>by unfold Oe;exact Ch (by unfold ln;omega)) g0 ⟨fun x=>⟨.inl,fun h=>by
       rcases h with h | ⟨r,h,_⟩
       ·exact h
       ·simp at h⟩,Aa⟩
 obtain⟨g,e,d,p⟩:=X;rw[Xa] at d;exact⟨g,e,d,Aa⟩
theorem A41 {y:LayD} (j:y.Ok) (a:Int):∃ us,Uh y.body y.pace y.regs y.time a=some us∧(∀ x,x∈us↔∃ k,k<y.body.length∧∃ r∈Bk (ele y.body (k:Int)),An0 y a k r x)∧us.length≤32:=by
 have t:=j.n
 have X:=O3 (f:=P7 y.body y.pace y.time a) (ρ:=Empty) (n:=y.body.length) (fun i g=>(∀ x,x∈g↔∃ k,k<i∧∃ r∈Bk (ele y.body (k:Int)),An0 y a k r x)∧g.length≤2 * i) (fun i g hi p=>by
  obtain⟨d,q⟩:=p;obtain⟨g',l,m,s⟩:=A1k j a hi (g0:=g) Aa;unfold P7;simp only;rw[Ce (by unfold ln;omega),A7 Aa (by unfold ln;omega),show E9 (Stm.mk ((ele y.body (i:Int)).op) ((ele y.body (i:Int)).a) ((ele y.body (i:Int)).b) ((ele y.body (i:Int)).ar) ((ele y.body (i:Int)).sp) ((ele y.body (i:Int)).pl) ((ele y.body (i:Int)).n))=some (Bk (ele y.body (i:Int))) from Aai _,bd_ret,l,bd_ret,Out.on_go,Av Aa Aa];refine⟨_,rfl,fun x=>?_,by show g'.length≤_;omega⟩;rw[m,d];constructor
  ·rintro(⟨k,o,c⟩ | h)
   ·exact⟨k,Aa,c⟩
   ·exact⟨i,Aa,h⟩
  ·rintro⟨k,o,c⟩
   by_cases e:k=i
   ·subst e;exact .inr c
   ·exact .inl ⟨k,Aa,c⟩) (fun g=>by unfold P7;exact Ch (by unfold ln;omega)) [] ⟨fun x=>⟨fun h=>(by cases h),fun ⟨k,h,_⟩=>absurd h (Q2 _)⟩,Ba⟩
 obtain⟨g,e,d,q⟩:=X;unfold Uh;rw[e,bd_ret,Out.on_go];exact⟨g,rfl,d,Aa⟩
structure LookP (y:LayD) (a m j:Int) (k:Nat) (r:Rf):Prop where
 kn:k<y.body.length
 mem:r∈Bk (ele y.body (k:Int))
 st:r.st=a
 near:(ele y.ready a≤ele y.ready m+j * y.pace∧ele y.ready m+j * y.pace≤ele y.time (k:Int)+r.bk * y.pace)∨(0<r.bk∧0<j∧ele y.ready m+j * y.pace≤ele y.time (k:Int)+r.bk * y.pace)
def OutP (y:LayD) (a m j:Int):Prop:=j≤0∧ele y.ready a≤ele y.ready m+j * y.pace∧a∈y.outs
def Akm (y:LayD) (a m j:Int):Prop:=(∃ k r,LookP y a m j k r)∨OutP y a m j
def Oa (y:LayD) (a m:Int):Prop:=∀ j:Int,(m≠a∨j≠0)→(ele y.places m+j - ele y.places a) % y.regs=0→¬Akm y a m j
theorem Asd (s:List Int) (hs:s.length≤100000) (v:Int):It s v=some (tb (v∈s)):=by
 unfold It N3
 rcases Ll (f:=Hw s v) (fun i=>(i:Int)) s.length (fun i=>¬(v=ele s (i:Int))) (fun i=>(i:Int)) (fun i hi _=>by
   unfold Hw;rw[Ce (by unfold ln;omega),A7 Aa (by unfold ln;omega)]
   exact⟨fun h=>by rw[show (v==ele s (i:Int))=Ay from by simp[h],br_false,Av Aa Aa];rfl,fun h=>by rw[show (v==ele s (i:Int))=true from by simpa using h,br_true]⟩) (by unfold Hw;exact Ch (by unfold ln;omega)) with ⟨a,e⟩ | ⟨i,a,b,_,e⟩
 ·rw[show (0:Int)=((0:Nat):Int) from rfl,e,bd_ret,Out.on_go,bd_ret,Cw]
  ·rfl
  ·intro h
   obtain⟨i,hi,c⟩:=Qa h;exact a i hi c.symm
 ·rw[show (0:Int)=((0:Nat):Int) from rfl,e,bd_ret,Out.on_ret,bd_ret,Dm (by rw[Pk.1 b];exact Dt a),Lr Aa]
theorem bad_s {y:LayD} (g:y.Ok) {a m:Nat} (u:a<y.body.length) (w:m<y.body.length) {j:Int} (F:-10000≤j) (G:j≤10000) {us:List Use} (q:∀ x,x∈us↔∃ k,k<y.body.length∧∃ r∈Bk (ele y.body (k:Int)),An0 y a k r x) (J:us.length≤32) :
  Xt y.outs y.pace y.regs y.ready a m j us=some (tb (Akm y a m j)):=by
 have I:=g.pace;have H:=g.lr;have r1:=g.rd a u;have L:=g.rd m w;have K:=R4 (a:=j) (A:=10000) (b:=y.pace) (B:=200) Aa Aa Aa Aa;unfold Xt;rw[A7 Aa (by unfold ln;omega),Av Aa Aa,Av Aa Aa]
 rcases Ll (f:=Oo y.pace y.ready a m j us) (fun i=>(i:Int)) us.length (fun i=>¬((ele y.ready a≤ele y.ready m+j * y.pace∧ele y.ready m+j * y.pace≤(ele us (i:Int)).til)∨((ele us (i:Int)).later=true∧0<j∧ele y.ready m+j * y.pace≤(ele us (i:Int)).til))) (fun i=>true) (fun i hi _=>by
   unfold Oo;rw[Ce (by unfold ln;omega),A7 Aa (by unfold ln;omega),A7 Aa (by unfold ln;omega)];have v:(((Ao (((ele y.ready m)+(j * y.pace))≥(ele y.ready a)))&&(Ao (((ele y.ready m)+(j * y.pace))≤(ele us (i:Int)).til))) || (((ele us (i:Int)).later&&(Ao (j>0)))&&(Ao (((ele y.ready m)+(j * y.pace))≤(ele us (i:Int)).til))))=tb ((ele y.ready a≤ele y.ready m+j * y.pace∧ele y.ready m+j * y.pace≤(ele us (i:Int)).til)∨((ele us (i:Int)).later=true∧0<j∧ele y.ready m+j * y.pace≤(ele us (i:Int)).til)):=Ls (by simp[Ur]);rw[v]
   exact⟨fun h=>by rw[Cw h,br_false,Av Aa Aa];rfl,fun h=>by rw[Dm (Pk.1 h),br_true]⟩) (by unfold Oo;exact Ch (by unfold ln;omega)) with ⟨p,e⟩ | ⟨i,p,E,_,e⟩
 ·rw[show lp (Oo y.pace y.ready a m j us) 0=_ from e,bd_ret,Out.on_go,Fc (fun _=>⟨Aa,by unfold ln;omega⟩),Asd _ g.lo,On]
  congr 1;refine Ls ?_
  have C:¬∃ k r,LookP y a m j k r:=by
   rintro⟨k,r,n,o,hs,z⟩;obtain⟨i,hi,l⟩:=Qa ((q _).2 ⟨k,n,r,o,hs,rfl⟩);refine p i hi ?_;rw[l];simpa using z
  unfold Akm OutP;constructor
  ·intro h
   by_cases c:j≤0 <;> by_cases d:ele y.ready a≤ele y.ready m+j * y.pace <;> by_cases f:(a:Int)∈y.outs <;> simp[c,d,f,Dm,Cw] at h ⊢
  ·rintro(h | ⟨c,d,f⟩)
   ·exact absurd h C
   ·have t:ele y.ready m+j * y.pace≥ele y.ready a:=d
    rw[Dm f,Lr c,Lr t];rfl
 ·rw[show lp (Oo y.pace y.ready a m j us) 0=_ from e,bd_ret,Out.on_ret,Dm]
  obtain⟨k,n,r,o,hs,l⟩:=(q _).1 (Dt p);have s:=Pk.1 E;rw[l] at s;exact .inl ⟨k,r,n,o,hs,by simpa using s⟩
def Aff (y:LayD):Int:=4000 / y.pace+1
theorem A0m {y:LayD} (d:y.Ok) {a m:Nat} (p:a<y.body.length) (t:m<y.body.length) {j:Int} (h:Akm y a m j):-(4000 / y.pace) - 2≤j∧j≤Aff y∧-1006≤j∧j≤1003∧-1006≤j * y.pace:=by
 have E:=d.pace;have r1:=d.rd a p;have I:=d.rd m t
 have l:-1006≤j * y.pace→-(4000 / y.pace) - 2≤j:=fun b=>by
  have o:-j≤4000 / y.pace:=Ak8 Aa (by rw[Int.neg_mul];omega);omega
 have n:j * y.pace≤1000+3 * y.pace→j≤Aff y∧j≤1003:=fun w=>by
  have o:j - 3≤1000 / y.pace:=Ak8 Aa (by rw[Int.sub_mul];omega)
  have A:1000 / y.pace+2≤4000 / y.pace:=Ak8 Aa (by
   have:=Int.ediv_mul_le 1000 (show y.pace≠0 from Aa)
   rw[Int.add_mul];omega)
  have B:1000 / y.pace≤1000:=Af5 _ Aa;unfold Aff;omega
 have i:∀ b:-1006≤j * y.pace,-1006≤j:=fun b=>by
  by_cases c:j<0
  ·have:=Ad3 (show (1:Int)≤y.pace from Aa) (show 0≤-j from Aa)
   rw[Int.neg_mul j y.pace] at this;omega
  ·omega
 have v:0<j→0≤j * y.pace:=fun g=>Afz Aa Aa
 have u:j≤0→j * y.pace≤0:=fun g=>by
  have:=Ad4 g (show 0≤y.pace from Aa);omega
 rcases h with ⟨k,r,q⟩ | ⟨z,G,H⟩
 ·have C:=d.tm k q.kn
  have w:=d.us k q.kn r q.mem;have F:=Ad4 (show r.bk≤3 from Aa) (show 0≤y.pace from Aa)
  have b:-1006≤j * y.pace:=by
   rcases q.near with ⟨f,e⟩ | ⟨f,e,x⟩
   ·omega
   ·have:=v e;omega
  have s:j * y.pace≤1000+3 * y.pace:=by
   rcases q.near with ⟨f,e⟩ | ⟨f,e,x⟩ <;> omega
  have:=n s;exact⟨l b,this.1,i b,this.2,b⟩
 ·have b:-1006≤j * y.pace:=by omega
  have:=n (by have:=u z;omega);exact⟨l b,this.1,i b,this.2,b⟩
theorem tm2 {d R:Int} (a:1≤R) (b:R≤128):Int.tmod (Int.tmod d R+R) R=d % R:=by
 have c:=T0 d (show 0<R from Aa);rw[Ais Aa,Aqi];have h:=Ak7 d R;rw[show Int.tmod d R=d - R * Int.tdiv d R from Aa,Alc]
theorem Ams {y:LayD} (b:y.Ok) {a m:Nat} (l:a<y.body.length) (o:m<y.body.length):Lz y.body y.outs y.pace y.regs y.time y.ready y.places a m=some (tb (Oa y a m)):=by
 obtain⟨us,u1,u2,I⟩:=A41 b a;have U:=b.pace;have r:=b.regs;have a1:=b.pl a l;have a2:=b.pl m o;have T:=b.lp;have a0:=T0 (ele y.places (a:Int) - ele y.places (m:Int)) (show 0<y.regs from Aa);have n:Int.tdiv 4000 y.pace=4000 / y.pace:=Afj Aa;have O:0≤4000 / y.pace:=Af2 Aa Aa;have P:4000 / y.pace≤4000:=Af5 _ Aa;have F:Int.tdiv (4000 / y.pace+1) y.regs=(4000 / y.pace+1) / y.regs:=Afj Aa;have V:0≤(4000 / y.pace+1) / y.regs:=Af2 Aa Aa;have W:(4000 / y.pace+1) / y.regs≤4001:=W8 (Af5 _ Aa) Aa;have Y:=Int.ediv_mul_le (4000 / y.pace+1) (show y.regs≠0 from Aa);have G:=Int.lt_ediv_add_one_mul_self (4000 / y.pace+1) (show 0<y.regs from Aa);have L:=Q3 (ele y.places (a:Int) - ele y.places (m:Int)) (show y.regs≠0 from Aa);have M:=Q4 (ele y.places (a:Int) - ele y.places (m:Int)) (show 0<y.regs from Aa);unfold Lz;rw[u1,bd_ret,A7 Aa (by unfold ln;omega),A7 Aa (by unfold ln;omega),Av Aa Aa,Au Aa,Av Aa Aa,Au Aa,Au Aa,n,Av Aa Aa,Av Aa Aa,Au Aa,F,Av Aa Aa,Av Aa Aa];rw[Int.add_mul] at G;have g:((4000 / y.pace+1) / y.regs+2) * y.regs=(4000 / y.pace+1) / y.regs * y.regs+2 * y.regs:=Int.add_mul ..;rw[tm2 r.1 r.2,g,Av Aa Aa,Av Aa Aa];generalize hlo:(ele y.places (a:Int) - ele y.places (m:Int)) % y.regs - ((4000 / y.pace+1) / y.regs * y.regs+2 * y.regs)=lo;have Q:Aff y=4000 / y.pace+1:=rfl;have S:lo < -(4000 / y.pace) - 1∧-10000≤lo:=Aa;have J:0≤(Aff y - lo) / y.regs:=Af2 Aa Aa;obtain⟨N,w⟩:=H6 (show 0≤(Aff y - lo) / y.regs+1 from Aa);have K:=Int.ediv_mul_le (Aff y - lo) (show y.regs≠0 from Aa);have x:=Int.lt_ediv_add_one_mul_self (Aff y - lo) (show 0<y.regs from Aa);rw[w] at x
 have H:∀ i:Nat,i<N→lo+(i:Int) * y.regs≤Aff y∧lo≤lo+(i:Int) * y.regs:=fun i hi=>by
  have d:=Ad4 (show (i:Int)≤(Aff y - lo) / y.regs from Aa) (show 0≤y.regs from Aa);have q:=Afz (show 0≤(i:Int) from Aa) (show 0≤y.regs from Aa);omega
 have A:∀ i:Int,(ele y.places (m:Int)+(lo+i * y.regs) - ele y.places (a:Int)) % y.regs=0:=fun i=>by
  have d:=Z7 (ele y.places (a:Int) - ele y.places (m:Int)) y.regs
  have e:ele y.places (m:Int)+(lo+i * y.regs) - ele y.places (a:Int)=(i - (ele y.places (a:Int) - ele y.places (m:Int)) / y.regs - ((4000 / y.pace+1) / y.regs+2)) * y.regs:=by
   rw[Int.sub_mul,Int.sub_mul,g,W7 ((ele y.places (a:Int) - ele y.places (m:Int)) / y.regs)];omega
  rw[e,Int.mul_emod_left]
 have X:=Ll (f:=Ox y.outs y.pace y.regs y.ready a m us) (ρ:=Bool) (fun i=>lo+(i:Int) * y.regs) N (fun i=>¬(((m:Int)≠a∨lo+(i:Int) * y.regs≠0)∧Akm y a m (lo+(i:Int) * y.regs))) (fun _=>Ay) (fun i hi _=>by
  have d:=H i hi;unfold Ox;rw[n,Ce Aa,bad_s b l o Aa Aa u2 I,On]
  have s:((((m:Int) != a) || (lo+(i:Int) * y.regs != 0))&&(if (((m:Int) != a) || (lo+(i:Int) * y.regs != 0))=true then tb (Akm y a m (lo+(i:Int) * y.regs)) else Ay))=tb (((m:Int)≠a∨lo+(i:Int) * y.regs≠0)∧Akm y a m (lo+(i:Int) * y.regs)):=by
   rw[show (((m:Int) != a) || (lo+(i:Int) * y.regs != 0))=tb ((m:Int)≠a∨lo+(i:Int) * y.regs≠0) from Ls Ba];by_cases c:((m:Int)≠a∨lo+(i:Int) * y.regs≠0)
   ·rw[Dm c,Bg rfl,Q0];exact Hh ⟨fun h=>⟨c,h⟩,fun h=>h.2⟩
   ·rw[Cw c,Acs,Cw fun h=>c h.1]
  rw[s]
  exact⟨fun h=>by rw[Cw h,br_false,Av Aa Aa];refine congrArg some (congrArg Stp.next ?_);rw[show ((i+1:Nat):Int)=(i:Int)+1 from Aa,Int.add_mul];omega,fun h=>by rw[Dm (Pk.1 h),br_true]⟩) (by
  unfold Ox;rw[n]
  exact Ch Aa)
 rw[show lo+((0:Nat):Int) * y.regs=lo from by rw[show ((0:Nat):Int)=0 from rfl,Int.zero_mul];omega] at X;rcases X with ⟨d,e⟩ | ⟨i,d,q,_,e⟩
 ·rw[e,bd_ret,Out.on_go,Dm]
  intro j C p t;have s:=A0m b l o t;obtain⟨z,p⟩:=Int.dvd_of_emod_eq_zero p;have k:=Z7 (ele y.places (a:Int) - ele y.places (m:Int)) y.regs
  have v:j - lo=y.regs * (z+(ele y.places (a:Int) - ele y.places (m:Int)) / y.regs+((4000 / y.pace+1) / y.regs+2)):=by
   rw[Int.mul_add,Int.mul_add,←p,W7 y.regs ((4000 / y.pace+1) / y.regs+2),g];omega
  generalize z+(ele y.places (a:Int) - ele y.places (m:Int)) / y.regs+((4000 / y.pace+1) / y.regs+2)=i at v
  have B:0≤i:=by
   by_cases c:i<0
   ·have:=Ad3 (show i≤-1 from Aa) (show 0≤y.regs from Aa)
    omega
   ·omega
  have R:i≤(Aff y - lo) / y.regs:=Ak8 Aa (by rw[W7];omega);obtain⟨u,rfl⟩:=H6 B
  have E:lo+(u:Int) * y.regs=j:=by rw[W7];omega
  have:=d u Aa;rw[E] at this;exact this ⟨C,t⟩
 ·rw[e,bd_ret,Out.on_ret,Cw]
  intro h;have k:=Pk.1 q;exact h _ k.1 (A i) k.2
def Rw (op:Int):Int:=if op=4 then 1 else if op>10 then 2 else 0
def Asr:Stm:=⟨2,⟨0,0⟩,⟨0,0⟩,0,0,0,0⟩
def Gv (o:Opr):Stm:=⟨o.op,⟨0,0⟩,⟨0,0⟩,o.ar,o.sp,o.pl,o.n⟩
def lpO (logs:List Int) (o:Opr):Lp:=⟨logs,[Asr,Gv o],[]⟩
def Axn (k:Krn) (o:Opr):Prop:=0≤o.slot∧o.slot<k.pace∧0≤o.stage∧o.stage<k.stages∧o.stage * k.pace+o.slot≤1000
def Aq8 (t:Tgt) (o:Opr):Prop:=0≤o.dest∧o.dest<t.regs∧0≤o.a∧o.a<t.regs∧0≤o.b∧o.b<t.regs∧(Rw o.op<1→o.a=0)∧(Rw o.op<2→o.b=0)
def Uq (t:Tgt) (k:Krn) (o:Opr) (logs:List Int):Prop:=Axn k o∧Aq8 t o∧LoopOk (lpO logs o)
def Qf (k:Krn) (i:Nat):Int×Int:=((ele k.ops (i:Int)).slot,Ka (ele k.ops (i:Int)).op)
def Y9 (k:Krn) (n:Nat) (κ:Int×Int):Nat:=(List.range n).countP fun j=>Ao (Qf k j=κ)
theorem Ug (k:Krn) (n:Nat) (κ:Int×Int):Y9 k (n+1) κ=Y9 k n κ+if Qf k n=κ then 1 else 0:=by
 unfold Y9;rw[Uy,Ak1,Aqo];by_cases h:Qf k n=κ <;> simp[h]
theorem At2 (k:Krn) (κ:Int×Int):∀ n,Y9 k n κ≤n
 | 0=>Cf _
 | n+1=>by rw[Ug];have:=At2 k κ n;split <;> omega
structure KMayP (t:Tgt) (k:Krn) (logs:List Int):Prop where
 tgt:C4 t=true
 pace:1≤k.pace∧k.pace≤200
 stages:1≤k.stages∧k.stages≤1001
 n:1≤k.ops.length∧k.ops.length≤16
 one:∀ i:Nat,i<k.ops.length→Uq t k (ele k.ops (i:Int)) logs
 units:∀ i:Nat,i<k.ops.length→(Y9 k k.ops.length (Qf k i):Int)≤Fv t (Qf k i).2
theorem Rh {α:Type} [Inhabited α] {P W:List α}{x:α}{i:Int} (h:i=P.length):ele (P++x::W) i=x:=by
 subst h;rw[C7,Dy,Alb (Cf _),Nat.sub_self];rfl
theorem Sv {α:Type}{P W:List α}{x z:α}{i:Int} (h:i=P.length):upd (P++x::W) i z=P++z::W:=by
 subst h;unfold upd;rw[Iw,List.set_append_right _ _ (Cf _),Nat.sub_self];rfl
def atT (T:Int) (l:List Due):List Due:=l.filter fun d=>Ao (d.due=T)
theorem Abp (T:Int) (a b:List Due):atT T (a++b)=atT T a++atT T b:=Aqh ..
theorem Apb {T:Int}{l:List Due} (h:∀ d∈l,d.due≠T):atT T l=[]:=List.filter_eq_nil_iff.2 fun d a=>by simpa using h d a
def Stb (x y:List Due):Prop:=x.length=y.length∧∀ T,atT T x=atT T y
theorem I9 (x:List Due):Stb x x:=⟨rfl,fun _=>rfl⟩
theorem Stb.trans {x y z:List Due} (h:Stb x y) (k:Stb y z):Stb x z:=⟨h.1.trans k.1,fun T=>(h.2 T).trans (k.2 T)⟩
theorem Stb.symm {x y:List Due} (h:Stb x y):Stb y x:=⟨h.1.symm,fun T=>(h.2 T).symm⟩
theorem Stb.app {a c b d:List Due} (h:Stb a c) (k:Stb b d):Stb (a++b) (c++d):=⟨by rw[B2,B2,h.1,k.1],fun T=>by rw[Abp,Abp,h.2,k.2]⟩
def Aaz:=@Stb.app
theorem Stb.mem {x y:List Due} (h:Stb x y) {d:Due}:d∈x↔d∈y:=by
 have:=h.2 d.due;constructor
 ·intro b
  have a:d∈atT d.due x:=Tr.2 ⟨b,Ba⟩;rw[this] at a;exact(Tr.1 a).1
 ·intro b
  have a:d∈atT d.due y:=Tr.2 ⟨b,Ba⟩;rw[←this] at a;exact(Tr.1 a).1
theorem Stb.swap {a b:List Due} (h:∀ x∈a,∀ y∈b,y.due<x.due):Stb (a++b) (b++a):=⟨by rw[B2,B2,Nat.add_comm],fun T=>by
 rw[Abp,Abp];by_cases c:∃ x∈a,x.due=T
 ·obtain⟨x,d,g⟩:=c
  rw[Apb (l:=b) fun y f=>by have:=h x d y f;omega];simp
 ·rw[Apb (l:=a) fun x d e=>c ⟨x,d,e⟩]
  simp⟩
def Pp (l:List Due):Prop:=l.Pairwise fun x y=>x.due≤y.due
theorem Atc (a b:Int):∀ (X Y A B Z:List Due) (i:Nat),X.length=Y.length→(A.length:Int)=a+i→(A.length:Int)+X.length+B.length=b+i→0≤a→0≤b→A.length+X.length+B.length+Y.length+Z.length≤1000000 →
  lp (Bw a b ((i+X.length:Nat):Int)) (A++(X++(B++(Y++Z))),(i:Int))=some (.go (A++(Y++(B++(X++Z))),((i+X.length:Nat):Int)))
 | [],[],A,B,Z,i,_,_,_,_,_,_=>by
  refine C2 ?_;unfold Bw;exact Ch Ba
 | x::X,y::Y,A,B,Z,i,hl,ha,hb,h0,h1,hs=>by
  simp only[Dx] at hl hb hs;have g:=Atc a b X Y (A++[y]) (B++[x]) Z (i+1) Aa (by rw[B2,Lf];omega) (by rw[B2,B2,Lf,Lf];omega) h0 h1 (by rw[B2,B2,Lf,Lf];omega);rw[show ((i+(x::X).length:Nat):Int)=((i+1+X.length:Nat):Int) from by simp only[Dx];omega];have d:A++((x::X)++(B++((y::Y)++Z)))=A++x::(X++(B++y::(Y++Z))):=Ba;have e:A++(y::(X++(B++y::(Y++Z))))=(A++y::(X++B))++y::(Y++Z):=Ba;have f:A++x::(X++(B++y::(Y++Z)))=(A++x::(X++B))++y::(Y++Z):=Ba
  have c:ln (A++((x::X)++(B++((y::Y)++Z))))=((A.length+(X.length+1)+B.length+(Y.length+1)+Z.length:Nat):Int):=by unfold ln;simp only[B2,Dx];omega
  refine Bz (g':=(A++[y]++(X++(B++[x]++(Y++Z))),((i+1:Nat):Int))) ?_ ?_
  ·unfold Bw
   simp only
   have h:∀ (l:List Due) (i:Int) (z:Due),ln (upd l i z)=ln l:=fun l i z=>by unfold ln;rw[D9]
   rw[Ce Aa,Av Aa Aa,Av Aa Aa,Av Aa Aa,A7 Aa (by rw[c];omega),Av Aa Aa,A7 Aa (by rw[c];omega),A7 Aa (by rw[c];omega),h,A7 Aa (by rw[c];omega),Av Aa Aa]
   have j:ele (A++((x::X)++(B++((y::Y)++Z)))) (a+i)=x:=by rw[d];exact Rh Aa
   have k:ele (A++((x::X)++(B++((y::Y)++Z)))) (b+i)=y:=by rw[d,f];exact Rh (by simp only[B2,Dx];omega)
   rw[j,k,d,Sv Aa,e,Sv (by simp only[B2,Dx];omega)];have:A++y::(X++B)++x::(Y++Z)=A++[y]++(X++(B++[x]++(Y++Z))):=Ba;rw[this];rfl
  ·rw[g]
   simp
theorem Xu {a b:Int}{X Y A B Z:List Due} (c:X.length=Y.length) (e:(A.length:Int)=a) (f:(A.length:Int)+X.length+B.length=b) (hs:A.length+X.length+B.length+Y.length+Z.length≤1000000) {n:Int} (d:n=X.length) :
  Bx (A++(X++(B++(Y++Z)))) a b n=some (A++(Y++(B++(X++Z)))):=by
 subst d;have:=Atc a b X Y A B Z 0 c Aa Aa Aa Aa hs;rw[Sq] at this;unfold Bx;rw[show lp (Bw a b (X.length:Int)) (A++(X++(B++(Y++Z))),0)=_ from this,bd_ret,Out.on_go]
theorem Agv (m:Int):∀ (s:Nat) (A X Y Z:List Due),X.length+Y.length≤s→1≤X.length→1≤Y.length→(A.length:Int)+X.length=m→A.length+X.length+Y.length+Z.length≤1000000 →
  ∃ A' X' Y' Z':List Due,∃ k:Nat,lp (B5 m) (A++(X++(Y++Z)),(X.length:Int),(Y.length:Int))=some (.go (A'++(X'++(Y'++Z')),(k:Int),(k:Int)))∧X'.length=k∧Y'.length=k∧(A'.length:Int)+k=m∧A'++(Y'++(X'++Z'))=A++(Y++(X++Z))∧A'.length+k+k+Z'.length≤1000000
 | 0,_,X,_,_,h,h1,_,_,_=>Aa
 | s+1,A,X,Y,Z,h,h1,h2,hm,hs=>by
  rcases Nat.lt_trichotomy X.length Y.length with c | c | c
  ·skip
   have d:Y=Y.take (Y.length - X.length)++Y.drop (Y.length - X.length):=(Ld _ _).symm
   have i:(Y.take (Y.length - X.length)).length=Y.length - X.length:=by rw[Kb];omega
   have j:(Y.drop (Y.length - X.length)).length=X.length:=by rw[M5];omega
   generalize Y.take (Y.length - X.length)=Y1 at *;generalize Y.drop (Y.length - X.length)=Y2 at *
   have o:Y.length=Y1.length+Y2.length:=by rw[d,B2]
   obtain⟨A',X',Y',Z',k,e,r⟩:=Agv m s A Y2 Y1 (X++Z) Aa Aa Aa Aa (by rw[B2];omega);refine⟨A',X',Y',Z',k,?_,r.1,r.2.1,r.2.2.1,?_,r.2.2.2.2⟩
   ·refine Bz (g':=(A++(Y2++(Y1++(X++Z))),(Y2.length:Int),(Y1.length:Int))) ?_ e
    unfold B5;simp only;have g:=Xu (a:=m - X.length) (b:=m+Y.length - X.length) (X:=X) (Y:=Y2) (A:=A) (B:=Y1) (Z:=Z) Aa Aa Aa Aa (n:=(X.length:Int)) rfl;rw[show ((X.length:Int) != (Y.length:Int))=true from by simp;omega,br_true,Ch Aa,Av Aa Aa,Av Aa Aa,Av Aa Aa,d,Gw,show (((Y1++Y2).length:Nat):Int)=(Y.length:Int) from by rw[←d],g,bd_ret,Av Aa Aa];rw[j,show (Y.length:Int) - X.length=(Y1.length:Int) from Aa]
   ·rw[r.2.2.2.1,d];simp
  ·skip
   refine⟨A,X,Y,Z,X.length,?_,rfl,c.symm,hm,rfl,Aa⟩;rw[show (Y.length:Int)=(X.length:Int) from Aa];refine C2 ?_;unfold B5;simp only;rw[show ((X.length:Int) != (X.length:Int))=Ay from Ba,br_false]
  ·have f:X=X.take Y.length++X.drop Y.length:=(Ld _ _).symm
   have i:(X.take Y.length).length=Y.length:=by rw[Kb];omega
   have j:(X.drop Y.length).length=X.length - Y.length:=by rw[M5]
   generalize X.take Y.length=X1 at *;generalize X.drop Y.length=X2 at *
   have l:X.length=X1.length+X2.length:=by rw[f,B2]
   obtain⟨A',X',Y',Z',k,e,r⟩:=Agv m s (A++Y) X2 X1 Z Aa Aa Aa (by rw[B2];omega) (by rw[B2];omega);refine⟨A',X',Y',Z',k,?_,r.1,r.2.1,r.2.2.1,?_,r.2.2.2.2⟩
   ·refine Bz (g':=((A++Y)++(X2++(X1++Z)),(X2.length:Int),(X1.length:Int))) ?_ e
    unfold B5;simp only;have g:=Xu (a:=m - X.length) (b:=m) (X:=X1) (Y:=Y) (A:=A) (B:=X2) (Z:=Z) Aa Aa Aa Aa (n:=(Y.length:Int)) Aa;rw[show ((X.length:Int) != (Y.length:Int))=true from by simp;omega,br_true,Ce Aa,Av Aa Aa,show A++(X++(Y++Z))=A++(X1++(X2++(Y++Z))) from by rw[f];simp,g,bd_ret,Av Aa Aa];rw[i,show (X.length:Int) - Y.length=(X2.length:Int) from Aa,Gw]
   ·rw[r.2.2.2.1,f];simp
theorem Azc {A X Y Z:List Due} (c:1≤X.length) (d:1≤Y.length) (hs:A.length+X.length+Y.length+Z.length≤1000000) {a m b:Int} (h:a=A.length) (j:m=A.length+X.length) (i:b=A.length+X.length+Y.length) :
  Cy (A++(X++(Y++Z))) a m b=some (A++(Y++(X++Z))):=by
 obtain⟨A',X',Y',Z',k,e,r1,l,o,f,p⟩:=Agv m (X.length+Y.length) A X Y Z (Cf _) c d Aa hs;unfold Cy;have g:=Xu (a:=m - k) (b:=m) (X:=X') (Y:=Y') (A:=A') (B:=[]) (Z:=Z') Aa Aa (by simp;omega) (by simp;omega) (n:=(k:Int)) Aa;rw[Av Aa Aa,Av Aa Aa,show m - a=(X.length:Int) from Aa,show b - m=(Y.length:Int) from Aa,e,bd_ret,Out.on_go];simp only;rw[Av Aa Aa,show A'++(X'++(Y'++Z'))=A'++(X'++([]++(Y'++Z'))) from rfl,g,bd_ret,←f];rfl
def In9 (d:Due):Prop:=0≤d.due∧d.due≤1000000000
theorem Anx {x y:Due} (a:In9 x) (b:In9 y):C6 x y=some (x.due - y.due):=by
 obtain⟨_,_⟩:=a;obtain⟨_,_⟩:=b;unfold C6;rw[Av Aa Aa]
theorem N0 {a b:List Due}:Pp (a++b)↔Pp a∧Pp b∧∀ x∈a,∀ y∈b,x.due≤y.due:=List.pairwise_append
theorem Abw {x:Due}{b:List Due}:Pp (x::b)↔(∀ y∈b,x.due≤y.due)∧Pp b:=Ak0
theorem Al6:Pp []:=List.Pairwise.nil
theorem Aq5 {l:List Due}{i:Int}{z:Due}:ln (upd l i z)=ln l:=by unfold ln;rw[D9]
theorem Aow (A:List Due) (x:Due) (j:In9 x):∀ (n:Nat) (P W:List Due),P.length=n→(∀ d∈P,In9 d)→Pp P→A.length+P.length+1+W.length≤1000000 →
  ∃ f g,P=f++g∧(∀ d∈g,x.due<d.due)∧(∀ d∈f,d.due≤x.due)∧lp (Bn (A.length:Int)) (A++(P++(x::W)),((A.length+P.length:Nat):Int))=some (.go (A++(f++(x::(g++W))),((A.length+f.length:Nat):Int)))
 | 0,P,W,i,_,_,hs=>by
  obtain rfl:=Afk i;refine⟨[],[],rfl,fun d b=>(by cases b),fun d b=>(by cases b),C2 ?_⟩;unfold Bn;simp only;rw[show Ao ((((A.length+([]:List Due).length:Nat)):Int)>(A.length:Int))=Ay from Ba];rw[Fc (fun h=>by cases h),Fc (fun h=>by cases h),Fc (fun h=>by cases h),bdG_f];rfl
 | n+1,P,W,i,hb,hP,hs=>by
  obtain⟨L,y,rfl⟩:∃ L y,P=L++[y]:=by
   rcases List.eq_nil_or_concat P with rfl | ⟨L,y,rfl⟩
   ·cases i
   ·exact⟨L,y,Ba⟩
  have a:(L++[y]).length=L.length+1:=Ba;rw[a] at i hs;obtain⟨u,w,v⟩:=N0.1 hP;have l:=hb y Ba;have p:A++((L++[y])++(x::W))=(A++L)++y::(x::W):=Ba;have k:A++((L++[y])++(x::W))=(A++(L++[y]))++x::W:=Ba
  have m:ele (A++((L++[y])++(x::W))) ((A.length+(L++[y]).length:Nat):Int)=x:=by rw[k];exact Rh (congrArg Nat.cast List.length_append.symm)
  have o:ele (A++((L++[y])++(x::W))) (((A.length+(L++[y]).length:Nat):Int) - 1)=y:=by rw[p];exact Rh (by simp only[B2,Lf];omega)
  have e:ln (A++((L++[y])++(x::W)))=((A.length+(L.length+1)+(W.length+1):Nat):Int):=by unfold ln;simp only[B2,Dx,Lf];simp;omega
  by_cases c:x.due<y.due
  ·obtain⟨f,g,q,r,s,t⟩:=Aow A x j n L (y::W) Aa (fun d b=>hb d (by simp[b])) u (by simp only[Dx];omega)
   refine⟨f,g++[y],by rw[q];simp,fun d b=>?_,s,?_⟩
   ·rcases Fw.1 b with b | b
    ·exact r d b
    ·rw[Gx.1 b];exact c
   ·refine Bz (g':=(A++(L++(x::(y::W))),((A.length+L.length:Nat):Int))) ?_ ?_
    ·unfold Bn
     simp only;rw[show Ao (((A.length+(L++[y]).length:Nat):Int)>(A.length:Int))=true from Lr (by rw[a];omega)]
     rw[Fc (fun _=>⟨Aa,by rw[e,a];omega⟩),Fc (fun _=>⟨by rw[a];omega,by rw[a];omega⟩),Fc (fun _=>⟨by rw[a];omega,by rw[e,a];omega⟩),bdG_t,m,o,Anx j l,bd_ret,Q0,Ce Aa,Av (by rw[a];omega) (by rw[a];omega),Av (by rw[a];omega) (by rw[a];omega),
      A7 (by rw[a];omega) (by rw[e,a];omega),A7 Aa (by rw[e,a];omega),A7 Aa (by rw[e,a];omega),Aq5,A7 (by rw[a];omega) (by rw[e,a];omega),Av (by rw[a];omega) (by rw[a];omega)]
     rw[k,Sv (congrArg Nat.cast List.length_append.symm),show (A++(L++[y]))++y::W=(A++L)++y::(y::W) from Ba,Sv (by simp only[B2,Lf];omega),a];rw[show ((A.length+(L.length+1):Nat):Int) - 1=((A.length+L.length:Nat):Int) from Aa,Gw]
    ·rw[t];simp
  ·refine⟨L++[y],[],Ba,fun d b=>(by cases b),fun d b=>?_,?_⟩
   ·rcases Fw.1 b with b | b
    ·have:=v d b y Ba;omega
    ·rw[Gx.1 b];omega
   ·refine C2 ?_
    unfold Bn;simp only;rw[show Ao (((A.length+(L++[y]).length:Nat):Int)>(A.length:Int))=true from Lr (by rw[a];omega)];rw[Fc (fun _=>⟨Aa,by rw[e,a];omega⟩),Fc (fun _=>⟨by rw[a];omega,by rw[a];omega⟩),Fc (fun _=>⟨by rw[a];omega,by rw[e,a];omega⟩),bdG_t,m,o,Anx j l,bd_ret,Q0,Ch Aa];rfl
theorem Ajq (A Z:List Due) {b:Int}:∀ (W S:List Due),(∀ d∈S++W,In9 d)→Pp S→(A.length:Int)+S.length+W.length=b→A.length+S.length+W.length+Z.length≤1000000 →
  ∃ S',Pp S'∧Stb (S++W) S'∧lp (Bj (A.length:Int) b) (A++(S++(W++Z)),((A.length+S.length:Nat):Int))=some (.go (A++(S'++Z),b))
 | [],S,_,hS,g,_=>by
  refine⟨S,hS,by rw[Nl];exact I9 S,?_⟩;simp only[Ew] at g;rw[show ((A.length+S.length:Nat):Int)=b from Aa];refine C2 ?_;unfold Bj;exact Ch Aa
 | x::W,S,hi,hS,g,hs=>by
  simp only[Dx] at g hs;obtain⟨c,e,i,k,n,o⟩:=Aow A x (hi x Ba) S.length S (W++Z) rfl (fun d f=>hi d (by simp[f])) hS (by rw[B2];omega)
  have z:S.length=c.length+e.length:=by rw[i,B2]
  have l:=hS;rw[i] at l;obtain⟨v,w,y⟩:=N0.1 l
  obtain⟨S',s,t,u⟩:=Ajq A Z (b:=b) W (c++x::e) (fun d f=>hi d (by rw[i];simp at f ⊢;rcases f with h | h | h | h <;> simp[h])) (N0.2 ⟨v,Abw.2 ⟨fun d f=>by have:=k d f;omega,w⟩,fun p m q j=>by
   rcases Gl.1 j with rfl | j
   ·exact n p m
   ·exact y p m q j⟩) (by simp only[B2,Dx];omega) (by simp only[B2,Dx];omega)
  refine⟨S',s,?_,?_⟩
  ·refine Stb.trans ?_ t
   rw[i,show (c++e)++x::W=c++((e++[x])++W) from Ba,show (c++x::e)++W=c++(([x]++e)++W) from Ba];exact Aaz (I9 _) (Aaz (Stb.swap fun a r b g=>by rw[Gx.1 g];exact k a r) (I9 _))
  ·refine Bz (g':=(A++((c++x::e)++(W++Z)),((A.length+(c++x::e).length:Nat):Int))) ?_ u
   unfold Bj;simp only;rw[Ce Aa,show A++(S++(x::W++Z))=A++(S++(x::(W++Z))) from Ba,o,bd_ret,Out.on_go];simp only;rw[Av Aa Aa];rw[show A++(c++x::(e++(W++Z)))=A++((c++x::e)++(W++Z)) from Ba,show ((A.length+S.length:Nat):Int)+1=((A.length+(c++x::e).length:Nat):Int) from by simp only[B2,Dx];omega]
theorem Aei {A S Z:List Due} (hi:∀ d∈S,In9 d) (c:1≤S.length) (hs:A.length+S.length+Z.length≤1000000) {a b:Int} (e:a=A.length) (f:b=A.length+S.length) :
  ∃ S',Pp S'∧Stb S S'∧A9 (A++(S++Z)) a b=some (A++(S'++Z)):=by
 cases S with
 | nil=>simp at c
 | cons x W =>
  simp only[Dx] at f hs;obtain⟨S',h,i,j⟩:=Ajq A Z (b:=b) W [x] hi (Abw.2 ⟨fun y g=>(by cases g),Al6⟩) (by simp only[Lf];omega) (by simp only[Lf];omega);refine⟨S',h,i,?_⟩;unfold A9;rw[Av Aa Aa,e,show A++(x::W++Z)=A++([x]++(W++Z)) from Ba,show (A.length:Int)+1=((A.length + [x].length:Nat):Int) from Ba,j,bd_ret,Out.on_go]
theorem Apr {D:List Due}{a b:Int} (h:b≤a+1) (c:0≤a) (d:a≤1000000):A9 D a b=some D:=by
 unfold A9;rw[Av Aa Aa,show lp (Bj a b) (D,a+1)=some (.go (D,a+1)) from C2 (by unfold Bj;exact Ch Aa),bd_ret,Out.on_go]
theorem All {n:Int} (c:0≤n) (d:n≤10000000):IntKind.i64.wrap (shrD (IntKind.u64.wrap n) 1)=n / 2:=by
 have a:IntKind.u64.wrap n=n:=by
  show n % (2 ^ 64:Int)=n;exact Akx c Aa
 have b:shrD n 1=n / 2:=by
  unfold shrD;show Int.fdiv n (2 ^ (min (1:Int).toNat 64))=n / 2;rw[show (2:Int) ^ (min (1:Int).toNat 64)=2 from rfl,Int.fdiv_eq_ediv_of_nonneg _ Aa]
 rw[a,b];exact I6 Aa Aa
theorem Abo {ρ:Type}{f:Int×Int→Option (Stp (Int×Int) ρ)} (P:Nat→Prop) {lo hi:Nat} (mono:∀ x y,lo≤x→x≤y→y<hi→P y→P x)
  (step:∀ i j:Nat,lo≤i→i<j→j≤hi→(P ((i+j) / 2)→f ((i:Int),(j:Int))=some (.next (((((i+j) / 2:Nat):Int)+1),(j:Int))))∧(¬P ((i+j) / 2)→f ((i:Int),(j:Int))=some (.next ((i:Int),(((i+j) / 2:Nat):Int)))))
  (a:∀ i:Nat,f ((i:Int),(i:Int))=some (.brk ((i:Int),(i:Int)))):∀ (s i j:Nat),j - i≤s→lo≤i→i≤j→j≤hi→(∀ x,lo≤x→x<i→P x)→(∀ x,j≤x→x<hi→¬P x) →
  ∃ k:Nat,i≤k∧k≤j∧(∀ x,lo≤x→x<k→P x)∧(∀ x,k≤x→x<hi→¬P x)∧lp f ((i:Int),(j:Int))=some (.go ((k:Int),(k:Int)))
 | 0,i,j,h,h1,h2,h3,h4,h5=>by
  obtain rfl:i=j:=Aa;exact⟨i,Aa,Aa,h4,h5,C2 (a i)⟩
 | s+1,i,j,h,h1,h2,h3,h4,h5=>by
  by_cases e:i=j
  ·subst e
   exact⟨i,Aa,Aa,h4,h5,C2 (a i)⟩
  ·have p:i<j:=by omega
   obtain⟨r,t⟩:=step i j h1 p h3;by_cases c:P ((i+j) / 2)
   ·obtain⟨k,n,o,d,g,l⟩:=Abo P mono step a s ((i+j) / 2+1) j Aa Aa Aa h3 (fun x b m=>mono x _ b Aa Aa c) h5
    exact⟨k,Aa,o,d,g,Bz (r c) l⟩
   ·obtain⟨k,n,o,d,g,l⟩:=Abo P mono step a s i ((i+j) / 2) Aa h1 Aa Aa h4 (fun x b m q=>c (mono _ x Aa b m q))
    exact⟨k,n,Aa,d,g,Bz (t c) l⟩
theorem Ajx {P W:List Due}{i:Nat} (h:i<P.length):ele (P++W) (i:Int)=ele P (i:Int):=by
 rw[C7,C7,Dy,Dy,Aa7 h]
theorem Ado {P W:List Due}{i:Nat}:ele (P++W) ((P.length+i:Nat):Int)=ele W (i:Int):=by
 rw[C7,C7,Dy,Dy,Alb Aa,Nat.add_sub_cancel_left]
theorem Xe {l:List Due} (h:Pp l) {i j:Nat} (b:i≤j) (a:j<l.length):(ele l (i:Int)).due≤(ele l (j:Int)).due:=by
 rcases Uv i j with c | c
 ·have:=Aqv.1 h i j Aa a c
  simpa[C7,Dy,a,show i<l.length from Aa] using this
 ·obtain rfl:i=j:=by omega
  exact E6 _
theorem A01 {l:List Due}{n:Nat}{d:Due} (h:d∈l.take n):∃ i:Nat,i<n∧i<l.length∧ele l (i:Int)=d:=by
 obtain⟨i,hi,rfl⟩:=Acw h;rw[Kb] at hi;exact⟨i,Aa,Aa,by rw[List.getElem_take,C7,Dy,E3 Aa];rfl⟩
theorem A02 {l:List Due}{n:Nat}{d:Due} (h:d∈l.drop n):∃ i:Nat,n≤i∧i<l.length∧ele l (i:Int)=d:=by
 obtain⟨i,hi,rfl⟩:=Acw h;rw[M5] at hi;exact⟨n+i,Aa,Aa,by rw[List.getElem_drop,C7,Dy,E3 Aa];rfl⟩
theorem Axx (x:Due) {i:Int}:∀ (R A W:List Due),i - 1=(A.length:Int)+R.length→A.length+1+R.length+W.length≤1000000 →
  lp (Cc i) (A++x::(R++W),(A.length:Int))=some (.go (A++(R++x::W),((A.length+R.length:Nat):Int)))
 | [],A,W,h,hs=>by
  simp only[Ew] at h hs;refine C2 ?_;unfold Cc;simp only;rw[Av Aa Aa];exact Ch Aa
 | y::R,A,W,h,hs=>by
  simp only[Dx] at h hs;have c:=Axx x (i:=i) R (A++[y]) W (by rw[B2,Lf];omega) (by rw[B2,Lf];omega);have b:A++x::(y::R++W)=(A++[x])++y::(R++W):=Ba
  have a:ln (A++x::(y::R++W))=((A.length+2+R.length+W.length:Nat):Int):=by unfold ln;simp only[B2,Dx];omega
  have d:ele (A++x::(y::R++W)) (A.length:Int)=x:=Rh rfl
  have e:ele (A++x::(y::R++W)) ((A.length:Int)+1)=y:=by rw[b];exact Rh Ba
  refine Bz (g':=((A++[y])++x::(R++W),((A++[y]).length:Int))) ?_ ?_
  ·unfold Cc
   simp only
   rw[Av Aa Aa,Ce Aa,Av Aa Aa,Av Aa Aa,A7 Aa (by rw[a];omega),A7 Aa (by rw[a];omega),A7 Aa (by rw[a];omega),Aq5,A7 Aa (by rw[a];omega),Av Aa Aa,d,e,Sv rfl,
    show A++y::(y::R++W)=(A++[y])++y::(R++W) from Ba,Sv Ba]
   rw[show ((A++[y]).length:Int)=(A.length:Int)+1 from Ba]
  ·rw[c,show (A++[y]).length+R.length=A.length+(y::R).length from by simp only[B2,Dx,Ew];omega]
   simp
theorem Axy (y:Due) {i:Int}:∀ (n:Nat) (A R W:List Due),R.length=n→i=(A.length:Int)→A.length+1+R.length+W.length≤1000000 →
  lp (Ca i) (A++(R++y::W),((A.length+R.length:Nat):Int))=some (.go (A++y::(R++W),(A.length:Int)))
 | 0,A,R,W,c,h,hs=>by
  obtain rfl:=Afk c;refine C2 ?_;unfold Ca;exact Ch (by simp;omega)
 | n+1,A,R,W,c,h,hs=>by
  obtain⟨L,x,rfl⟩:∃ L x,R=L++[x]:=by
   rcases List.eq_nil_or_concat R with rfl | ⟨L,x,rfl⟩
   ·cases c
   ·exact⟨L,x,Ba⟩
  have a:(L++[x]).length=L.length+1:=Ba;rw[a] at c hs;have f:=Axy y (i:=i) n A L (x::W) Aa h (by simp only[Dx];omega);have e:A++((L++[x])++y::W)=(A++L)++x::(y::W):=Ba;have d:A++((L++[x])++y::W)=(A++(L++[x]))++y::W:=Ba
  have b:ln (A++((L++[x])++y::W))=((A.length+L.length+2+W.length:Nat):Int):=by unfold ln;simp only[B2,Dx,Ew];omega
  have g:ele (A++((L++[x])++y::W)) ((A.length+(L++[x]).length:Nat):Int)=y:=by rw[d];exact Rh (congrArg Nat.cast List.length_append.symm)
  have j:ele (A++((L++[x])++y::W)) (((A.length+(L++[x]).length:Nat):Int) - 1)=x:=by rw[e];exact Rh (by rw[a,B2];omega)
  refine Bz (g':=(A++(L++y::(x::W)),((A.length+L.length:Nat):Int))) ?_ ?_
  ·unfold Ca
   simp only
   rw[Ce (by rw[a];omega),Av (by rw[a];omega) (by rw[a];omega),Av (by rw[a];omega) (by rw[a];omega),A7 (by rw[a];omega) (by rw[b,a];omega),A7 Aa (by rw[b,a];omega),A7 Aa (by rw[b,a];omega),Aq5,A7 (by rw[a];omega) (by rw[b,a];omega),Av (by rw[a];omega) (by rw[a];omega),g,j,
    d,Sv (congrArg Nat.cast List.length_append.symm),show (A++(L++[x]))++x::W=(A++L)++x::(x::W) from Ba,Sv (by rw[a,B2];omega),a]
   rw[show ((A.length+(L.length+1):Nat):Int) - 1=((A.length+L.length:Nat):Int) from Aa,Gw]
  ·rw[f];simp
theorem app4 (a b c d:List Due):(a++b)++(c++d)=a++((b++c)++d):=Ba
theorem Vn:∀ (I:Nat) (A L R Z:List Due),1≤L.length→1≤R.length→L.length+R.length≤2 ^ I→Pp L→Pp R→(∀ d∈L++R,In9 d)→A.length+L.length+R.length+Z.length≤1000000 →
  ∃ S,Pp S∧Stb (L++R) S∧A0 (I+1) (A++(L++(R++Z))) (A.length:Int) ((A.length+L.length:Nat):Int) ((A.length+L.length+R.length:Nat):Int)=some (A++(S++Z))
 | I,A,L,R,Z,hL1,hR1,hfl,hL,hR,hi,hs=>by
  have c6:∀ i:Nat,i<L.length→In9 (ele L (i:Int)):=fun i h=>hi _ (Fw.2 (.inl (Dt h)));have c7:∀ i:Nat,i<R.length→In9 (ele R (i:Int)):=fun i h=>hi _ (Fw.2 (.inr (Dt h)));generalize hD:A++(L++(R++Z))=D
  have N:ln D=((A.length+L.length+R.length+Z.length:Nat):Int):=by rw[←hD];unfold ln;simp only[B2];omega
  have z:∀ i:Nat,i<L.length→ele D ((A.length+i:Nat):Int)=ele L (i:Int):=fun i h=>by rw[←hD,Ado,Ajx h]
  have B:∀ i:Nat,i<R.length→ele D ((A.length+L.length+i:Nat):Int)=ele R (i:Int):=fun i h=>by rw[←hD,Nat.add_assoc,Ado,Ado,Ajx h]
  unfold A0;rw[Av Aa Aa];by_cases c1:L.length=1
  ·skip
   obtain⟨x,rfl⟩:=List.length_eq_one_iff.1 c1;have g:In9 x:=hi x Ba;have e1:ele D (A.length:Int)=x:=z 0 Ba
   obtain⟨k,d3,d4,a5,a6,a7⟩:=Abo (f:=Cd D (A.length:Int)) (ρ:=Empty) (fun h=>(ele D (h:Int)).due<x.due) (lo:=A.length+1) (hi:=A.length+1+R.length) (fun p q C E Q T=>by
     obtain⟨v,rfl⟩:∃ v,p=A.length+1+v:=⟨p - (A.length+1),Aa⟩;obtain⟨w,rfl⟩:∃ w,q=A.length+1+w:=⟨q - (A.length+1),Aa⟩;have e:=B v Aa;have s:=B w Aa;rw[c1] at e s;rw[s] at T;rw[e];have:=Xe hR (i:=v) (j:=w) Aa Aa
     omega) (fun i j C E Q=>by
     obtain⟨t,G⟩:∃ t,(i+j) / 2=A.length+1+t:=⟨(i+j) / 2 - (A.length+1),Aa⟩;have e:=B t Aa;rw[c1,←G] at e;have l:=c7 t Aa;rw[←e] at l;have a1:((i:Int)+j) / 2=(((i+j) / 2:Nat):Int):=Aa;unfold Cd;simp only;rw[Ce Aa,Av Aa Aa,All Aa Aa,a1,A7 Aa (by rw[N];omega),A7 Aa (by rw[N];omega),e1,Anx l g,bd_ret]
     exact⟨fun h=>by rw[Ce Aa,Av Aa Aa],fun h=>by rw[Ch Aa]⟩) (fun i=>by unfold Cd;exact Ch Aa) (R.length) (A.length+1) (A.length+1+R.length) Aa Aa Aa Aa (fun y C E=>Aa) (fun y C E=>Aa)
   obtain⟨t,G⟩:∃ t,k=A.length+1+t:=⟨k - (A.length+1),Aa⟩;have a8:R=R.take t++R.drop t:=(Ld _ _).symm
   have a9:∀ d∈R.take t,d.due<x.due:=fun d o=>by
    obtain⟨i,a4,i2,rfl⟩:=A01 o;have:=a5 (A.length+1+i) Aa Aa;have e:=B i i2;rw[c1] at e;rw[e] at this;exact this
   have U:∀ d∈R.drop t,x.due≤d.due:=fun d o=>by
    obtain⟨i,a4,i2,rfl⟩:=A02 o;have:=a6 (A.length+1+i) Aa Aa;have e:=B i i2;rw[c1] at e;rw[e] at this;omega
   have O:(R.take t).length=t:=by rw[Kb];omega
   have W:=hR;rw[a8] at W;obtain⟨r1,b7,d6⟩:=N0.1 W;refine⟨R.take t++x::R.drop t,N0.2 ⟨r1,Abw.2 ⟨U,b7⟩,fun p b0 q J=>?_⟩,?_,?_⟩
   ·have:=a9 p b0
    rcases Gl.1 J with rfl | J
    ·omega
    ·have:=U q J;omega
   ·conv=>lhs;rw[a8]
    rw[show [x]++(R.take t++R.drop t)=([x]++R.take t)++R.drop t from Ba,show R.take t++x::R.drop t=(R.take t++[x])++R.drop t from Ba];exact Aaz (Stb.swap fun a b4 b b5=>by rw[Gx.1 b4];exact a9 b b5) (I9 _)
   ·rw[show ((((A.length + [x].length:Nat)):Int) - (A.length:Int)==1)=true from by rw[c1];simp;omega,br_true]
    rw[show ((A.length + [x].length:Nat):Int)=((A.length+1:Nat):Int) from rfl,show ((A.length + [x].length+R.length:Nat):Int)=((A.length+1+R.length:Nat):Int) from rfl,a7,bd_ret,Out.on_go];simp only;have b9:=Axx x (i:=(k:Int)) (R.take t) A (R.drop t++Z) (by rw[O];omega) (by rw[O,B2,M5];simp only[Lf] at hs;omega)
    have K:D=A++x::(R.take t++(R.drop t++Z)):=by
     rw[←hD,show R++Z=R.take t++(R.drop t++Z) from by rw[←Gw,Ld]];rfl
    rw[K,b9,bd_ret,Out.on_go];simp
  rw[show ((((A.length+L.length:Nat)):Int) - (A.length:Int)==1)=Ay from by simp;omega,br_false,Av Aa Aa];by_cases c2:R.length=1
  ·skip
   obtain⟨y,rfl⟩:=List.length_eq_one_iff.1 c2;have l:In9 y:=hi y Ba;have e2:ele D ((A.length+L.length:Nat):Int)=y:=B 0 Ba
   obtain⟨k,d3,d4,a5,a6,a7⟩:=Abo (f:=Cb D ((A.length+L.length:Nat):Int)) (ρ:=Empty) (fun h=>(ele D (h:Int)).due≤y.due) (lo:=A.length) (hi:=A.length+L.length) (fun p q C E Q T=>by
     obtain⟨v,rfl⟩:∃ v,p=A.length+v:=⟨p - A.length,Aa⟩;obtain⟨w,rfl⟩:∃ w,q=A.length+w:=⟨q - A.length,Aa⟩;rw[z w Aa] at T;rw[z v Aa];have:=Xe hL (i:=v) (j:=w) Aa Aa
     omega) (fun i j C E Q=>by
     obtain⟨t,G⟩:∃ t,(i+j) / 2=A.length+t:=⟨(i+j) / 2 - A.length,Aa⟩;have e:=z t Aa;rw[←G] at e;have g:=c6 t Aa;rw[←e] at g;have a1:((i:Int)+j) / 2=(((i+j) / 2:Nat):Int):=Aa;unfold Cb;simp only;rw[Ce Aa,Av Aa Aa,All Aa Aa,a1,A7 Aa (by rw[N];omega),A7 Aa (by rw[N];omega),e2,Anx l g,bd_ret]
     exact⟨fun h=>by rw[Wc Aa,Jz,br_true,Av Aa Aa],fun h=>by rw[Lr Aa,F0,br_false]⟩) (fun i=>by unfold Cb;exact Ch Aa) (L.length) A.length (A.length+L.length) Aa Aa Aa Aa (fun y C E=>Aa) (fun y C E=>Aa)
   obtain⟨t,G⟩:∃ t,k=A.length+t:=⟨k - A.length,Aa⟩;have b3:L=L.take t++L.drop t:=(Ld _ _).symm
   have a9:∀ d∈L.take t,d.due≤y.due:=fun d o=>by
    obtain⟨i,a4,i2,rfl⟩:=A01 o;have:=a5 (A.length+i) Aa Aa;rw[z i i2] at this;exact this
   have U:∀ d∈L.drop t,y.due<d.due:=fun d o=>by
    obtain⟨i,a4,i2,rfl⟩:=A02 o;have:=a6 (A.length+i) Aa Aa;rw[z i i2] at this;omega
   have O:(L.take t).length=t:=by rw[Kb];omega
   have V:=hL;rw[b3] at V;obtain⟨r1,b7,d6⟩:=N0.1 V;refine⟨L.take t++y::L.drop t,N0.2 ⟨r1,Abw.2 ⟨fun d o=>by have:=U d o;omega,b7⟩,fun p b0 q J=>?_⟩,?_,?_⟩
   ·rcases Gl.1 J with rfl | J
    ·exact a9 p b0
    ·exact d6 p b0 q J
   ·rw[show L++[y]=L.take t++(L.drop t++[y]) from by rw[←Gw,Ld],show L.take t++y::L.drop t=L.take t++([y]++L.drop t) from Ba]
    exact Aaz (I9 _) (Stb.swap fun a b4 b b5=>by rw[Gx.1 b5];exact U a b4)
   ·rw[show ((((A.length+L.length + [y].length:Nat)):Int) - ((A.length+L.length:Nat):Int)==1)=true from by rw[c2];simp;omega,br_true,a7,bd_ret,Out.on_go]
    simp only;have b6:(L.drop t).length=L.length - t:=M5;have b9:=Axy y (i:=(k:Int)) (L.length - t) (A++L.take t) (L.drop t) Z b6 (by rw[B2,O];omega) (by rw[B2,O,b6];simp only[Lf] at hs;omega)
    have K:D=(A++L.take t)++(L.drop t++y::Z):=by
     rw[←hD,show L++([y]++Z)=L.take t++(L.drop t++([y]++Z)) from by rw[←Gw (L.take t),Ld],Gw];rfl
    rw[K,show ((A.length+L.length:Nat):Int)=(((A++L.take t).length+(L.drop t).length:Nat):Int) from by rw[B2,O,b6];omega,b9,bd_ret,Out.on_go];simp
  rw[show ((((A.length+L.length+R.length:Nat)):Int) - ((A.length+L.length:Nat):Int)==1)=Ay from by simp;omega,br_false,Av Aa Aa];obtain⟨M,g9⟩:∃ M:Nat,M=(A.length+(A.length+L.length+R.length)) / 2:=⟨_,rfl⟩
  have c8:IntKind.i64.wrap (shrD (IntKind.u64.wrap ((A.length:Int)+((A.length+L.length+R.length:Nat):Int))) 1)=(M:Int):=by rw[All Aa Aa];omega
  rw[c8,Av Aa Aa]
  obtain⟨H,r0,e4,g1,g5,g3,g4,g7,g6,g8⟩:∃ H r0:Nat,(br (Ao (((A.length+L.length:Nat):Int)>(M:Int))) (ck (IR ((M:Int)+((A.length+L.length:Nat):Int) - ((A.length+L.length+R.length:Nat):Int))) (some (Out.go ((M:Int)+((A.length+L.length:Nat):Int) - ((A.length+L.length+R.length:Nat):Int),(M:Int)):Out (Int×Int) Empty))) (some (.go ((A.length:Int),((A.length+L.length:Nat):Int))))=some (.go ((H:Int),(r0:Int))))∧A.length≤H∧H≤r0∧r0≤M∧r0≤A.length+L.length∧(H=A.length∨H+(A.length+L.length+R.length)=M+(A.length+L.length))∧(r0=M∨r0=A.length+L.length)∧M+(A.length+L.length)≤H+(A.length+L.length+R.length):=by
   by_cases c:((A.length+L.length:Nat):Int)>(M:Int)
   ·refine⟨M+(A.length+L.length) - (A.length+L.length+R.length),M,?_,Aa,Aa,Aa,Aa,Aa,Aa,Aa⟩
    rw[Ce c,Av Aa Aa,show (M:Int)+((A.length+L.length:Nat):Int) - ((A.length+L.length+R.length:Nat):Int)=((M+(A.length+L.length) - (A.length+L.length+R.length):Nat):Int) from Aa]
   ·exact⟨A.length,A.length+L.length,Ch c,Aa,Aa,Aa,Aa,Aa,Aa,Aa⟩
  rw[e4,bd_ret,Out.on_go];simp only;rw[Av Aa Aa]
  obtain⟨k,d3,d4,a5,a6,a7⟩:=Abo (f:=B9 D (A.length:Int) ((A.length+L.length:Nat):Int) ((A.length+L.length+R.length:Nat):Int)) (ρ:=Empty) (fun h=>(ele D (h:Int)).due≤(ele D ((M+(A.length+L.length) - 1 - h:Nat):Int)).due) (lo:=H) (hi:=r0) (fun p q C E Q T=>by
    obtain⟨v,c9⟩:∃ v,p=A.length+v:=⟨p - A.length,Aa⟩;obtain⟨w,d0⟩:∃ w,q=A.length+w:=⟨q - A.length,Aa⟩;rw[show M+(A.length+L.length) - 1 - q=A.length+L.length+(M - 1 - q) from Aa,B _ Aa,d0,z w Aa] at T;rw[show M+(A.length+L.length) - 1 - p=A.length+L.length+(M - 1 - p) from Aa,B _ Aa,c9,z v Aa];have e:=Xe hL (i:=v) (j:=w) Aa Aa;have s:=Xe hR (i:=M - 1 - q) (j:=M - 1 - p) Aa Aa;rw[d0,c9] at s
    omega) (fun i j C E Q=>by
    obtain⟨t,G⟩:∃ t,(i+j) / 2=A.length+t:=⟨(i+j) / 2 - A.length,Aa⟩;have e:=z t Aa;rw[←G] at e;have g:=c6 t Aa;rw[←e] at g;have s:=B (M - 1 - (i+j) / 2) Aa;rw[show A.length+L.length+(M - 1 - (i+j) / 2)=M+(A.length+L.length) - 1 - (i+j) / 2 from Aa] at s;have l:=c7 (M - 1 - (i+j) / 2) Aa;rw[←s] at l;have a1:((i:Int)+j) / 2=(((i+j) / 2:Nat):Int):=Aa;unfold B9;simp only;rw[Ce Aa,Av Aa Aa,c8,All (n:=(i:Int)+(j:Int)) Aa Aa,a1,show (M:Int)+((A.length+L.length:Nat):Int) - 1 - (((i+j) / 2:Nat):Int)=((M+(A.length+L.length) - 1 - (i+j) / 2:Nat):Int) from Aa,Av Aa Aa,A7 Aa (by rw[N];omega),A7 Aa (by rw[N];omega),Anx l g,bd_ret]
    exact⟨fun h=>by rw[Wc Aa,Jz,br_true,Av Aa Aa],fun h=>by rw[Lr Aa,F0,br_false]⟩) (fun i=>by unfold B9;exact Ch Aa) (r0 - H) H r0 Aa Aa Aa Aa (fun y C E=>Aa) (fun y C E=>Aa)
  rw[a7,bd_ret,Out.on_go];simp only;have e3:(M:Int)+((A.length+L.length:Nat):Int) - (k:Int)=((A.length+L.length+(M - k):Nat):Int):=Aa;rw[e3,Av Aa Aa];obtain⟨t,G⟩:∃ t,k=A.length+t:=⟨k - A.length,Aa⟩;obtain⟨u,f0⟩:∃ u,u=M - k:=⟨_,rfl⟩;rw[←f0];have b3:L=L.take t++L.drop t:=(Ld _ _).symm;have a8:R=R.take u++R.drop u:=(Ld _ _).symm
  have f1:(L.take t).length=t:=by rw[Kb];omega
  have h2:(L.drop t).length=L.length - t:=M5
  have f2:(R.take u).length=u:=by rw[Kb];omega
  have h3:(R.drop u).length=R.length - u:=M5
  have d5:∀ x∈L.drop t,∀ y∈R.take u,y.due<x.due:=fun x g y l=>by
   obtain⟨i,a4,i2,rfl⟩:=A02 g;obtain⟨j,j1,d2,rfl⟩:=A01 l;have:=a6 k Aa Aa;rw[show M+(A.length+L.length) - 1 - k=A.length+L.length+(M - 1 - k) from Aa,B _ Aa,G,z t Aa,←G] at this;have e:=Xe hL (i:=t) (j:=i) Aa i2;have s:=Xe hR (i:=j) (j:=M - 1 - k) Aa Aa;omega
  have f3:∀ x∈L.take t,∀ y∈R.drop u,x.due≤y.due:=fun x g y l=>by
   obtain⟨i,a4,i2,rfl⟩:=A01 g;obtain⟨j,j1,d2,rfl⟩:=A02 l;have:=a5 (k - 1) Aa Aa;rw[show M+(A.length+L.length) - 1 - (k - 1)=A.length+L.length+u from Aa,B _ Aa,show k - 1=A.length+(t - 1) from Aa,z _ Aa] at this;have e:=Xe hL (i:=i) (j:=t - 1) Aa Aa;have s:=Xe hR (i:=u) (j:=j) Aa d2;omega
  have V:=hL;rw[b3] at V;obtain⟨c4,a2,a3⟩:=N0.1 V;have W:=hR;rw[a8] at W;obtain⟨b1,b2,e0⟩:=N0.1 W
  have K:D=A++(L.take t++(L.drop t++(R.take u++(R.drop u++Z)))):=by
   have e:L++(R++Z)=L.take t++(L.drop t++(R++Z)):=by rw[←Gw (L.take t),Ld]
   have s:R++Z=R.take u++(R.drop u++Z):=by rw[←Gw (R.take u),Ld]
   rw[←hD,e,s]
  have e5:∀ d∈L.take t,In9 d:=fun d o=>hi d (Fw.2 (.inl (Ze o)));have e6:∀ d∈L.drop t,In9 d:=fun d o=>hi d (Fw.2 (.inl (Agc o)));have e7:∀ d∈R.take u,In9 d:=fun d o=>hi d (Fw.2 (.inr (Ze o)));have e8:∀ d∈R.drop u,In9 d:=fun d o=>hi d (Fw.2 (.inr (Agc o)))
  have e9:Stb (L++R) ((L.take t++R.take u)++(L.drop t++R.drop u)):=by
   rw[show L++R=(L.take t++L.drop t)++(R.take u++R.drop u) from by rw[Ld,Ld]];rw[app4,app4 (L.take t) (R.take u) (L.drop t) (R.drop u)];exact Aaz (I9 _) (Aaz (Stb.swap d5) (I9 _))
  generalize L.take t=L1 at *;generalize L.drop t=L2 at *;generalize R.take u=R1 at *;generalize R.drop u=R2 at *
  have h4:I≥1:=by
   rcases I with _ | f
   ·simp at hfl;omega
   ·omega
  obtain⟨f,rfl⟩:∃ f,I=f+1:=⟨I - 1,Aa⟩
  have h1:L.length+R.length≤2 * 2 ^ f:=by rw[Acm] at hfl;omega
  have f7:∃ r,Pp r∧Stb (L1++R1) r∧((Ao ((A.length:Int)<(k:Int))&&Ao ((k:Int)<(M:Int)))=true→A0 (f+1) (A++(L1++(R1++(L2++(R2++Z))))) (A.length:Int) (k:Int) (M:Int)=some (A++(r++(L2++(R2++Z)))))∧((Ao ((A.length:Int)<(k:Int))&&Ao ((k:Int)<(M:Int)))=Ay→r=L1++R1):=by
   by_cases c:1≤L1.length∧1≤R1.length
   ·obtain⟨r,e,s,P⟩:=Vn f A L1 R1 (L2++(R2++Z)) c.1 c.2 Aa c4 b1 (fun d o=>(Fw.1 o).elim (e5 d) (e7 d)) (by rw[B2,B2];omega)
    refine⟨r,e,s,fun _=>?_,fun h=>?_⟩
    ·rw[show (k:Int)=((A.length+L1.length:Nat):Int) from Aa,show (M:Int)=((A.length+L1.length+R1.length:Nat):Int) from Aa]
     exact P
    ·rw[Aa4,H5,H5] at h
     omega
   ·refine⟨L1++R1,N0.2 ⟨c4,b1,fun x g y l=>?_⟩,I9 _,fun h=>?_,fun _=>rfl⟩
    ·have:=Ak9 g
     have:=Ak9 l;omega
    ·rw[E0,H4,H4] at h
     omega
  obtain⟨r,f4,b8,f5,f6⟩:=f7
  have h0:r.length=t+u:=by rw[←b8.1,B2,f1,f2]
  have f8:∃ F,Pp F∧Stb (L2++R2) F∧((Ao ((M:Int)<((A.length+L.length+u:Nat):Int))&&Ao (((A.length+L.length+u:Nat):Int)<((A.length+L.length+R.length:Nat):Int)))=true→A0 (f+1) (A++(r++(L2++(R2++Z)))) (M:Int) ((A.length+L.length+u:Nat):Int) ((A.length+L.length+R.length:Nat):Int)=some (A++((r++F)++Z)))∧((Ao ((M:Int)<((A.length+L.length+u:Nat):Int))&&Ao (((A.length+L.length+u:Nat):Int)<((A.length+L.length+R.length:Nat):Int)))=Ay→F=L2++R2):=by
   by_cases c:1≤L2.length∧1≤R2.length
   ·obtain⟨F,e,s,P⟩:=Vn f (A++r) L2 R2 Z c.1 c.2 Aa a2 b2 (fun d o=>(Fw.1 o).elim (e6 d) (e8 d)) (by rw[B2];omega)
    refine⟨F,e,s,fun _=>?_,fun h=>?_⟩
    ·rw[B2] at P
     rw[show (M:Int)=((A.length+r.length:Nat):Int) from Aa,show ((A.length+L.length+u:Nat):Int)=((A.length+r.length+L2.length:Nat):Int) from Aa,show ((A.length+L.length+R.length:Nat):Int)=((A.length+r.length+L2.length+R2.length:Nat):Int) from Aa];rw[Gw] at P;rw[P];simp
    ·rw[Aa4,H5,H5] at h
     omega
   ·refine⟨L2++R2,N0.2 ⟨a2,b2,fun x g y l=>?_⟩,I9 _,fun h=>?_,fun _=>rfl⟩
    ·have:=Ak9 g
     have:=Ak9 l;omega
    ·rw[E0,H4,H4] at h
     omega
  obtain⟨F,w1,w2,f9,g0⟩:=f8;refine⟨r++F,N0.2 ⟨f4,w1,fun x g y l=>?_⟩,e9.trans (Aaz b8 w2),?_⟩
  ·rcases Fw.1 (b8.mem.2 g) with g | g <;> rcases Fw.1 (w2.mem.2 l) with l | l
   ·exact a3 x g y l
   ·exact f3 x g y l
   ·have:=d5 y l x g;omega
   ·exact e0 x g y l
  have d8:∀ X,X=A++(L1++(R1++(L2++(R2++Z))))→(br (Ao ((A.length:Int)<(k:Int))&&Ao ((k:Int)<(M:Int))) (bd (A0 (f+1) X (A.length:Int) (k:Int) (M:Int)) fun d9=>br (Ao ((M:Int)<((A.length+L.length+u:Nat):Int))&&Ao (((A.length+L.length+u:Nat):Int)<((A.length+L.length+R.length:Nat):Int))) (bd (A0 (f+1) d9 (M:Int) ((A.length+L.length+u:Nat):Int) ((A.length+L.length+R.length:Nat):Int)) fun c0=>some c0) (some d9)) (br (Ao ((M:Int)<((A.length+L.length+u:Nat):Int))&&Ao (((A.length+L.length+u:Nat):Int)<((A.length+L.length+R.length:Nat):Int))) (bd (A0 (f+1) X (M:Int) ((A.length+L.length+u:Nat):Int) ((A.length+L.length+R.length:Nat):Int)) fun g2=>some g2) (some X)))=some (A++((r++F)++Z)):=fun X c5=>by
   have d1:(br (Ao ((M:Int)<((A.length+L.length+u:Nat):Int))&&Ao (((A.length+L.length+u:Nat):Int)<((A.length+L.length+R.length:Nat):Int))) (bd (A0 (f+1) (A++(r++(L2++(R2++Z)))) (M:Int) ((A.length+L.length+u:Nat):Int) ((A.length+L.length+R.length:Nat):Int)) fun c0=>some c0) (some (A++(r++(L2++(R2++Z))))))=some (A++((r++F)++Z)):=by
    cases a0:(Ao ((M:Int)<((A.length+L.length+u:Nat):Int))&&Ao (((A.length+L.length+u:Nat):Int)<((A.length+L.length+R.length:Nat):Int))) with
    | true=>rw[br_true,f9 a0,bd_ret]
    | false=>rw[br_false,g0 a0];simp
   cases a0:(Ao ((A.length:Int)<(k:Int))&&Ao ((k:Int)<(M:Int))) with
   | true=>rw[br_true,c5,f5 a0,bd_ret];exact d1
   | false =>
    rw[br_false,c5,show A++(L1++(R1++(L2++(R2++Z))))=A++(r++(L2++(R2++Z))) from by rw[f6 a0,Gw]];exact d1
  by_cases c:1≤L2.length∧1≤R1.length
  ·rw[show (Ao ((k:Int)<((A.length+L.length:Nat):Int))&&Ao (((A.length+L.length:Nat):Int)<((A.length+L.length+u:Nat):Int)))=true from by rw[E0,H4,H4];omega,br_true]
   have d7:=Azc (A:=A++L1) (X:=L2) (Y:=R1) (Z:=R2++Z) c.1 c.2 (by rw[B2,B2];omega) (a:=(k:Int)) (m:=((A.length+L.length:Nat):Int)) (b:=((A.length+L.length+u:Nat):Int)) (by rw[B2];omega) (by rw[B2];omega) (by rw[B2];omega);rw[Gw,Gw] at d7;rw[K,d7,bd_ret];exact d8 _ rfl
  ·rw[show (Ao ((k:Int)<((A.length+L.length:Nat):Int))&&Ao (((A.length+L.length:Nat):Int)<((A.length+L.length+u:Nat):Int)))=Ay from by rw[Aa4,H5,H5];omega,br_false]
   refine d8 D ?_;rw[K];by_cases c3:L2=[]
   ·rw[c3];simp
   ·have:R1=[]:=by
     have:=Xc.2 c3;exact Afk Aa
    rw[this];simp
inductive BS (bs:Nat):List Due→Prop
 | last (D:List Due):D.length≤bs→Pp D→BS bs D
 | cons (X Y:List Due):X.length=bs→Pp X→BS bs Y→BS bs (X++Y)
theorem BS.one {bs:Nat}{D:List Due} (h:BS bs D) (b:D.length≤bs) (e:1≤bs):Pp D:=by
 cases h with
 | last _ _ h=>exact h
 | cons X Y c a d =>
  rw[B2] at b;obtain rfl:=Afk (show Y.length=0 from Aa);rw[Nl];exact a
theorem BS.two {bs:Nat}{D:List Due} (h:BS bs D) (d:bs<D.length):∃ X Y,D=X++Y∧X.length=bs∧Pp X∧BS bs Y:=by
 cases h with
 | last _ h _=>omega
 | cons X Y a b c=>exact⟨X,Y,rfl,a,b,c⟩
theorem Apa:∀ (s:Nat) (A Y:List Due),Y.length≤s→(∀ d∈Y,In9 d)→A.length+Y.length≤1000000 →
  ∃ f g b1 Y',lp (Br ((A.length+Y.length:Nat):Int)) (A++Y,(A.length:Int),((A.length+20:Nat):Int))=some (.go (f,g,b1))∧A9 f g ((A.length+Y.length:Nat):Int)=some (A++Y')∧BS 20 Y'∧Stb Y Y'
 | s,A,Y,hs,hi,hl=>by
  by_cases c:20≤Y.length
  ·have n:Y=Y.take 20++Y.drop 20:=(Ld _ _).symm
   have v:(Y.take 20).length=20:=by rw[Kb];omega
   have w:(Y.drop 20).length=Y.length - 20:=M5;have r:∀ d∈Y.take 20,In9 d:=fun d i=>hi d (Ze i);have t:∀ d∈Y.drop 20,In9 d:=fun d i=>hi d (Agc i);generalize Y.take 20=X at *;generalize Y.drop 20=W at *;obtain⟨X',j,e,h⟩:=Aei (A:=A) (S:=X) (Z:=W) r Aa Aa (a:=(A.length:Int)) (b:=((A.length+20:Nat):Int)) rfl Aa
   have m:X'.length=20:=by rw[←e.1];exact v
   cases s with
   | zero=>omega
   | succ s =>
    obtain⟨f,g,b1,W',k,l,p,q⟩:=Apa s (A++X') W Aa t (by rw[B2];omega)
    have u:((A++X').length+W.length:Nat)=A.length+Y.length:=by rw[B2];omega
    rw[u] at k l;refine⟨f,g,b1,X'++W',?_,by rw[l,Gw],BS.cons X' W' m j p,by rw[n];exact Aaz e q⟩;refine Bz (g':=((A++X')++W,((A++X').length:Int),(((A++X').length+20:Nat):Int))) ?_ k;unfold Br;simp only;rw[Ce Aa,n,h,bd_ret,Av Aa Aa,Gw,B2,m];rfl
  ·have o:Br ((A.length+Y.length:Nat):Int) (A++Y,(A.length:Int),((A.length+20:Nat):Int))=some (.brk (A++Y,(A.length:Int),((A.length+20:Nat):Int))):=by
    unfold Br;exact Ch Aa
   by_cases c1:1≤Y.length
   ·obtain⟨Y',j,e,h⟩:=Aei (A:=A) (S:=Y) (Z:=[]) hi c1 (by simp only[Ew];omega) (a:=(A.length:Int)) (b:=((A.length+Y.length:Nat):Int)) rfl Aa
    rw[Nl,Nl] at h;exact⟨_,_,_,Y',C2 o,h,BS.last Y' (by rw[←e.1];omega) j,e⟩
   ·obtain rfl:=Afk (show Y.length=0 from Aa)
    exact⟨_,_,_,[],C2 o,Apr (by simp only[Ew];omega) Aa Aa,BS.last [] Ba Al6,I9 _⟩
theorem A3w:(2:Nat) ^ 63=9223372036854775808:=Ai
theorem Ax1 {bs:Nat} (l:1≤bs) (B:bs≤1000000):∀ (s:Nat) (A Y:List Due),Y.length≤s→BS bs Y→(∀ d∈Y,In9 d)→A.length+Y.length≤1000000 →
  ∃ g f b1 Y',lp (Bq ((A.length+Y.length:Nat):Int) (bs:Int)) (A++Y,(A.length:Int),((A.length+2 * bs:Nat):Int))=some (.go (g,f,b1))∧0≤f∧f≤1000000∧(br (Ao (f+(bs:Int)<((A.length+Y.length:Nat):Int))) (A0 64 g f (f+(bs:Int)) ((A.length+Y.length:Nat):Int)) (some g))=some (A++Y')∧BS (2 * bs) Y'∧Stb Y Y'
 | s,A,Y,hs,hY,hi,hl=>by
  by_cases c:2 * bs≤Y.length
  ·obtain⟨a,i,rfl,z,n,k⟩:=hY.two Aa
   rw[B2] at hs hl c
   obtain⟨b,W,rfl,G,E,F⟩:∃ b W,i=b++W∧b.length=bs∧Pp b∧BS bs W:=by
    by_cases e:bs<i.length
    ·exact k.two e
    ·exact⟨i,[],Ba,Aa,k.one Aa l,BS.last [] Ba Al6⟩
   rw[B2] at hs hl;obtain⟨S,p,j,m⟩:=Vn 63 A a b W Aa Aa (by rw[A3w];omega) n E (fun d o=>hi d (by rcases Fw.1 o with h | h <;> simp[h])) Aa
   have t:S.length=2 * bs:=by rw[←j.1,B2];omega
   cases s with
   | zero=>omega
   | succ s =>
    obtain⟨g,f,b1,W',q,v,w,r,x,y⟩:=Ax1 l B s (A++S) W Aa F (fun d o=>hi d (by simp[o])) (by rw[B2];omega)
    have C:((A++S).length+W.length:Nat)=A.length+(a++(b++W)).length:=by rw[B2,B2,B2];omega
    rw[C] at q r;refine⟨g,f,b1,S++W',?_,v,w,by rw[r,Gw],BS.cons S W' t p x,by rw[←Gw];exact Aaz j y⟩;refine Bz (g':=((A++S)++W,((A++S).length:Int),(((A++S).length+2 * bs:Nat):Int))) ?_ q;unfold Bq;simp only;rw[Ce (by rw[B2,B2];omega),Av Aa Aa,show (A.length:Int)+(bs:Int)=((A.length+a.length:Nat):Int) from Aa,show ((A.length+2 * bs:Nat):Int)=((A.length+a.length+b.length:Nat):Int) from Aa,m,bd_ret,Av Aa Aa,Av Aa Aa];rw[Gw,B2,t,show ((A.length+a.length+b.length:Nat):Int)=((A.length+2 * bs:Nat):Int) from Aa,show ((A.length+2 * bs:Nat):Int)+2 * (bs:Int)=((A.length+2 * bs+2 * bs:Nat):Int) from Aa]
  ·have u:Bq ((A.length+Y.length:Nat):Int) (bs:Int) (A++Y,(A.length:Int),((A.length+2 * bs:Nat):Int))=some (.brk (A++Y,(A.length:Int),((A.length+2 * bs:Nat):Int))):=by
    unfold Bq;exact Ch Aa
   by_cases c1:bs<Y.length
   ·obtain⟨a,i,rfl,z,n,k⟩:=hY.two c1
    rw[B2] at c c1 hl;obtain⟨S,p,j,m⟩:=Vn 63 A a i [] Aa Aa (by rw[A3w];omega) n (k.one Aa l) hi (by simp only[Ew];omega);refine⟨_,_,_,S,C2 u,Aa,Aa,?_,BS.last S (by rw[←j.1,B2];omega) p,j⟩;rw[Ce (by rw[B2];omega),show (A.length:Int)+(bs:Int)=((A.length+a.length:Nat):Int) from Aa,B2,←Nat.add_assoc];rw[Nl,Nl] at m;exact m
   ·exact⟨_,_,_,Y,C2 u,Aa,Aa,Ch Aa,BS.last Y Aa (hY.one Aa l),I9 _⟩
theorem Aop:∀ (s:Nat) (D:List Due) (bs:Nat),D.length≤bs+s→1≤bs→bs≤1000000→BS bs D→(∀ d∈D,In9 d)→D.length≤400000 →
  ∃ S b,lp (B4 (D.length:Int)) (D,(bs:Int))=some (.go (S,b))∧Pp S∧Stb D S
 | s,D,bs,hs,h1,h2,hD,hi,hl=>by
  by_cases c:bs<D.length
  ·obtain⟨m,h,b1,Y',f,n,o,a,i,e⟩:=Ax1 h1 h2 D.length [] D (Cf _) hD hi (by simp;omega)
   simp only[Ew,Sq,Ww] at f a
   cases s with
   | zero=>omega
   | succ s =>
    obtain⟨S,b,g,k,l⟩:=Aop s Y' (2 * bs) (by rw[←e.1];omega) Aa Aa i (fun d j=>hi d (e.mem.2 j)) (by rw[←e.1];exact hl);rw[←e.1] at g;refine⟨S,b,?_,k,e.trans l⟩;refine Bz (g':=(Y',((2 * bs:Nat):Int))) ?_ g;unfold B4;simp only;rw[Ce Aa,Av Aa Aa,show lp (Bq (D.length:Int) (bs:Int)) (D,0,2 * (bs:Int))=_ from f,bd_ret,Out.on_go];simp only;rw[Av Aa Aa];by_cases c2:h+(bs:Int)<(D.length:Int)
    ·rw[Ce c2] at a ⊢
     rw[a,bd_ret,Av Aa Aa,show (bs:Int) * 2=((2 * bs:Nat):Int) from Aa]
    ·rw[Ch c2] at a ⊢
     rw[Av Aa Aa,show (bs:Int) * 2=((2 * bs:Nat):Int) from Aa]
     cases a;rfl
  ·refine⟨D,bs,C2 ?_,hD.one Aa h1,I9 _⟩
   unfold B4;exact Ch Aa
theorem Ab7 {D:List Due} (hi:∀ d∈D,In9 d) (k:D.length≤400000):∃ S,Bl D=some S∧Pp S∧Stb D S:=by
 obtain⟨g,h,b1,Y',c,e,i,a⟩:=Apa D.length [] D (Cf _) hi (by simp;omega);simp only[Ew,Sq,Ww] at c e;obtain⟨S,b,f,l,m⟩:=Aop D.length Y' 20 (by rw[←a.1];omega) Aa Aa i (fun d j=>hi d (a.mem.2 j)) (by rw[←a.1];exact k);rw[←a.1] at f;refine⟨S,?_,l,a.trans m⟩;unfold Bl Dr;rw[show lp (Br (ln D)) (D,0,20)=_ from c,bd_ret,Out.on_go];simp only;rw[show A9 g h (ln D)=_ from e,bd_ret,show lp (B4 (ln D)) (Y',20)=_ from f,bd_ret,Out.on_go,bd_ret]
noncomputable def Ef (h:Tgt) (f g:Int) (e:List Opr) (j:List Int) (a:List (List Int)) (k:Int) (i:List Due) (o:Opr) (d:Int):Option ((Int×Int)) :=
 ck (IX o.ar (ln a)) <|
 bd (G9 (IntKind.u64.wrap (ln (ele a o.ar)))) fun c =>
 ck (IR (c - 1)) <|
 bd (L3 o.sp o.pl d (c - 1)) fun b =>
 ck (IX b (ln (ele a o.ar))) <|
 some (o.ar,b)
noncomputable def Gb (a:Int) (g:Tgt) (e f:Int) (d:List Opr) (i:List Int) (b:List (List Int)) (j:Int) (h:List Due) (o:Opr) (k:Int):Option (List (List Int)) :=
 bd (Ef g e f d i b j h o k) fun c =>
 some (updG b c.1 c.2 a)
noncomputable def Cx (c:Tgt) (f j:Int) (e:List Opr) (t:List (List Int)) (h pace slot:Int) (i:List Int×List Due):((List Due)×(List (Opr×Int×Int))×Int)→Option (Stp ((List Due)×(List (Opr×Int×Int))×Int) (Empty)):=fun (g,k,d) =>
 br (Ao (d<(ln e))) (
 ck (IX d (ln e)) <|
 ck (IR (pace - (ele e d).stage)) <|
 br ((((ele e d).slot != slot) || (Ao ((pace - (ele e d).stage)<0))) || (Ao ((pace - (ele e d).stage)≥h))) (
 ck (IR (d+1)) <|
 some (.next (g,k,(d+1)))) (
 bd (Cv c f j h ((ele e d).a) pace) fun l =>
 ck (IX l (ln i.1)) <|
 bd (Cv c f j h ((ele e d).b) pace) fun y =>
 ck (IX y (ln i.1)) <|
 br ((ele e d).op==1) (
 bd (E8 ((ele e d).op)) fun p =>
 ck (IX p 3) <|
 ck (IR (((pace * f)+slot)+(Cq c.w0 c.w1 c.w2 p))) <|
 bd (Cv c f j h ((ele e d).dest) pace) fun z =>
 ck (AL (g++[(Due.mk (((pace * f)+slot)+(Cq c.w0 c.w1 c.w2 p)) z ((ele e d).n))]).length 24) <|
 ck (IR (d+1)) <|
 some (.next ((g++[(Due.mk (((pace * f)+slot)+(Cq c.w0 c.w1 c.w2 p)) z ((ele e d).n))]),k,(d+1)))) (
 br ((ele e d).op==2) (
 bd (E8 ((ele e d).op)) fun q =>
 ck (IX q 3) <|
 ck (IR (((pace * f)+slot)+(Cq c.w0 c.w1 c.w2 q))) <|
 bd (Cv c f j h ((ele e d).dest) pace) fun A =>
 ck (AL (g++[(Due.mk (((pace * f)+slot)+(Cq c.w0 c.w1 c.w2 q)) A (pace - (ele e d).stage))]).length 24) <|
 ck (IR (d+1)) <|
 some (.next ((g++[(Due.mk (((pace * f)+slot)+(Cq c.w0 c.w1 c.w2 q)) A (pace - (ele e d).stage))]),k,(d+1)))) (
 br ((ele e d).op==3) (
 bd (Ef c f j e i.1 t h g (ele e d) (pace - (ele e d).stage)) fun r =>
 bd (E8 ((ele e d).op)) fun s =>
 ck (IX s 3) <|
 ck (IR (((pace * f)+slot)+(Cq c.w0 c.w1 c.w2 s))) <|
 bd (Cv c f j h ((ele e d).dest) pace) fun u =>
 ck (AL (g++[(Due.mk (((pace * f)+slot)+(Cq c.w0 c.w1 c.w2 s)) u (ele (ele t r.1) r.2))]).length 24) <|
 ck (IR (d+1)) <|
 some (.next ((g++[(Due.mk (((pace * f)+slot)+(Cq c.w0 c.w1 c.w2 s)) u (ele (ele t r.1) r.2))]),k,(d+1)))) (
 br ((ele e d).op==4) (
 ck (AL (k++[((ele e d),(pace - (ele e d).stage),(ele i.1 l))]).length 8) <|
 bd (E8 ((ele e d).op)) fun m =>
 ck (IX m 3) <|
 ck (IR (((pace * f)+slot)+(Cq c.w0 c.w1 c.w2 m))) <|
 bd (Cv c f j h ((ele e d).dest) pace) fun v =>
 ck (AL (g++[(Due.mk (((pace * f)+slot)+(Cq c.w0 c.w1 c.w2 m)) v (ele i.1 l))]).length 24) <|
 ck (IR (d+1)) <|
 some (.next ((g++[(Due.mk (((pace * f)+slot)+(Cq c.w0 c.w1 c.w2 m)) v (ele i.1 l))]),(k++[((ele e d),(pace - (ele e d).stage),(ele i.1 l))]),(d+1)))) (
 ck (IR ((ele e d).op - 10)) <|
 bd (T5 ((ele e d).op - 10) (ele i.1 l) (ele i.1 y)) fun w =>
 bd (E8 ((ele e d).op)) fun o =>
 ck (IX o 3) <|
 ck (IR (((pace * f)+slot)+(Cq c.w0 c.w1 c.w2 o))) <|
 bd (Cv c f j h ((ele e d).dest) pace) fun x =>
 ck (AL (g++[(Due.mk (((pace * f)+slot)+(Cq c.w0 c.w1 c.w2 o)) x w)]).length 24) <|
 ck (IR (d+1)) <|
 some (.next ((g++[(Due.mk (((pace * f)+slot)+(Cq c.w0 c.w1 c.w2 o)) x w)]),k,(d+1))))))))) (
 some (.brk (g,k,d)))
noncomputable def D0 (g:Tgt) (e f:Int) (d:List Opr) (h:Int) (k:List Int×List Due) (i:List Due) (b:List (Opr×Int×Int)):((List (List Int))×Int)→Option (Stp ((List (List Int))×Int) (Empty)):=fun (c,a) =>
 br (Ao (a<(ln b))) (
 ck (IX a (ln b)) <|
 bd (Gb ((ele b a).2.2) g e f d k.1 c h i ((ele b a).1) ((ele b a).2.1)) fun j =>
 ck (IR (a+1)) <|
 some (.next (j,(a+1)))) (
 some (.brk (c,a)))
noncomputable def F6 (e:Tgt) (a d:Int) (c:List Opr) (j:List Int) (f:List (List Int)) (g:Int) (i:List Due) (pace slot:Int):Option (List Int×List (List Int)×List Due) :=
 ck (IR (pace * a)) <|
 ck (IR ((pace * a)+slot)) <|
 bd (Dv e a d c j f g i ((pace * a)+slot)) fun b =>
 bd (lp (Cx e a d c f g pace slot b) (b.2,([]:List (Opr×Int×Int)),0)) fun k=>k.on (fun (h,n,p) =>
 bd (lp (D0 e a d c g b h n) (f,0)) fun l=>l.on (fun (m,o) =>
 some (b.1,m,h)) (fun r=>r.elim)) (fun r=>r.elim)
def Ah5 (r:List Int) (d:Due):List Int:=upd r d.reg d.v
theorem Agy:∀ (q:List Due) (r:List Int),(q.foldl Ah5 r).length=r.length
 | [],r=>rfl
 | d::q,r=>by rw[Acu,Agy q];unfold Ah5;rw[D9]
theorem Aoq {xs:List Int}{i x v:Int} (h:v∈upd xs i x):v=x∨v∈xs:=by
 unfold upd at h;rcases Agf h with h | h
 ·exact .inr h
 ·exact .inl h
theorem Aoi:∀ (q:List Due) (r:List Int),(∀ d∈q,InR d.v)→(∀ v∈r,InR v)→∀ v∈q.foldl Ah5 r,InR v
 | [],r,_,h=>h
 | d::q,r,hd,h=>Aoi q _ (fun e b=>hd e (Zf _ b)) fun v a=>by
  rcases Aoq a with rfl | a
  ·exact hd d (Z5 ..)
  ·exact h v a
theorem Ae8 {T:Int}{l:List Due} (h:∀ d∈l,d.due≠T):atT T l=[]:=List.filter_eq_nil_iff.2 fun d a=>by simpa using h d a
theorem Amr {T:Int}{l:List Due}{d:Due} (h:d∈atT T l):d∈l∧d.due=T:=by
 have:=Tr.1 h;exact⟨this.1,by simpa using this.2⟩
theorem Adf {c:Int}:∀ {S:List Due},Pp S→(∀ d∈S,c≤d.due)→∃ Z,S=atT c S++Z∧Pp Z∧∀ d∈Z,c+1≤d.due
 | [],_,_=>⟨[],rfl,List.Pairwise.nil,fun _ h=>by cases h⟩
 | x::S,hs,hc=>by
  obtain⟨g,i⟩:=Ak0.1 hs;by_cases e:x.due=c
  ·obtain⟨Z,a,b,d⟩:=Adf i fun d f=>hc d (Zf _ f)
   refine⟨Z,?_,b,d⟩;rw[show atT c (x::S)=x::atT c S from by unfold atT;rw[Afi (by simpa using e)],We,←a]
  ·have j:=hc x (Z5 ..)
   refine⟨x::S,?_,hs,fun d f=>?_⟩
   ·rw[Ae8 (T:=c) fun d f=>?_,Ww]
    rcases Gl.1 f with rfl | f
    ·exact e
    ·have:=g d f;omega
   ·rcases Gl.1 f with rfl | f
    ·omega
    ·have:=g d f;omega
def Rx (c:Int) (q:List Due):List Due:=q.filter fun d=>Ao (d.due≠c)
theorem Azz (c:Int) (q:List Due):q.length=(atT c q).length+(Rx c q).length:=by
 unfold atT Rx
 induction q with
 | nil=>rfl
 | cons x q a =>
  by_cases e:x.due=c
  ·rw[Afi (by simpa using e),Ac0 (by simpa using e)];simp only[Dx];omega
  ·rw[Ac0 (by simpa using e),Afi (by simpa using e)];simp only[Dx];omega
theorem A2c (c T:Int) (q:List Due):atT T (Rx c q)=if T=c then [] else atT T q:=by
 split
 ·rename_i h;subst h;exact Ae8 fun d a=>by have:=(Tr.1 a).2;simpa using this
 ·rename_i h
  unfold atT Rx;rw[List.filter_filter];refine List.filter_congr fun d _=>?_;by_cases e:d.due=T
  ·simp[e,h]
  ·simp[e]
theorem Aod {c:Int}{D S Z:List Due} (hs:Stb D S) (e:S=atT c S++Z) (g:∀ d∈Z,c+1≤d.due):Stb Z (Rx c D):=by
 have i:=Azz c D
 have b:S.length=(atT c S).length+Z.length:=by rw[←B2,←e]
 have f:=hs.2 c;refine⟨by rw[←f] at b;have:=hs.1;omega,fun T=>?_⟩;rw[A2c];split
 ·rename_i h;subst h;exact Ae8 fun d a=>by have:=g d a;omega
 ·rename_i h
  have e':atT T S=atT T Z:=by
   rw[show atT T S=atT T (atT c S++Z) from congrArg _ e,Abp,show atT T (atT c S)=[] from Ae8 fun d a=>by have:=(Amr a).2;omega,Ww]
  rw[hs.2 T,e']
theorem Avt {c:Int}{A Z:List Due}{r:List Int} (a:∀ d∈A,d.due≤c∧0≤d.reg∧d.reg<r.length) (b:∀ d∈Z,c<d.due) (j:(A++Z).length≤1000000):lp (Ea c (A++Z)) (r,0)=some (.go (A.foldl Ah5 r,(A.length:Int))):=by
 rw[B2] at j
 have X:=Gy (f:=Ea c (A++Z)) (ρ:=Empty) (fun i=>((A.take i).foldl Ah5 r,(i:Int))) A.length (fun i hi=>by
  have g:ele (A++Z) (i:Int)=ele A (i:Int):=by rw[C7,C7,Dy,Dy,Aa7 hi]
  have e:=a _ (Dt hi);have k:=Agy (A.take i) r;unfold Ea;simp only
  rw[g,Fc (fun _=>⟨Aa,by unfold ln;rw[B2];omega⟩),Lr (show (i:Int)<ln (A++Z) by unfold ln;rw[B2];omega),Lr e.1,Afy,br_true,
   A7 Aa (by unfold ln;rw[B2];omega),A7 Aa (by unfold ln;rw[B2];omega),A7 Aa (by unfold ln;omega),Av Aa Aa,J5 hi,Z4]
  rfl) (by
  unfold Ea;simp only;rw[Fc (fun h=>⟨Aa,Af7 h⟩)]
  cases Z with
  | nil=>rw[Nl,Wc (show ¬(A.length:Int)<ln A by unfold ln;omega),Acs,br_false]
  | cons z Z =>
   have:=b z (Z5 ..)
   rw[Rh rfl,Wc (show ¬z.due≤c from Aa),Bool.and_false,br_false])
 rw[Xa] at X;exact X
theorem Ayc {t:Tgt}{p s:Int}{ops:List Opr}{M:List (List Int)}{N c:Int}{D S A Z:List Due}{r:List Int} (b:Bl D=some S) (e:S=A++Z) (a:∀ d∈A,d.due≤c∧0≤d.reg∧d.reg<r.length) (f:∀ d∈Z,c<d.due) (g:S.length≤1000000) :
  Dv t p s ops r M N D c=some (A.foldl Ah5 r,Z):=by
 unfold Dv;rw[b,bd_ret,e,Avt a f (by rw[←e];exact g),bd_ret,Out.on_go];simp only;rw[Ra Aa (by unfold ln;rw[B2];omega) Aa];unfold sub ln;rw[Iw,List.drop_left,Wf (by rw[B2];omega)]
def Ah9 (N pa sl:Int) (o:Opr):Bool:=!(((o.slot != sl) || (Ao (pa - o.stage<0))) || (Ao (pa - o.stage≥N)))
def rgO (t:Tgt) (r:List Int) (x pa:Int):Int:=ele r ((x+pa) % t.regs)
def ixO (logs:List Int) (pa:Int) (o:Opr):Int:=idx o.sp o.pl (pa - o.stage) (ele logs o.ar)
def A0y (t:Tgt) (logs r:List Int) (M:List (List Int)) (pa:Int) (o:Opr):Int :=
 if o.op=1 then o.n else if o.op=2 then pa - o.stage else if o.op=3 then ele (ele M o.ar) (ixO logs pa o) else if o.op=4 then rgO t r o.a pa else opV (o.op - 10) (rgO t r o.a pa) (rgO t r o.b pa)
def A1a (t:Tgt) (logs r:List Int) (M:List (List Int)) (now pa:Int) (o:Opr):Due:=⟨now+E4 t o.op,(o.dest+pa) % t.regs,A0y t logs r M pa o⟩
def putO (t:Tgt) (logs r:List Int) (pa:Int) (W:List (List Int)) (o:Opr):List (List Int):=updG W o.ar (ixO logs pa o) (rgO t r o.a pa)
def stO (t:Tgt) (logs r:List Int) (pa:Int) (W:List (List Int)) (o:Opr):List (List Int):=if o.op=4 then putO t logs r pa W o else W
abbrev MemG (logs:List Int) (M:List (List Int)):Prop:=MemOk ⟨logs,[],[]⟩ M
theorem MemG.tO {logs:List Int}{M:List (List Int)} (h:MemG logs M) (o:Opr):MemOk (lpO logs o) M:=⟨h.len,h.row,h.rng⟩
structure RegsG (t:Tgt) (r:List Int):Prop where
 len:(r.length:Int)=t.regs
 rng:∀ v∈r,InR v
theorem Ati {t:Tgt}{k:Krn}{o:Opr}{logs:List Int} (h:Uq t k o logs):o.op=1∨o.op=2∨(o.op=3∧Lc logs.length (Gv o))∨(o.op=4∧Lc logs.length (Gv o))∨(11≤o.op∧o.op≤18):=by
 have a:=(h.2.2.stm 1 (show 1<2 from Aa)).2.2;have b:((lpO logs o).body.getD 1 Stm.zero)=Gv o:=rfl;rw[b] at a;have c:(Gv o).op=o.op:=rfl;have d:(lpO logs o).logs=logs:=rfl;rw[c,d] at a;rcases a with h | h | h | h | h
 ·exact .inl h.1
 ·exact .inr (.inl h.1)
 ·exact .inr (.inr (.inl ⟨h.1,h.2.2.1⟩))
 ·exact .inr (.inr (.inr (.inl ⟨h.1,h.2.2.1⟩)))
 ·exact .inr (.inr (.inr (.inr ⟨h.1,h.2.1⟩)))
section
variable {t : Tgt} {k : Krn} {logs : List Int} {o : Opr}
theorem Aqz {r:List Int} (a:RegsG t r) (x pa:Int):InR (rgO t r x pa):=Ae7 a.rng _
theorem A1g (h:Uq t k o logs) {M:List (List Int)} (b:MemG logs M) (i:Lc logs.length (Gv o)) (u:Int):IX o.ar (ln M)∧IX o.ar (ln logs)∧IX (idx o.sp o.pl u (ele logs o.ar)) (ln (ele M o.ar))∧∃ L:Nat,L≤5∧ele logs o.ar=L∧(ele M o.ar).length=2 ^ L:=by
 obtain⟨w1,w2,j⟩:=Al0 (l:=lpO logs o) (s:=Gv o) h.2.2 (b.tO o) i u;have f:(Gv o).ar=o.ar:=rfl;have g:(lpO logs o).logs=logs:=rfl;rw[f] at w1 w2;rw[g] at w2
 have e:((o.ar.toNat:Nat):Int)=o.ar:=by have:=w1.1;omega
 have c:=h.2.2.log o.ar.toNat (by have:=w2.2;unfold ln at this;show o.ar.toNat<logs.length;have:=w2.1;omega);rw[show (lpO logs o).logs.getD o.ar.toNat 0=ele logs ((o.ar.toNat:Nat):Int) from rfl,e] at c;have d:=b.row o.ar.toNat (by have:=w1.2;unfold ln at this;have:=w1.1;omega);rw[show M.getD o.ar.toNat []=ele M ((o.ar.toNat:Nat):Int) from rfl,show (⟨logs,[],[]⟩:Lp).logs.getD o.ar.toNat 0=ele logs ((o.ar.toNat:Nat):Int) from rfl,e] at d;obtain⟨L,a⟩:=H6 c.1;rw[a,Iw] at d;have m:=Aw9 (show L≤5 from Aa);exact⟨w1,w2,j,L,Aa,a,Aa⟩
theorem Axr (h:Uq t k o logs) {M:List (List Int)} (d:MemG logs M) (e:Lc logs.length (Gv o)) (u:Int) (f:Tgt) (p s:Int) (ops:List Opr) (r:List Int) (N:Int) (q:List Due) :
  Ef f p s ops r M N q o u=some (o.ar,idx o.sp o.pl u (ele logs o.ar)):=by
 obtain⟨w1,w2,g,L,b,c,a⟩:=A1g h d e u;unfold Ef;rw[Au w1,show ln (ele M o.ar)=((2 ^ L:Nat):Int) from by unfold ln;rw[a],A4m b,bd_ret,Av Aa Aa,show (L:Int)+1 - 1=L from Aa,Xy,bd_ret,←c,Au (by rw[show ((2 ^ L:Nat):Int)=ln (ele M o.ar) from by unfold ln;rw[a]];exact g)]
theorem A1i (h:Uq t k o logs) (b:InR o.n) {r:List Int}{M:List (List Int)} (c:RegsG t r) (a:MemG logs M) {pa:Int} (d:0≤pa∧pa≤300000) (hs:o.stage≤1001∧0≤o.stage):InR (A0y t logs r M pa o):=by
 unfold A0y;split
 ·exact b
 split
 ·constructor <;> omega
 split
 ·exact T9 a.rng _ _
 split
 ·exact Aqz c _ _
 ·exact Atj _ _ _
theorem A5p {r:List Int} (b:RegsG t r) {pa:Int}{W:List (List Int)} (a:MemG logs W):MemG logs (putO t logs r pa W o):=a.updG _ _ _ (Aqz b _ _)
theorem st_ok {r:List Int} (b:RegsG t r) {pa:Int}{W:List (List Int)} (a:MemG logs W):MemG logs (stO t logs r pa W o):=by
 unfold stO;split
 ·exact A5p b a
 ·exact a
theorem Atr {r:List Int} (a:RegsG t r) {pa:Int}:∀ (L:List Opr) {W:List (List Int)},MemG logs W→MemG logs (L.foldl (stO t logs r pa) W)
 | [],_,h=>h
 | o::L,_,h=>Atr a L (st_ok a h)
theorem Alg {r:List Int}{pa:Int} (f:Opr→Bool):∀ (L:List Opr) (W:List (List Int)),(L.filter f).foldl (stO t logs r pa) W=(L.filter fun o=>f o&&o.op==4).foldl (putO t logs r pa) W
 | [],_=>rfl
 | o::L,W=>by
  by_cases h:f o=true
  ·by_cases a:o.op=4
   ·rw[Afi h,Afi (by simp[h,a]),Acu,Acu,Alg f L]
    unfold stO;rw[Bg a]
   ·rw[Afi h,Ac0 (by simp[a]),Acu,Alg f L]
    unfold stO;rw[Bb a]
  ·rw[Ac0 h,Ac0 (by simp[h]),Alg f L]
end
theorem Axp {n b:Nat} (h:n≤10000000) (a:b≤32):AL n b:=⟨by rw[Ej];omega,Nk (Nat.mul_le_mul h a) Aa⟩
section
variable {t : Tgt} {k : Krn} {logs : List Int}
theorem Aya (a:KMayP t k logs) {i:Nat} (hi:i<k.ops.length):Uq t k (ele k.ops (i:Int)) logs∧0≤(ele k.ops (i:Int)).stage∧(ele k.ops (i:Int)).stage≤1001∧1≤t.regs∧t.regs≤128:=by
 have h:=a.one i hi;have hs:=a.stages;have d:=Fq.1 a.tgt;obtain⟨⟨_,_,b,c,_⟩,_⟩:=h;refine⟨a.one i hi,b,Aa,?_,?_⟩ <;> omega
def stV (t:Tgt) (r:List Int) (pa:Int) (o:Opr):Opr×Int×Int:=(o,pa - o.stage,rgO t r o.a pa)
theorem Aw8 (a:KMayP t k logs) (p s N x:Int) {pa:Int} (b:0≤pa∧pa≤300000) (d:0≤x∧x<t.regs):Cv t p s N x pa=some ((x+pa) % t.regs):=by
 have c:=Fq.1 a.tgt;unfold Cv;rw[Av Aa Aa,Au Aa,Ais Aa]
theorem Az4 (f:KMayP t k logs) {N now pa sl:Int} (T:0≤now∧now≤300000) (F:pa * k.pace+sl=now) (q:0≤pa∧pa≤300000) {r:List Int} (G:RegsG t r) {M:List (List Int)} (B:MemG logs M) {Q Z:List Due} (K:Q.length≤1000000) {V:List (Opr×Int×Int)} (P:V.length≤1000) {i:Nat} (hi:i<k.ops.length) :
  Cx t k.pace k.stages k.ops M N pa sl (r,Z) (Q,V,(i:Int))=some (.next (if Ah9 N pa sl (ele k.ops (i:Int))=true then Q++[A1a t logs r M now pa (ele k.ops (i:Int))] else Q,if (Ah9 N pa sl (ele k.ops (i:Int))&&(ele k.ops (i:Int)).op==4)=true then V++[stV t r pa (ele k.ops (i:Int))] else V,(i:Int)+1)):=by
 obtain⟨p,X,Y,L,O⟩:=Aya f hi;have S:=f.n;have U:=f.pace;have W:=G.len;unfold Cx;simp only;rw[Ce (by unfold ln;omega),A7 Aa (by unfold ln;omega),F];generalize ele k.ops (i:Int)=o at *;obtain⟨_,⟨v,w,x,y,z,A,I,J⟩,_⟩:=id p;rw[Av Aa Aa];by_cases e:Ah9 N pa sl o=true
 ·have l:(((o.slot != sl) || (Ao (pa - o.stage<0))) || (Ao (pa - o.stage≥N)))=Ay:=by unfold Ah9 at e;simpa using e
  have a0:0≤pa - o.stage:=by
   rw[Ss,Ss,H5] at l;omega
  have s:∀ a:Int,0≤(a+pa) % t.regs∧(a+pa) % t.regs<t.regs:=fun a=>⟨Q3 _ Aa,Q4 _ Aa⟩;have C:=s o.a;have E:=s o.b;have c:0≤Ka o.op∧Ka o.op<3:=Ki _;have a1:=Tx t o.op
  have H:Cq t.w0 t.w1 t.w2 (Ka o.op)=E4 t o.op:=by unfold E4;rw[Bg f.tgt]
  have g:∀ d:Due,AL (Q++[d]).length 24:=fun d=>Axp (by rw[B2,Lf];omega) Aa;rw[l,br_false,e,Q0,Bg rfl,Aw8 f _ _ _ _ q ⟨x,y⟩,bd_ret,A7 C.1 (by unfold ln;omega),Aw8 f _ _ _ _ q ⟨z,A⟩,bd_ret,A7 E.1 (by unfold ln;omega)];simp only[Ov,bd_some',Aw8 f _ _ _ _ q ⟨v,w⟩,H];unfold A1a A0y stV ixO rgO;rcases Ati p with h | h | ⟨h,u⟩ | ⟨h,u⟩ | h
  ·rw[show (o.op==1)=true from by simpa using h,br_true,A7 c.1 c.2,Av Aa Aa,Au (g _),Av Aa Aa,Bg h,Bb (by simp;omega)]
  ·rw[show (o.op==1)=Ay from by rw[h];rfl,br_false,show (o.op==2)=true from by simpa using h,br_true,A7 c.1 c.2,Av Aa Aa,Au (g _),Av Aa Aa,Bb Aa,Bg h,Bb (by simp;omega)]
  ·rw[show (o.op==1)=Ay from by rw[h];rfl,br_false,show (o.op==2)=Ay from by rw[h];rfl,br_false,show (o.op==3)=true from by simpa using h,br_true,Axr p B u,bd_ret,A7 c.1 c.2,Av Aa Aa,Au (g _),Av Aa Aa,Bb Aa,Bb Aa,Bg h,Bb (by simp;omega)]
  ·rw[show (o.op==1)=Ay from by rw[h];rfl,br_false,show (o.op==2)=Ay from by rw[h];rfl,br_false,show (o.op==3)=Ay from by rw[h];rfl,br_false,show (o.op==4)=true from by simpa using h,br_true,Au (Axp (by rw[B2,Lf];omega) Aa),A7 c.1 c.2,Av Aa Aa,Au (g _),Av Aa Aa,Bb Aa,Bb Aa,Bb Aa,Bg h,Bg rfl]
  ·have m:∀ j:Int,j≤4→(o.op==j)=Ay:=fun j R=>by rw[Wy];omega
   rw[m 1 Aa,br_false,m 2 Aa,br_false,m 3 Aa,br_false,m 4 Aa,br_false,Av Aa Aa,Aom,bd_ret,A7 c.1 c.2,Av Aa Aa,Au (g _),Av Aa Aa,Bb Aa,Bb Aa,Bb Aa,Bb Aa,Bb Ba]
 ·have l:(((o.slot != sl) || (Ao (pa - o.stage<0))) || (Ao (pa - o.stage≥N)))=true:=by unfold Ah9 at e;rwa [Bool.not_eq_true,Aqj] at e
  rw[l,br_true,Av Aa Aa,Bb e,Bb (by simp[e])]
def Wr (t:Tgt) (k:Krn) (logs r:List Int) (M:List (List Int)) (N now pa sl:Int) (n:Nat):List Due:=((k.ops.take n).filter (Ah9 N pa sl)).map (A1a t logs r M now pa)
def Aun (t:Tgt) (k:Krn) (logs r:List Int) (N pa sl:Int) (n:Nat) (M:List (List Int)):List (List Int):=((k.ops.take n).filter (Ah9 N pa sl)).foldl (stO t logs r pa) M
theorem Aoo (t:Tgt) (k:Krn) (logs r:List Int) (M:List (List Int)) (N now pa sl:Int) (n:Nat):(Wr t k logs r M N now pa sl n).length≤n:=by
 unfold Wr;rw[Ge];exact Nk (Aqn _ _) (by rw[Kb];omega)
theorem Avn {r:List Int}{M:List (List Int)}{N now pa sl:Int}{i:Nat} (hi:i<k.ops.length):Wr t k logs r M N now pa sl (i+1)=if Ah9 N pa sl (ele k.ops (i:Int))=true then Wr t k logs r M N now pa sl i++[A1a t logs r M now pa (ele k.ops (i:Int))] else Wr t k logs r M N now pa sl i:=by
 unfold Wr;rw[J5 hi,Aqh,Qh];split
 ·rename_i h;rw[Afi h];rfl
 ·rename_i h;rw[Ac0 h];simp
def Y6 (t:Tgt) (k:Krn) (r:List Int) (N pa sl:Int) (n:Nat):List (Opr×Int×Int):=((k.ops.take n).filter fun o=>Ah9 N pa sl o&&o.op==4).map (stV t r pa)
theorem An4 (t:Tgt) (k:Krn) (r:List Int) (N pa sl:Int) (n:Nat):(Y6 t k r N pa sl n).length≤n:=by
 unfold Y6;rw[Ge];exact Nk (Aqn _ _) (by rw[Kb];omega)
theorem A5v (a:KMayP t k logs) {N now pa sl:Int} (c:0≤now∧now≤300000) (e:pa * k.pace+sl=now) (d:0≤pa∧pa≤300000) {r:List Int} (g:RegsG t r) {M:List (List Int)} (b:MemG logs M) {Q Z:List Due} (l:Q.length≤100000) :
  lp (Cx t k.pace k.stages k.ops M N pa sl (r,Z)) (Q,[],0)=some (.go (Q++Wr t k logs r M N now pa sl k.ops.length,Y6 t k r N pa sl k.ops.length,(k.ops.length:Int))):=by
 have m:=a.n
 have X:=Gy (f:=Cx t k.pace k.stages k.ops M N pa sl (r,Z)) (ρ:=Empty) (fun i=>(Q++Wr t k logs r M N now pa sl i,Y6 t k r N pa sl i,(i:Int))) k.ops.length (fun i hi=>by
  have o:=Aoo t k logs r M N now pa sl i;have p:=An4 t k r N pa sl i;rw[Az4 a c e d g b (by rw[B2];omega) Aa hi,Avn hi]
  have j:Y6 t k r N pa sl (i+1)=if (Ah9 N pa sl (ele k.ops (i:Int))&&(ele k.ops (i:Int)).op==4)=true then Y6 t k r N pa sl i++[stV t r pa (ele k.ops (i:Int))] else Y6 t k r N pa sl i:=by
   unfold Y6;rw[J5 hi,Aqh,Qh];split
   ·rename_i h;rw[List.filter_cons,Bg h];rfl
   ·rename_i h;rw[List.filter_cons,Bb h];simp
  rw[j];congr 3;split
  ·rw[Gw]
  ·rfl) (by unfold Cx;exact Ch (by unfold ln;omega))
 rw[show Wr t k logs r M N now pa sl 0=[] from rfl,Nl] at X;exact X
end
section
variable {t : Tgt} {k : Krn} {logs : List Int}
def putV (logs:List Int) (W:List (List Int)) (v:Opr×Int×Int):List (List Int):=updG W v.1.ar (idx v.1.sp v.1.pl v.2.1 (ele logs v.1.ar)) v.2.2
theorem Ajt:∀ (L:List (Opr×Int×Int)) {W:List (List Int)},(∀ v∈L,InR v.2.2)→MemG logs W→MemG logs (L.foldl (putV logs) W)
 | [],_,_,h=>h
 | v::L,_,hv,h=>Ajt L (fun u a=>hv u (Zf _ a)) (h.updG _ _ _ (hv v (Z5 ..)))
theorem A1h (g:KMayP t k logs) {r:List Int} (q:RegsG t r) {N pa sl:Int}{M:List (List Int)} (p:MemG logs M) {Q Z:List Due} :
  lp (D0 t k.pace k.stages k.ops N (r,Z) Q (Y6 t k r N pa sl k.ops.length)) (M,0)=some (.go (Aun t k logs r N pa sl k.ops.length M,((Y6 t k r N pa sl k.ops.length).length:Int))):=by
 have x:=g.n;have y:=An4 t k r N pa sl k.ops.length
 have l:∀ v∈Y6 t k r N pa sl k.ops.length,∃ i:Nat,i<k.ops.length∧v=stV t r pa (ele k.ops (i:Int))∧(ele k.ops (i:Int)).op=4:=fun v a=>by
  unfold Y6 at a;obtain⟨o,b,rfl⟩:=Iv.1 a;obtain⟨m,c⟩:=Tr.1 b;obtain⟨i,hi,e⟩:=Qa (Ze m);exact⟨i,hi,by rw[e],by rw[e];simp at c;exact c.2⟩
 have s:∀ v∈Y6 t k r N pa sl k.ops.length,InR v.2.2:=fun v a=>by
  obtain⟨i,_,rfl,_⟩:=l v a;exact Aqz q _ _
 have e:Aun t k logs r N pa sl k.ops.length M=(Y6 t k r N pa sl k.ops.length).foldl (putV logs) M:=by
  unfold Aun Y6;rw[Alg,List.foldl_map];rfl
 rw[e];generalize hV:Y6 t k r N pa sl k.ops.length=V at *
 have X:=Gy (f:=D0 t k.pace k.stages k.ops N (r,Z) Q V) (ρ:=Empty) (fun j=>((V.take j).foldl (putV logs) M,(j:Int))) V.length (fun j d=>by
  obtain⟨i,hi,ev,w⟩:=l _ (Dt d);have b:=g.one i hi
  have u:Lc logs.length (Gv (ele k.ops (i:Int))):=by rcases Ati b with h | h | h | h | h <;> first | exact h.2 | omega
  unfold D0 Gb;simp only;rw[Ce (by unfold ln;omega),A7 Aa (by unfold ln;omega),J5 d,Z4];rw[ev];show (bd (bd (Ef t k.pace k.stages k.ops r _ N Q (ele k.ops (i:Int)) (pa - (ele k.ops (i:Int)).stage)) _) _)=_;rw[Axr b (Ajt _ (fun v a=>s v (Ze a)) p) u,bd_ret,bd_ret,Av Aa Aa]
  rfl) (by unfold D0;exact Ch (by unfold ln;omega))
 rw[Xa] at X;exact X
theorem cyc_k (b:KMayP t k logs) {N now pa sl:Int} (g:0≤now∧now≤300000) (c:pa * k.pace+sl=now) (h:0≤pa∧pa≤300000) (i:0≤sl∧sl≤200) {r r1:List Int}{M:List (List Int)}{D Z:List Due}
  (f:Dv t k.pace k.stages k.ops r M N D now=some (r1,Z)) (d:RegsG t r1) (a:MemG logs M) (e:Z.length≤100000) :
  F6 t k.pace k.stages k.ops r M N D pa sl=some (r1,Aun t k logs r1 N pa sl k.ops.length M,Z++Wr t k logs r1 M N now pa sl k.ops.length):=by
 unfold F6;rw[Av Aa Aa,c,Av Aa Aa,f,bd_ret];show (bd (lp (Cx t k.pace k.stages k.ops M N pa sl (r1,Z)) (Z,[],0)) _)=_;rw[A5v b g c h d a e,bd_ret,Out.on_go];simp only;rw[A1h b d a,bd_ret,Out.on_go]
abbrev MSt:=List Due×List Int×List (List Int)
def r1S (c:Int) (x:MSt):List Int:=(atT c x.1).foldl Ah5 x.2.1
def Anp (t:Tgt) (k:Krn) (logs:List Int) (N c:Int) (x:MSt):MSt :=
 (Rx c x.1++Wr t k logs (r1S c x) x.2.2 N c (c / k.pace) (c % k.pace) k.ops.length,r1S c x,Aun t k logs (r1S c x) N (c / k.pace) (c % k.pace) k.ops.length x.2.2)
def Ass (c:Int) (x:MSt):MSt:=(Rx c x.1,r1S c x,x.2.2)
def stS (t:Tgt) (k:Krn) (logs:List Int) (N:Int) (x0:MSt) (last:Nat):Nat→MSt
 | 0=>x0
 | c+1=>if c<last then Anp t k logs N c (stS t k logs N x0 last c) else Ass c (stS t k logs N x0 last c)
structure InvS (t:Tgt) (logs:List Int) (c:Int) (x:MSt):Prop where
 regs:RegsG t x.2.1
 mem:MemG logs x.2.2
 due:∀ d∈x.1,c≤d.due∧d.due≤c+5∧0≤d.reg∧d.reg<t.regs∧InR d.v
 cnt:∀ j:Nat,j≤6→x.1.countP (fun d=>Ao (c+j≤d.due))≤16 * (6 - j)
theorem InvS.len {c:Int}{x:MSt} (h:InvS t logs c x):x.1.length≤96:=by
 have:=h.cnt 0 Aa;rw[List.countP_eq_length.2 fun d a=>by have:=(h.due d a).1;simpa using this] at this;omega
theorem InvS.r1 {c:Int}{x:MSt} (h:InvS t logs c x):RegsG t (r1S c x):=by
 refine⟨by unfold r1S;rw[Agy];exact h.regs.len,Aoi _ _ (fun d a=>(h.due d (Amr a).1).2.2.2.2) h.regs.rng⟩
theorem InvS.tail {c:Int}{x:MSt} (h:InvS t logs c x):InvS t logs (c+1) (Ass c x):=by
 have e:∀ d∈Rx c x.1,d∈x.1∧d.due≠c:=fun d a=>by
  have:=Tr.1 a;exact⟨this.1,by simpa using this.2⟩
 refine⟨h.r1,h.mem,fun d a=>?_,fun j n=>?_⟩
 ·obtain⟨b,m⟩:=e d a
  obtain⟨o,p,g,i,l⟩:=h.due d b;exact⟨Aa,Aa,g,i,l⟩
 ·show (Rx c x.1).countP _≤_
  by_cases f:j=6
  ·subst f
   rw[Aqm.2 fun d a=>by have:=h.due d (e d a).1;simp;omega];omega
  ·have b:=h.cnt (j+1) Aa
   refine Nk (Nk ((List.filter_sublist ..).countP_le) ?_) (Nk b Aa);refine List.countP_mono_left fun d _ a=>?_;simp at a ⊢;omega
theorem A12 (a:KMayP t k logs) (l:∀ i:Nat,i<k.ops.length→InR (ele k.ops (i:Int)).n) {r:List Int}{M:List (List Int)} (q:RegsG t r) (j:MemG logs M) {N now pa sl:Int} (p:0≤pa∧pa≤300000) :
  ∀ d∈Wr t k logs r M N now pa sl k.ops.length,now+1≤d.due∧d.due≤now+6∧0≤d.reg∧d.reg<t.regs∧InR d.v:=fun d g=>by
 unfold Wr at g;obtain⟨o,m,rfl⟩:=Iv.1 g;obtain⟨i,hi,e⟩:=Qa (Ze (Tr.1 m).1);obtain⟨b,c,f,s,u⟩:=Aya a hi;have h:=l i hi;rw[e] at b c f h
 have y:1≤E4 t o.op∧E4 t o.op≤6:=by
  have x:=Fq.1 a.tgt;have w:=Ki o.op;unfold E4;rw[Bg a.tgt];unfold Cq;split <;> (try split) <;> omega
 refine⟨by show now+1≤now+_;omega,by show now+_≤now+6;omega,Q3 _ Aa,Q4 _ Aa,A1i b h q j p ⟨f,c⟩⟩
theorem InvS.step (f:KMayP t k logs) (q:∀ i:Nat,i<k.ops.length→InR (ele k.ops (i:Int)).n) {N c:Int} (z:0≤c∧c≤300000) {x:MSt} (h:InvS t logs c x):InvS t logs (c+1) (Anp t k logs N c x):=by
 have F:=f.pace;have B:=f.n;have r:=Af2 (show 0≤c from Aa) (show 0≤k.pace from Aa);have G:=Af5 (b:=k.pace) (show 0≤c from Aa);have m:=A12 (N:=N) (now:=c) (sl:=c % k.pace) f q h.r1 h.mem (pa:=c / k.pace) ⟨r,Aa⟩;have g:=h.tail;refine⟨g.regs,Atr h.r1 _ h.mem,fun d a=>?_,fun j A=>?_⟩
 ·rcases Fw.1 a with a | a
  ·exact g.due d a
  ·obtain⟨H,I,s,u,v⟩:=m d a
   exact⟨Aa,Aa,s,u,v⟩
 ·show (Rx c x.1++Wr t k logs (r1S c x) x.2.2 N c (c / k.pace) (c % k.pace) k.ops.length).countP _≤_
  rw[Ak1];have E:=Aoo t k logs (r1S c x) x.2.2 N c (c / k.pace) (c % k.pace) k.ops.length;by_cases o:j=6
  ·subst o
   have e:=g.cnt 6 Aa;rw[show (Ass c x).1=Rx c x.1 from rfl] at e;rw[Aqm (l:=Wr ..).2 fun d a=>by have:=m d a;simp;omega];omega
  ·have C:∀ d∈Rx c x.1,d∈x.1∧d.due≠c:=fun d a=>by
    have:=Tr.1 a;exact⟨this.1,by simpa using this.2⟩
   have e:=h.cnt (j+1) Aa
   have w:(Rx c x.1).countP (fun d=>Ao (c+1+(j:Int)≤d.due))≤16 * (6 - (j+1)):=by
    refine Nk (Nk ((List.filter_sublist ..).countP_le) ?_) e;refine List.countP_mono_left fun d _ a=>?_;simp at a ⊢;omega
   have y:=List.countP_le_length (p:=fun d:Due=>Ao (c+1+(j:Int)≤d.due)) (l:=Wr t k logs (r1S c x) x.2.2 N c (c / k.pace) (c % k.pace) k.ops.length);omega
theorem A2h {c:Int} (m:0≤c∧c≤300000) {x:MSt} (h:InvS t logs c x) {D:List Due} (e:Stb D x.1) (p s:Int) (ops:List Opr) (M:List (List Int)) (N:Int) :
  ∃ Z,Dv t p s ops x.2.1 M N D c=some (r1S c x,Z)∧Stb Z (Rx c x.1):=by
 have n:=h.len;have f:∀ d∈D,c≤d.due∧d.due≤c+5∧0≤d.reg∧d.reg<t.regs∧InR d.v:=fun d a=>h.due d (e.mem.1 a);obtain⟨S,i,j,b⟩:=Ab7 (D:=D) (fun d a=>by have:=f d a;exact⟨Aa,Aa⟩) (by rw[e.1];omega);obtain⟨Z,g,z2,z3⟩:=Adf (c:=c) j fun d a=>(f d (b.mem.2 a)).1
 have hat:atT c S=atT c x.1:=by rw[←b.2 c,e.2 c]
 refine⟨Z,?_,?_⟩
 ·rw[Ayc (A:=atT c S) (Z:=Z) i g (fun d a=>by
   obtain⟨l,o⟩:=Amr a;have:=f d (b.mem.2 l);have:=h.regs.len
   omega) (fun d a=>by have:=z3 d a;omega) (by rw[←b.1,e.1];omega),hat]
  rfl
 ·exact(Aod (b.symm.trans e).symm g z3)
end
noncomputable def K6 (o:Opr):Option (Stm) :=
 some (Stm.mk o.op (Rf.mk 0 0) (Rf.mk 0 0) o.ar o.sp o.pl o.n)
noncomputable def Gs (a:Krn) (o:Opr):Option (Int) :=
 ck (IR (o.stage * a.pace)) <|
 ck (IR ((o.stage * a.pace)+o.slot)) <|
 some ((o.stage * a.pace)+o.slot)
noncomputable def Me (a b n:Int) (t:Tgt):Option (Bool) :=
 some ((a==0) || (((Ao (n>b))&&(Ao (a>0)))&&(Ao (a<t.regs))))
noncomputable def Qm (t:Tgt) (c:Krn) (o:Opr) (logs:List Int):Option (Bool) :=
 bd (K6 o) fun d =>
 bd (E9 d) fun g =>
 bd (show Option (Out (Int×Int×Int×Int) (Empty)) from br (Ao ((ln g)>0)) (
 some (.go (0,0,0,0))) (
 some (.go (d.a.st,d.a.bk,d.b.st,d.b.bk)))) fun m=>m.on (fun (i,j,k,l) =>
 bdG ((((Ao (o.slot≥0))&&(Ao (o.slot<c.pace)))&&(Ao (o.stage≥0)))&&(Ao (o.stage<c.stages))) (Gs c o) fun e =>
 bdG (((((Ao (o.slot≥0))&&(Ao (o.slot<c.pace)))&&(Ao (o.stage≥0)))&&(Ao (o.stage<c.stages)))&&(Ao (e≤1000))) (Ib (Lp.mk logs [(Stm.mk 1 (Rf.mk 0 0) (Rf.mk 0 0) 0 0 0 0),(Stm.mk d.op (Rf.mk i j) (Rf.mk k l) d.ar d.sp d.pl d.n)] [])) fun f =>
 bdG ((((((((Ao (o.slot≥0))&&(Ao (o.slot<c.pace)))&&(Ao (o.stage≥0)))&&(Ao (o.stage<c.stages)))&&(Ao (e≤1000)))&&f)&&(Ao (o.dest≥0)))&&(Ao (o.dest<t.regs))) (Me o.a 0 (ln g) t) fun h =>
 bdG (((((((((Ao (o.slot≥0))&&(Ao (o.slot<c.pace)))&&(Ao (o.stage≥0)))&&(Ao (o.stage<c.stages)))&&(Ao (e≤1000)))&&f)&&(Ao (o.dest≥0)))&&(Ao (o.dest<t.regs)))&&h) (Me o.b 1 (ln g) t) fun p =>
 some ((((((((((Ao (o.slot≥0))&&(Ao (o.slot<c.pace)))&&(Ao (o.stage≥0)))&&(Ao (o.stage<c.stages)))&&(Ao (e≤1000)))&&f)&&(Ao (o.dest≥0)))&&(Ao (o.dest<t.regs)))&&h)&&p)) (fun r=>r.elim)
noncomputable def K7 (t:Tgt) (b:Krn) (logs:List Int):((List ((Int×Int)×Int))×Int)→Option (Stp ((List ((Int×Int)×Int))×Int) (Bool)):=fun (d,a) =>
 br (Ao (a<(ln b.ops))) (
 ck (IX a (ln b.ops)) <|
 bd (Qm t b (ele b.ops a) logs) fun e =>
 br (!e) (
 some (.ret Ay)) (
 bd (E8 ((ele b.ops a).op)) fun c =>
 ck (IR ((Fp d ((ele b.ops a).slot,c) 0)+1)) <|
 ck (IX c 3) <|
 br (Ao ((Fp (N4 d ((ele b.ops a).slot,c) ((Fp d ((ele b.ops a).slot,c) 0)+1)) ((ele b.ops a).slot,c) 0)>(Cq t.u0 t.u1 t.u2 c))) (
 some (.ret Ay)) (
 ck (IR (a+1)) <|
 some (.next ((N4 d ((ele b.ops a).slot,c) ((Fp d ((ele b.ops a).slot,c) 0)+1)),(a+1)))))) (
 some (.brk (d,a)))
noncomputable def Kn (t:Tgt) (a:Krn) (logs:List Int):Option (Bool) :=
 bd (Gn t) fun c =>
 br (((((((!c) || (Ao (a.pace<1))) || (Ao (a.pace>200))) || (Ao (a.stages<1))) || (Ao (a.stages>1001))) || (Ao ((ln a.ops)<1))) || (Ao ((ln a.ops)>16))) (
 some Ay) (
 bd (lp (K7 t a logs) (([]:List ((Int×Int)×Int)),0)) fun b=>b.on (fun (d,e) =>
 some true) (fun r=>some r))
def lpC (logs:List Int) (o:Opr):Lp:=⟨logs,[⟨1,⟨0,0⟩,⟨0,0⟩,0,0,0,0⟩,Gv o],[]⟩
theorem A17 {logs:List Int}{o:Opr}:LoopOk (lpC logs o)↔LoopOk (lpO logs o):=by
 have b:Rf.isZero ⟨0,0⟩:=⟨rfl,rfl⟩
 have key:∀ s c:Stm,(Vc logs.length 2 0 c)→LoopOk ⟨logs,[s,Gv o],[]⟩→LoopOk ⟨logs,[c,Gv o],[]⟩:=fun s c hs h=>by
  refine⟨h.1,h.2.1,h.2.2.1,h.2.2.2.1,h.2.2.2.2.1,fun j e=>?_⟩
  have d:j=0∨j=1:=by
   have:(Lp.mk logs [c,Gv o] []).body.length=2:=rfl;omega
  rcases d with rfl | rfl
  ·exact hs
  ·exact h.2.2.2.2.2 1 (by show (1:Int)<2;omega)
 refine⟨fun h=>key _ _ ?_ h,fun h=>key _ _ ?_ h⟩
 ·refine⟨fun a=>?_,fun a=>absurd a Ai,.inr (.inl ⟨rfl,rfl,⟨rfl,rfl,rfl⟩,b,b⟩)⟩
  rcases a with a | a <;> exact absurd a Ai
 ·refine⟨fun a=>?_,fun a=>absurd a Ai,.inl ⟨rfl,⟨rfl,rfl,rfl⟩,b,b⟩⟩
  rcases a with a | a <;> exact absurd a Ai
theorem A1j (o:Opr):((Bk (Gv o)).length:Int)=Rw o.op:=by
 unfold Bk Rw;rw[show (Gv o).op=o.op from rfl];by_cases h:o.op=4
 ·rw[Bg h,Bg h];rfl
 ·by_cases a:o.op>10
  ·rw[Bb h,Bg a,Bb h,Bg a];rfl
  ·rw[Bb h,Bb a,Bb h,Bb a];rfl
theorem Azv {logs:List Int}{o:Opr} (h:(lpO logs o).Fine):(lpC logs o).Fine:=by
 have a:InR 0:=by unfold InR;omega
 have c:InR 1:=by unfold InR;omega
 refine⟨h.rlogs,fun u b=>?_,h.routs,h.llogs,h.lbody,h.louts⟩;rcases Gl.1 b with rfl | b
 ·exact⟨c,a,a,a,a,a,a,a,a⟩
 ·exact h.rbody u (by rw[Gx] at b;subst b;show Gv o∈[Asr,Gv o];simp)
theorem kop_s {t:Tgt} (F:C4 t=true) {k:Krn}{o:Opr}{logs:List Int} (J:1≤k.pace∧k.pace≤200) (hs:1≤k.stages∧k.stages≤1001) (y:(lpO logs o).Fine):Qm t k o logs=some (tb (Uq t k o logs)):=by
 rw[Fq] at F;have E:K6 o=some (Gv o):=rfl;have H:E9 (Gv o)=some (Bk (Gv o)):=Aai _;have q:=A1j o
 have z:Ib (lpC logs o)=some (tb (LoopOk (lpO logs o))):=by
  rw[Afu _ (Azv y)];congr 1;exact Hh A17
 unfold Qm;rw[E,bd_ret,H,bd_ret]
 have C:(show Option (Out (Int×Int×Int×Int) (Empty)) from br (Ao ((ln (Bk (Gv o)))>0)) (some (.go (0,0,0,0))) (some (.go ((Gv o).a.st,(Gv o).a.bk,(Gv o).b.st,(Gv o).b.bk))))=some (.go (0,0,0,0)):=by
  by_cases c:ln (Bk (Gv o))>0
  ·rw[Lr c];rfl
  ·rw[Wc c];rfl
 rw[C,bd_ret,Out.on_go];simp only;rw[show (Lp.mk logs [(Stm.mk 1 (Rf.mk 0 0) (Rf.mk 0 0) 0 0 0 0),(Stm.mk (Gv o).op (Rf.mk 0 0) (Rf.mk 0 0) (Gv o).ar (Gv o).sp (Gv o).pl (Gv o).n)] [])=lpC logs o from rfl];by_cases e:0≤o.slot∧o.slot<k.pace∧0≤o.stage∧o.stage<k.stages
 ·have K:=R4 (a:=o.stage) (A:=1001) (b:=k.pace) (B:=200) Aa Aa Aa Aa
  have G:Gs k o=some (o.stage * k.pace+o.slot):=by
   unfold Gs;rw[Av Aa Aa,Av Aa Aa]
  have m:((((Ao (o.slot≥0))&&(Ao (o.slot<k.pace)))&&(Ao (o.stage≥0)))&&(Ao (o.stage<k.stages)))=true:=by
   simp only[E0,H4];omega
  rw[m,G,bdG_t,bd_ret,Q0];by_cases g:o.stage * k.pace+o.slot≤1000
  ·rw[Lr g,bdG_t,z,bd_ret,Q0]
   by_cases h:LoopOk (lpO logs o)
   ·rw[Dm h,Q0]
    by_cases j:0≤o.dest∧o.dest<t.regs
    ·rw[show (Ao (o.dest≥0)&&Ao (o.dest<t.regs))=true from by simp only[E0,H4];omega,bdG_t]
     unfold Me;rw[bd_ret,On,Q0];have v:((o.a==0) || (((Ao (ln (Bk (Gv o))>0))&&(Ao (o.a>0)))&&(Ao (o.a<t.regs))))=tb (o.a=0∨(0<Rw o.op∧0<o.a∧o.a<t.regs)):=Ls (by unfold ln;rw[q];simp[Ur]);have w:((o.b==0) || (((Ao (ln (Bk (Gv o))>1))&&(Ao (o.b>0)))&&(Ao (o.b<t.regs))))=tb (o.b=0∨(1<Rw o.op∧0<o.b∧o.b<t.regs)):=Ls (by unfold ln;rw[q];simp[Ur]);rw[v,w]
     have l:Aq8 t o↔(o.a=0∨(0<Rw o.op∧0<o.a∧o.a<t.regs))∧(o.b=0∨(1<Rw o.op∧0<o.b∧o.b<t.regs)):=by
      unfold Aq8;constructor
      ·rintro⟨I,a2,a3,a4,a5,r,s,u⟩
       refine⟨?_,?_⟩
       ·by_cases c:o.a=0
        ·exact .inl c
        ·exact .inr ⟨by have:¬Rw o.op<1:=fun d=>c (s d);omega,Aa,a4⟩
       ·by_cases c:o.b=0
        ·exact .inl c
        ·exact .inr ⟨by have:¬Rw o.op<2:=fun d=>c (u d);omega,Aa,r⟩
      ·rintro⟨b1,b2⟩
       refine⟨j.1,j.2,?_,?_,?_,?_,fun d=>?_,fun d=>?_⟩
       all_goals first | omega | (rcases b1 with b1 | b1 <;> rcases b2 with b2 | b2 <;> omega)
     by_cases f:(o.a=0∨(0<Rw o.op∧0<o.a∧o.a<t.regs))
     ·by_cases i:(o.b=0∨(1<Rw o.op∧0<o.b∧o.b<t.regs))
      ·rw[Dm f,Dm i,Dm (p:=Uq t k o logs) ⟨⟨e.1,e.2.1,e.2.2.1,e.2.2.2,g⟩,l.2 ⟨f,i⟩,h⟩];rfl
      ·rw[Dm f,Cw i,Cw fun d:Uq t k o logs=>i (l.1 d.2.1).2];rfl
     ·rw[Cw f,Cw fun d:Uq t k o logs=>f (l.1 d.2.1).1];rfl
    ·have x:(Ao (o.dest≥0)&&Ao (o.dest<t.regs))=Ay:=by
      rw[Aa4,H5,H5];omega
     rw[x,Cw fun d:Uq t k o logs=>j ⟨d.2.1.1,d.2.1.2.1⟩];rfl
   ·rw[Cw h,Cw fun d:Uq t k o logs=>h d.2.2];rfl
  ·rw[Wc g,Cw fun d:Uq t k o logs=>g d.1.2.2.2.2];rfl
 ·have m:((((Ao (o.slot≥0))&&(Ao (o.slot<k.pace)))&&(Ao (o.stage≥0)))&&(Ao (o.stage<k.stages)))=Ay:=by
   cases d:((((Ao (o.slot≥0))&&(Ao (o.slot<k.pace)))&&(Ao (o.stage≥0)))&&(Ao (o.stage<k.stages))) with
   | false=>rfl
   | true =>
    simp only[E0,H4] at d;exact absurd ⟨d.1.1.1,d.1.1.2,d.1.2,d.2⟩ e
  rw[m,Cw fun d:Uq t k o logs=>e ⟨d.1.1,d.1.2.1,d.1.2.2.1,d.1.2.2.2.1⟩];rfl
theorem Ao8 {t : Tgt} (b : C4 t = true) {k : Krn} {n : Nat} : (∀ i, i < n → (Y9 k (i + 1) (Qf k i) : Int) ≤ Fv t (Qf k i).2) ↔ (∀ i, i < n → (Y9 k n (Qf k i) : Int) ≤ Fv t (Qf k i).2) := by
  have mono : ∀ (κ : Int × Int) i j, i ≤ j → Y9 k i κ ≤ Y9 k j κ := fun κ i j h => by
    induction j with
    | zero => have : i = 0 := by omega
              subst this; exact Cf _
    | succ j a =>
      by_cases e : i = j + 1
      · subst e; exact Cf _
      · rw[Ug]; have := a Aa; omega
  constructor
  · intro h
    have key : ∀ m, m ≤ n → ∀ κ, (Y9 k m κ : Int) ≤ Fv t κ.2 := by
      intro m
      induction m with
      | zero => intro _ κ; have := (Tz b κ.2).1; show ((0 : Nat) : Int) ≤ _; omega
      | succ m a =>
        intro c κ;by_cases e : Qf k m = κ
        · have := h m Aa; rw[e] at this; exact this
        · rw[Ug, Bb e]; exact a Aa κ
    exact fun i _ => key n (Cf _) _
  · intro h i hi
    have := h i hi;have := mono (Qf k i) (i + 1) n hi;omega
theorem Ax2 {t:Tgt}{k:Krn}{logs:List Int} (y:∀ i:Nat,i<k.ops.length→(lpO logs (ele k.ops (i:Int))).Fine):Kn t k logs=some (tb (KMayP t k logs)):=by
 unfold Kn;rw[Jd,bd_ret];by_cases h:C4 t=true∧(1≤k.pace∧k.pace≤200)∧(1≤k.stages∧k.stages≤1001)∧(1≤k.ops.length∧k.ops.length≤16)
 ·obtain⟨b,q,r,x⟩:=h
  rw[show (((((((!C4 t) || (Ao (k.pace<1))) || (Ao (k.pace>200))) || (Ao (k.stages<1))) || (Ao (k.stages>1001))) || (Ao ((ln k.ops)<1))) || (Ao ((ln k.ops)>16)))=Ay from by rw[b];unfold ln;simp;omega,br_false]
  rcases Alk (f:=K7 t k logs) (n:=k.ops.length) (r0:=Ay) (fun i=>Uq t k (ele k.ops (i:Int)) logs∧(Y9 k (i+1) (Qf k i):Int)≤Fv t (Qf k i).2) (fun i m=>∀ κ,Fp m κ 0=(Y9 k i κ:Int)) (fun i g hi u=>by
    have j:=Ki (ele k.ops (i:Int)).op;have E:=At2 k (Qf k i) i;have a:((ele k.ops (i:Int)).slot,Ka (ele k.ops (i:Int)).op)=Qf k i:=rfl;have v:=u (Qf k i)
    have z:Fp (N4 g (Qf k i) (Fp g (Qf k i) 0+1)) (Qf k i) 0=(Y9 k (i+1) (Qf k i):Int):=by rw[Ol,Bg rfl,v,Ug,Bg rfl];rfl
    have A:Cq t.u0 t.u1 t.u2 (Ka (ele k.ops (i:Int)).op)=Fv t (Qf k i).2:=rfl;unfold K7;simp only;rw[Ce (by unfold ln;omega),A7 Aa (by unfold ln;omega),kop_s b q r (y i hi),bd_ret];by_cases d:Uq t k (ele k.ops (i:Int)) logs
    ·rw[Dm d,F0,br_false,Ov,bd_ret,a,Av Aa Aa,A7 j.1 j.2,z,A]
     by_cases s:(Y9 k (i+1) (Qf k i):Int)>Fv t (Qf k i).2
     ·rw[Ce s];exact .inr ⟨fun h=>Aa,rfl⟩
     ·rw[Ch s,Av Aa Aa]
      refine .inl ⟨⟨d,Aa⟩,_,rfl,fun κ=>?_⟩;rw[Ol,Ug];by_cases c:Qf k i=κ
      ·rw[Bg c,Bg c,v,c];rfl
      ·rw[Bb c,Bb c,u];rfl
    ·rw[Cw d]
     exact .inr ⟨fun h=>d h.1,rfl⟩) (fun g=>by unfold K7;exact Ch (by unfold ln;omega)) [] (fun κ=>rfl) with ⟨l,m,e,_⟩ | ⟨l,e⟩
  ·rw[e,bd_ret,Out.on_go,Dm (p:=KMayP t k logs) ⟨b,q,r,x,fun i hi=>(l i hi).1,(Ao8 b).1 fun i hi=>(l i hi).2⟩]
  ·rw[e,bd_ret,Out.on_ret,Cw fun h:KMayP t k logs=>l fun i hi=>⟨h.one i hi,(Ao8 b).2 h.units i hi⟩]
 ·rw[Cw fun a:KMayP t k logs=>h ⟨a.tgt,a.pace,a.stages,a.n⟩]
  have j:(((((((!C4 t) || (Ao (k.pace<1))) || (Ao (k.pace>200))) || (Ao (k.stages<1))) || (Ao (k.stages>1001))) || (Ao ((ln k.ops)<1))) || (Ao ((ln k.ops)>16)))=true:=by
   cases o:(((((((!C4 t) || (Ao (k.pace<1))) || (Ao (k.pace>200))) || (Ao (k.stages<1))) || (Ao (k.stages>1001))) || (Ao ((ln k.ops)<1))) || (Ao ((ln k.ops)>16))) with
   | true=>rfl
   | false =>
    unfold ln at o;simp only[Ss,Aqj,H5] at o;obtain⟨⟨⟨⟨⟨⟨w,a2⟩,a3⟩,a4⟩,a5⟩,B⟩,C⟩:=o;exact absurd ⟨w,⟨Aa,Aa⟩,⟨Aa,Aa⟩,Aa,Aa⟩ h
  rw[j];rfl
noncomputable def Jt (t:Tgt) (b:Krn) (g h:Int):((List Due)×(List (List Int))×(List Int)×Int)→Option (Stp ((List Due)×(List (List Int))×(List Int)×Int) (Empty)):=fun (f,e,d,a) =>
 br (Ao (a<b.pace)) (
 bd (F6 t b.pace b.stages b.ops d e g f h a) fun c =>
 ck (IR (a+1)) <|
 some (.next (c.2.2,c.2.1,c.1,(a+1)))) (
 some (.brk (f,e,d,a)))
noncomputable def Ju (t:Tgt) (b:Krn) (e:Int):((List Due)×(List (List Int))×(List Int)×Int)→Option (Stp ((List Due)×(List (List Int))×(List Int)×Int) (Empty)):=fun (f,d,c,a) =>
 br (Ao (a<((e+b.stages) - 1))) (
 bd (lp (Jt t b e a) (f,d,c,0)) fun g=>g.on (fun (j,i,h,k) =>
 ck (IR (a+1)) <|
 some (.next (j,i,h,(a+1)))) (fun r=>r.elim)) (
 some (.brk (f,d,c,a)))
noncomputable def Jf (t:Tgt) (a:Krn) (regs:List Int) (memory:List (List Int)) (b:Int):Option (List Int×List (List Int)×Int) :=
 bd (K8 memory) fun c =>
 bdG (!(!c.2)) (Kn t a c.1) fun k =>
 br (((!c.2) || (!k)) || ((ln regs) != t.regs)) (
 some ([],[],2)) (
 br ((Ao (b<0)) || (Ao (b>200))) (
 some ([],[],3)) (
 bd (Abr regs) fun e =>
 bd (Py memory) fun f =>
 br (Ao (b>0)) (
 ck (IR (b+a.stages)) <|
 ck (IR ((b+a.stages) - 1)) <|
 bd (lp (Ju t a b) ([],f,e,0)) fun g=>g.on (fun (i,d,h,l) =>
 bd (Dv t a.pace a.stages a.ops h d b i 1099511627776) fun j =>
 some (j.1,d,0)) (fun r=>r.elim)) (
 some (e,f,0))))
section
variable {t : Tgt} {k : Krn} {logs : List Int}
theorem Arx (a:KMayP t k logs) {M:List (List Int)} (h:MemG logs M):M.length≤100∧∀ r∈M,r.length≤100000 :=
 (h.tO (ele k.ops ((0:Nat):Int))).small (a.one 0 (by have:=a.n;omega)).2.2
theorem Alh {N:Int}{x0:MSt}{last c:Nat} (h:c<last):stS t k logs N x0 last (c+1)=Anp t k logs N c (stS t k logs N x0 last c):=by
 rw[stS,Bg h]
theorem Agk {N:Int}{x0:MSt}{last c:Nat} (h:¬c<last):stS t k logs N x0 last (c+1)=Ass c (stS t k logs N x0 last c):=by
 rw[stS,Bb h]
theorem Ac4 (b:KMayP t k logs) (d:∀ i:Nat,i<k.ops.length→InR (ele k.ops (i:Int)).n) {N:Int}{x0:MSt} (a:InvS t logs 0 x0) {last:Nat}:∀ c:Nat,c≤300000→InvS t logs c (stS t k logs N x0 last c)
 | 0,_=>a
 | c+1,hc=>by
  have e:=Ac4 b d (N:=N) a (last:=last) c Aa;by_cases h:c<last
  ·rw[Alh h];exact e.step b d ⟨Aa,Aa⟩
  ·rw[Agk h];exact e.tail
theorem lastK (c:KMayP t k logs) {N:Nat} (e:N≤200) (d:1≤N):∃ P R:Nat,k.pace=P∧(N:Int)+k.stages - 1=R∧1≤P∧P≤200∧1≤R∧R≤1200∧R * P≤240000∧((N:Int)+k.stages - 1) * k.pace=(R * P:Nat):=by
 have g:=c.pace;have hs:=c.stages;obtain⟨P,a⟩:=H6 (show 0≤k.pace from Aa);obtain⟨R,b⟩:=H6 (show 0≤(N:Int)+k.stages - 1 from Aa);have f:R * P≤1200 * 200:=Nat.mul_le_mul Aa Aa;exact⟨P,R,a,b,Aa,Aa,Aa,Aa,Aa,by rw[a,b];simp⟩
structure KInv (t:Tgt) (k:Krn) (logs:List Int) (N:Int) (x0:MSt) (last c:Nat) (g:List Due×List (List Int)×List Int):Prop where
 due:Stb g.1 (stS t k logs N x0 last c).1
 mem:g.2.1=(stS t k logs N x0 last c).2.2
 regs:g.2.2=(stS t k logs N x0 last c).2.1
theorem A2k (p:KMayP t k logs) (u:∀ i:Nat,i<k.ops.length→InR (ele k.ops (i:Int)).n) {N:Nat}{x0:MSt} (s:InvS t logs 0 x0) {P R pa:Nat} (b:k.pace=P) (A:1≤P∧P≤200) (B:R≤1200) (v:pa<R) (z:R * P≤240000) {g:List Due×List (List Int)×List Int} (c:KInv t k logs N x0 (R * P) (pa * P) g) :
  ∃ g',lp (Jt t k N pa) (g.1,g.2.1,g.2.2,0)=some (.go (g'.1,g'.2.1,g'.2.2,(P:Int)))∧KInv t k logs N x0 (R * P) ((pa+1) * P) g':=by
 have x:(pa+1) * P≤R * P:=Zd _ v;rw[Qs,Nat.one_mul] at x
 have X:=Amf (f:=Jt t k N pa) (ρ:=Empty) (n:=P) (fun (g:List Due×List (List Int)×List Int) i=>(g.1,g.2.1,g.2.2,i)) (fun j g=>KInv t k logs N x0 (R * P) (pa * P+j) g) (fun j g o c=>by
  obtain⟨D,M,r⟩:=g;obtain⟨l,a2,a3⟩:=c;simp only at l a2 a3;subst a2 a3;have a:=Ac4 p u (N:=N) s (last:=R * P) (pa * P+j) Aa
  have m:((pa * P+j:Nat):Int) / k.pace=pa:=by rw[b,←Int.natCast_ediv,Qu pa P,Nat.mul_add_div Aa,Nat.div_eq_of_lt o,Nat.add_zero]
  have q:((pa * P+j:Nat):Int) % k.pace=j:=by rw[b,←Int.natCast_emod,Qu pa P,Nat.mul_add_mod,Akw o]
  obtain⟨Z,y,z2⟩:=A2h ⟨Aa,Aa⟩ a l k.pace k.stages k.ops (stS t k logs N x0 (R * P) (pa * P+j)).2.2 N;have w:=a.len;have C:(Rx ((pa * P+j:Nat):Int) (stS t k logs N x0 (R * P) (pa * P+j)).1).length≤96:=Nk (Aqn _ _) w;refine⟨(Z++Wr t k logs (r1S ((pa * P+j:Nat):Int) (stS t k logs N x0 (R * P) (pa * P+j))) (stS t k logs N x0 (R * P) (pa * P+j)).2.2 N ((pa * P+j:Nat):Int) pa j k.ops.length,Aun t k logs (r1S ((pa * P+j:Nat):Int) (stS t k logs N x0 (R * P) (pa * P+j))) N pa j k.ops.length (stS t k logs N x0 (R * P) (pa * P+j)).2.2,r1S ((pa * P+j:Nat):Int) (stS t k logs N x0 (R * P) (pa * P+j))),?_,?_⟩
  ·unfold Jt
   simp only;rw[Ce Aa,cyc_k p (now:=((pa * P+j:Nat):Int)) ⟨Aa,Aa⟩ (by rw[b];simp) ⟨Aa,Aa⟩ ⟨Aa,Aa⟩ y a.r1 a.mem (by rw[z2.1];omega),bd_ret,Av Aa Aa]
  ·have d:pa * P+j<R * P:=by omega
   refine⟨?_,?_,?_⟩
   ·show Stb _ (stS t k logs N x0 (R * P) (pa * P+j+1)).1
    rw[Alh d];unfold Anp;rw[m,q];exact z2.app (I9 _)
   ·show _=(stS t k logs N x0 (R * P) (pa * P+j+1)).2.2
    rw[Alh d];unfold Anp;rw[m,q]
   ·show _=(stS t k logs N x0 (R * P) (pa * P+j+1)).2.1
    rw[Alh d]
    rfl) (fun g=>by unfold Jt;exact Ch Aa) g c
 obtain⟨g',e,h⟩:=X;exact⟨g',e,by rw[Qs,Nat.one_mul];exact h⟩
theorem An9 (e:KMayP t k logs) (f:∀ i:Nat,i<k.ops.length→InR (ele k.ops (i:Int)).n) {N:Int}{x0:MSt} (b:InvS t logs 0 x0) {L:Nat} (p:L≤240000) {S:List Due} (h:Pp S) (j:Stb S (stS t k logs N x0 L L).1) :
  ∀ m:Nat,m≤7→∃ S',Pp S'∧Stb S' (stS t k logs N x0 L (L+m)).1∧S.foldl Ah5 (stS t k logs N x0 L L).2.1=S'.foldl Ah5 (stS t k logs N x0 L (L+m)).2.1∧(stS t k logs N x0 L (L+m)).2.2=(stS t k logs N x0 L L).2.2∧∀ d∈(stS t k logs N x0 L (L+m)).1,d.due≤L+5
 | 0,_=>⟨S,h,j,rfl,rfl,fun d a=>(((Ac4 e f (N:=N) b (last:=L) L Aa).due d a).2.1)⟩
 | m+1,hmm=>by
  obtain⟨S',q,g,r,s,u⟩:=An9 e f b p h j m Aa;have o:=Ac4 e f (N:=N) b (last:=L) (L+m) Aa;obtain⟨Z,l,z2,z3⟩:=Adf (c:=((L+m:Nat):Int)) q fun d a=>(o.due d (g.mem.1 a)).1;have hat:atT ((L+m:Nat):Int) S'=atT ((L+m:Nat):Int) (stS t k logs N x0 L (L+m)).1:=g.2 _;refine⟨Z,z2,?_,?_,?_,fun d a=>?_⟩
  ·show Stb Z (stS t k logs N x0 L (L+m+1)).1
   rw[Agk Aa];exact Aod g.symm l z3
  ·show _=Z.foldl Ah5 (stS t k logs N x0 L (L+m+1)).2.1
   rw[Agk Aa,r]
   conv=>lhs;rw[l]
   rw[Z4,hat];rfl
  ·show (stS t k logs N x0 L (L+m+1)).2.2=_
   rw[Agk Aa];exact s
  ·rw[show L+(m+1)=L+m+1 from rfl,Agk Aa] at a
   exact u d (Tr.1 a).1
end
def Rq (y:LayD) (a:Int) (q:Nat):Int:=(ele y.places a - q - 1) % y.regs
def frA (y:LayD) (a:Int) (n:Nat):List Int:=(List.range n).map (Rq y a)
def Q9 (y:LayD) (L:List Int):List Int:=L.flatMap fun a=>frA y a (Tp y.body a).toNat
def O7 (y:LayD) (L:List Int):Prop:=(Q9 y L).Nodup
theorem Arv {l:List Int}{x:Int}:(l++[x]).Nodup↔l.Nodup∧x∉l:=by
 rw[List.nodup_append];constructor
 ·rintro⟨c,_,g⟩
  exact⟨c,fun h=>g x h x Ba rfl⟩
 ·rintro⟨c,f⟩
  exact⟨c,Ba,fun a i b d e=>by
   rw[Gx] at d;subst d;subst e
   exact f i⟩
theorem Aox (y:LayD) (a:Int) (n:Nat):frA y a (n+1)=frA y a n++[Rq y a n]:=rm_succ.symm
theorem Aji {y:LayD}{a:Int}{F:List Int}:∀ n,(F++frA y a n).Nodup↔F.Nodup∧∀ i,i<n→Rq y a i∉F++frA y a i
 | 0=>by
  show (F++[]).Nodup↔_;rw[Nl];exact⟨fun h=>⟨h,fun i hi=>absurd hi (Q2 _)⟩,fun h=>h.1⟩
 | n+1=>by
  rw[Aox,←Gw,Arv,Aji n];constructor
  ·rintro⟨⟨c,b⟩,d⟩
   refine⟨c,fun i hi=>?_⟩;by_cases e:i=n
   ·subst e;exact d
   ·exact b i Aa
  ·rintro⟨c,b⟩
   exact⟨⟨c,fun i hi=>b i Aa⟩,b n Aa⟩
theorem LayD.Ok.bk {y:LayD} (b:y.Ok):∀ i:Nat,i<y.body.length→∀ r∈Bk (ele y.body (i:Int)),0≤r.bk∧r.bk≤3:=fun i hi r a=>(b.us i hi r a).2.2
theorem Alq {y:LayD} (b:y.Ok) (a:Int):0≤Tp y.body a∧Tp y.body a≤3:=Atx b.bk a _ (Cf _)
theorem A0b {y:LayD} (c:y.Ok) {L:List Int}{i:Nat} (hi:i<L.length) (k:∀ x∈L,0≤x∧x<y.body.length) {n:Nat} (z:n≤3) {F:List Int}{m:List (Int×Bool)} (t:∀ v,Fp m v Ay=true↔v∈F) :
  ((∀ q,q<n→Rq y (ele L (i:Int)) q∉F++frA y (ele L (i:Int)) q)∧∃ m',lp (Jm y.regs y.places L i n) (m,0)=some (.go (m',(n:Int)))∧∀ v,Fp m' v Ay=true↔v∈F++frA y (ele L (i:Int)) n)∨(¬(∀ q,q<n→Rq y (ele L (i:Int)) q∉F++frA y (ele L (i:Int)) q)∧lp (Jm y.regs y.places L i n) (m,0)=some (.ret Ay)):=by
 have d:=c.regs;have l:=k _ (Dt hi);obtain⟨a,o⟩:=H6 l.1;have u:=c.pl a Aa;have w:=c.lp;rw[←o] at u;refine Alk (f:=Jm y.regs y.places L i n) (n:=n) (r0:=Ay) (fun q=>Rq y (ele L (i:Int)) q∉F++frA y (ele L (i:Int)) q) (fun q m=>∀ v,Fp m v Ay=true↔v∈F++frA y (ele L (i:Int)) q) (fun q g A b=>?_) (fun g=>by unfold Jm;exact Ch Aa) m (fun v=>by rw[t];show _↔v∈F++[];rw[Nl]);have B:=T0 (ele y.places (ele L (i:Int)) - (q:Int) - 1) (show 0<y.regs from Aa);have p:(ele y.places (ele L (i:Int)) - (q:Int) - 1) % y.regs=Rq y (ele L (i:Int)) q:=rfl;unfold Jm;simp only;rw[Ce Aa,A7 Aa (by unfold ln;omega),Av Aa Aa,Av Aa Aa,Au Aa,Av Aa Aa,Au Aa,tm2 d.1 d.2,p];by_cases h:Rq y (ele L (i:Int)) q∈F++frA y (ele L (i:Int)) q
 ·rw[(b _).2 h,br_true]
  exact .inr ⟨fun j=>j h,rfl⟩
 ·have r:Fp g (Rq y (ele L (i:Int)) q) Ay=Ay:=by
   cases s:Fp g (Rq y (ele L (i:Int)) q) Ay with
   | false=>rfl
   | true=>exact absurd ((b _).1 s) h
  rw[r,br_false,Av Aa Aa];refine .inl ⟨h,_,rfl,fun v=>?_⟩;rw[Ol,Aox,←Gw,Fw,Gx,←b];by_cases e:Rq y (ele L (i:Int)) q=v
  ·rw[Bg e];simp[e]
  ·rw[Bb e]
   exact⟨.inl,fun h=>h.resolve_right fun h=>e h.symm⟩
theorem Ahu {y:LayD}{L:List Int}{i:Nat} (hi:i<L.length):Q9 y (L.take (i+1))=Q9 y (L.take i)++frA y (ele L (i:Int)) (Tp y.body (ele L (i:Int))).toNat:=by
 rw[J5 hi];unfold Q9;rw[List.flatMap_append];simp
theorem Aal {y:LayD}{L:List Int}:∀ n,n≤L.length→((Q9 y (L.take n)).Nodup↔∀ i,i<n→∀ q,q<(Tp y.body (ele L (i:Int))).toNat→Rq y (ele L (i:Int)) q∉Q9 y (L.take i)++frA y (ele L (i:Int)) q)
 | 0,_=>by simp[Q9]
 | n+1,h=>by
  rw[Ahu Aa,Aji,Aal n Aa];constructor
  ·rintro⟨a,b⟩ i hi
   by_cases e:i=n
   ·subst e;exact b
   ·exact a i Aa
  ·intro a
   exact⟨fun i hi=>a i Aa,a n Aa⟩
theorem Aoy {y:LayD} (b:y.Ok) {L:List Int} (o:∀ x∈L,0≤x∧x<y.body.length) (u:L.length≤100000):L9 y.logs y.body y.outs y.pace y.regs y.places L=some (tb (O7 y L)):=by
 have t:=b.n;unfold L9
 have X:=Alk (f:=Mx y.logs y.body y.outs y.regs y.places L) (n:=L.length) (r0:=Ay) (fun i=>∀ q,q<(Tp y.body (ele L (i:Int))).toNat→Rq y (ele L (i:Int)) q∉Q9 y (L.take i)++frA y (ele L (i:Int)) q) (fun i m=>∀ v,Fp m v Ay=true↔v∈Q9 y (L.take i)) (fun i g hi s=>by
  have r:=Alq b (ele L (i:Int));obtain⟨n,j⟩:=H6 r.1;unfold Mx;simp only;rw[Ce (by unfold ln;omega),A7 Aa (by unfold ln;omega),A32 (l:=⟨y.logs,y.body,y.outs⟩) t.2 b.bk,bd_ret,show Tp (Lp.mk y.logs y.body y.outs).body (ele L (i:Int))=Tp y.body (ele L (i:Int)) from rfl,j,Iw];rcases A0b b hi o (n:=n) Aa s with ⟨a,m',c,k⟩ | ⟨a,c⟩
  ·refine .inl ⟨a,m',?_,fun v=>?_⟩
   ·rw[c,bd_ret,Out.on_go,Av Aa Aa]
   ·rw[k,Ahu hi,j,Iw]
  ·exact .inr ⟨a,by rw[c,bd_ret,Out.on_ret]⟩) (fun g=>by unfold Mx;exact Ch (by unfold ln;omega)) [] (fun v=>by simp[Q9,Azs])
 have d:=Aal (y:=y) (L:=L) L.length (Cf _);rw[Xa] at d;rcases X with ⟨a,m,e,_⟩ | ⟨a,e⟩
 ·rw[e,bd_ret,Out.on_go,Dm (p:=O7 y L) (d.2 a)]
 ·rw[e,bd_ret,Out.on_ret,Cw fun h:O7 y L=>a (d.1 h)]
end Go.Rd
end