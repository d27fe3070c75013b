/- Texts for the law, 5. -/
import Derived.Test.YtaimbkndebaaiaaGreatDoorZLdriveTells4
set_option linter.unusedVariables false
set_option linter.unusedSimpArgs false
set_option maxRecDepth 8000
set_option linter.defProp false
open Decidable renaming decide→Ap
open Bool renaming false→Az
open Go.Lib renaming hasPrefix→P4,trimPrefix→Sj
section
namespace Go.Rd
noncomputable def Iv (l:Lp) (t:Tgt) (p:Pln):((List Int)×Int)→Option (Stp ((List Int)×Int) (Empty)):=fun (b,a) =>
 br (Ap (a<(ln l.body))) (
 ck (IX a (ln l.body)) <|
 ck (IX a (ln p.times)) <|
 bd (G1 t ((ele l.body a).op)) fun c =>
 ck (IR ((ele p.times a)+c)) <|
 ck (AL (b++[((ele p.times a)+c)]).length 8) <|
 ck (IR (a+1)) <|
 some (.next ((b++[((ele p.times a)+c)]),(a+1)))) (
 some (.brk (b,a)))
noncomputable def Ob (l:Lp) (t:Tgt) (p:Pln):Option ((List Int×List Stm×List Int×Int×Int×List Int×List Int×List Int)) :=
 ck (0≤(ln l.body)) <|
 ck (AL (ln l.body).toNat 8) <|
 bd (lp (Iv l t p) ([],0)) fun a=>a.on (fun (b,c) =>
 some (l.logs,l.body,l.outs,p.pace,t.regs,p.times,b,(List.replicate (ln l.body).toNat (0:Int)))) (fun r=>r.elim)
noncomputable def Js (e:List Stm) (f:List Int) (g j:Int) (k i h:List Int) (b:Int):((List Int)×Int)→Option (Stp ((List Int)×Int) (Bool)):=fun (c,a) =>
 br (Ap (a<(b+1))) (
 ck (AL (c++[a]).length 8) <|
 bd (Me e f g j k i h b a) fun d =>
 bdG (!(!d)) (Me e f g j k i h a b) fun l =>
 br ((!d) || (!l)) (
 some (.ret Az)) (
 ck (IR (a+1)) <|
 some (.next ((c++[a]),(a+1))))) (
 some (.brk (c,a)))
noncomputable def Kp (j:List Int) (b:List Stm) (c:List Int) (d f:Int) (l k e:List Int) (a:Int):Option (Bool) :=
 ck (IR (a+1)) <|
 bd (lp (Js b c d f l k e a) ([],0)) fun g=>g.on (fun (h,m) =>
 bd (Mm j b c d f e h) fun i =>
 some i) (fun r=>some r)
noncomputable def J6 (b g:Int) (d c:List Int):((List Int)×Int)→Option (Stp ((List Int)×Int) (Empty)):=fun (e,a) =>
 br (Ap (a<(ln c))) (
 ck (IX a (ln c)) <|
 ck (IX a (ln d)) <|
 ck (b≠0) <|
 ck (IR (Int.tdiv (ele d a) b)) <|
 ck (IR ((ele c a) - (Int.tdiv (ele d a) b))) <|
 bd (Jo ((ele c a) - (Int.tdiv (ele d a) b)) g) fun f =>
 ck (AL (e++[f]).length 8) <|
 ck (IR (a+1)) <|
 some (.next ((e++[f]),(a+1)))) (
 some (.brk (e,a)))
noncomputable def M8 (c e:Int) (f d:List Int):Option (List Int) :=
 bd (lp (J6 c e f d) ([],0)) fun a=>a.on (fun (b,g) =>
 some b) (fun r=>r.elim)
noncomputable def Fq (f:List Int) (e:List Stm) (g:List Int) (h c:Int) (j i:List Int) (b:Int):(List Int)→Option (Stp ((List Int)) (Bool×List Int)):=fun a =>
 bd (Kp f e g h c j i a b) fun d =>
 br (!d) (
 ck (IX b (ln a)) <|
 ck (IR ((ele a b)+1)) <|
 br (Ap (((ele a b)+1)≥c)) (
 some (.ret (Az,a))) (
 ck (IX b (ln a)) <|
 ck (IR ((ele a b)+1)) <|
 ck (IX b (ln a)) <|
 some (.next (upd a b ((ele a b)+1))))) (
 some (.brk a))
noncomputable def Lj (f:List Int) (c:List Stm) (g:List Int) (h j:Int) (k i:List Int):((List Int)×Int)→Option (Stp ((List Int)×Int) (Bool×List Int)):=fun (b,a) =>
 br (Ap (a<(ln c))) (
 ck (IX a (ln b)) <|
 bd (lp (Fq f c g h j k i a) (upd b a 0)) fun d=>d.on (fun e =>
 ck (IR (a+1)) <|
 some (.next (e,(a+1)))) (fun r=>some (.ret r))) (
 some (.brk (b,a)))
noncomputable def M7 (d:List Int) (c:List Stm) (e:List Int) (f i:Int) (j h g:List Int):Option (Bool×List Int) :=
 bd (lp (Lj d c e f i j h) (g,0)) fun a=>a.on (fun (b,k) =>
 some (true,b)) (fun r=>some r)
noncomputable def Iu (c:List Stm):((List Int)×Int)→Option (Stp ((List Int)×Int) (Empty)):=fun (b,a) =>
 br (Ap (a<(ln c))) (
 ck (IR (5 * a)) <|
 ck (IX a (ln b)) <|
 ck (IR (a+1)) <|
 some (.next ((upd b a (5 * a)),(a+1)))) (
 some (.brk (b,a)))
noncomputable def Ha (e:List Int) (c:List Stm) (f:List Int) (g i:Int) (j h b:List Int):Int→Option (Stp (Int) (Bool×List Int)):=fun a =>
 br (Ap (a<(ln c))) (
 bd (Kp e c f g i j h b a) fun d =>
 br (!d) (
 some (.ret (Az,b))) (
 ck (IR (a+1)) <|
 some (.next (a+1)))) (
 some (.brk a))
noncomputable def Li (e:List Int) (b:List Stm) (f:List Int) (g j:Int) (k i h:List Int):Option (Bool×List Int) :=
 bd (lp (Iu b) (h,0)) fun c=>c.on (fun (a,l) =>
 bd (lp (Ha e b f g j k i a) 0) fun d=>d.on (fun m =>
 some (true,a)) (fun r=>some r)) (fun r=>r.elim)
noncomputable def O9 (l:Lp) (t:Tgt) (p:Pln):Option (List Int×Int) :=
 bd (Lh l t p) fun e =>
 br (!e) (
 some ([],2)) (
 bd (Ob l t p) fun a =>
 bd (M7 a.1 a.2.1 a.2.2.1 a.2.2.2.1 a.2.2.2.2.1 a.2.2.2.2.2.1 a.2.2.2.2.2.2.1 a.2.2.2.2.2.2.2) fun b =>
 br (!b.1) (
 bd (Li a.1 a.2.1 a.2.2.1 a.2.2.2.1 a.2.2.2.2.1 a.2.2.2.2.2.1 a.2.2.2.2.2.2.1 b.2) fun c =>
 br (b.1 || c.1) (
 bd (M8 a.2.2.2.1 a.2.2.2.2.1 a.2.2.2.2.2.1 c.2) fun d =>
 some (d,0)) (
 some ([],1))) (
 br (b.1 || false) (
 bd (M8 a.2.2.2.1 a.2.2.2.2.1 a.2.2.2.2.2.1 b.2) fun f =>
 some (f,0)) (
 some ([],1))))
def Hh (n:Nat):List Int:=(List.range n).map fun i:Nat=>(i:Int)
theorem Acn {n:Nat}{x:Int} (h:x∈Hh n):0≤x∧x<n:=by
 unfold Hh at h;rw[I7] at h;obtain⟨i,hi,rfl⟩:=h;have:=Vw.1 hi;omega
theorem Ps (n:Nat):(Hh n).length=n:=by unfold Hh;simp
def LayD.wp (y:LayD) (v:List Int):LayD:={ y with places:=v }
def Xf (y:LayD) (k:Nat):Prop:=(∀ m:Nat,m<k+1→Ot y k m∧Ot y m k)∧Pq y (Hh (k+1))
def Af6 (y:LayD):Prop:=(∀ a m:Nat,a<y.body.length→m<y.body.length→Ot y a m)∧Pq y (Hh y.body.length)
theorem Ay3 {y:LayD} (c:y.Ok) {k:Nat} (d:k<y.body.length):Kp y.logs y.body y.outs y.pace y.regs y.time y.ready y.places k=some (tb (Xf y k)):=by
 have l:=c.n;unfold Kp;rw[Ay Aa Aa]
 have X:=Lz (f:=Js y.body y.outs y.pace y.regs y.time y.ready y.places k) (ρ:=Bool) (fun i=>(Hh i,(i:Int))) (k+1) (fun m=>Ot y k m∧Ot y m k) (fun _=>Az) (fun i hi _=>by
  unfold Js;simp only;have e:Hh i++[(i:Int)]=Hh (i+1):=rm_succ (g:=fun i:Nat=>(i:Int));rw[Ck Aa,e,Ax (AL8 (by rw[Ps];omega)),Anj c d (show i<y.body.length from Aa),bd_ret,Anj c (show i<y.body.length from Aa) d,O4];by_cases a:Ot y k i <;> by_cases b:Ot y i k
  ·rw[Dz a,Dz b]
   exact⟨fun _=>by rw[show ((!true) || (!(if (!(!true))=true then true else Az)))=Az from rfl,br_false,Ay Aa Aa];rfl,fun h=>absurd ⟨a,b⟩ h⟩
  ·rw[Dz a,C3 b]
   exact⟨fun h=>absurd h.2 b,fun _=>rfl⟩
  ·rw[C3 a]
   exact⟨fun h=>absurd h.1 a,fun _=>rfl⟩
  ·rw[C3 a]
   exact⟨fun h=>absurd h.1 a,fun _=>rfl⟩) (by unfold Js;exact Cn Aa)
 rcases X with ⟨a,e⟩ | ⟨i,a,b,_,e⟩
 ·rw[show lp (Js y.body y.outs y.pace y.regs y.time y.ready y.places k) ([],0)=_ from e,bd_ret,Out.on_go]
  simp only;rw[Apm c (fun x j=>by have:=Acn j;omega) (by rw[Ps];omega),bd_ret];congr 1;exact Ht ⟨fun h=>⟨a,h⟩,fun h=>h.2⟩
 ·rw[show lp (Js y.body y.outs y.pace y.regs y.time y.ready y.places k) ([],0)=_ from e,bd_ret,Out.on_ret,C3 fun h:Xf y k=>b (h.1 i a)]
structure PlOk (y:LayD) (v:List Int):Prop where
 len:v.length=y.body.length
 bd:∀ i:Nat,i<y.body.length→0≤ele v (i:Int)∧ele v (i:Int)≤128
theorem LayD.Ok.wp {y:LayD} (a:y.Ok) {v:List Int} (b:PlOk y v):(y.wp v).Ok :=
 ⟨a.n,a.lt,a.lr,b.len,a.lo,a.pace,a.regs,a.tm,a.rd,fun i hi=>by have:=b.bd i hi;exact⟨by show -100000≤ele v _;omega,by show ele v _≤100000;omega⟩,a.us⟩
theorem A6v {y:LayD}{v w:List Int}{a m j:Int} (h:Alf (y.wp v) a m j):Alf (y.wp w) a m j:=by
 rcases h with ⟨k,r,b,c,d,e⟩ | h
 ·exact .inl ⟨k,r,b,c,d,e⟩
 ·exact .inr h
theorem Aqm {y:LayD}{v w:List Int}{a m:Nat} (b:ele v (a:Int)=ele w (a:Int)) (c:ele v (m:Int)=ele w (m:Int)) (h:Ot (y.wp v) a m):Ot (y.wp w) a m:=fun j e f d =>
 h j e (by show (ele v (m:Int)+j - ele v (a:Int)) % y.regs=0;rw[b,c];exact f) (A6v d)
theorem Ayn {y:LayD}{v:List Int} (a:PlOk y v) {k:Nat} (f:k<y.body.length) {c:Int} (b:0≤c) (d:c≤128):PlOk y (upd v k c):=by
 refine⟨by rw[Amu];exact a.len,fun i hi=>?_⟩;by_cases e:i=k
 ·subst e
  rw[Aca ⟨Aa,by unfold ln;have:=a.len;omega⟩];exact⟨b,d⟩
 ·rw[Wq Aa];exact a.bd i hi
theorem Akq {y:LayD} (j:y.Ok) {v:List Int} (f:PlOk y v) {k:Nat} (i:k<y.body.length):∀ (d c:Nat),(c:Int)+d+1=y.regs →
  (∃ a:Nat,a≤128∧lp (Fq y.logs y.body y.outs y.pace y.regs y.time y.ready k) (upd v k (c:Int))=some (.go (upd v k (a:Int)))∧Xf (y.wp (upd v k (a:Int))) k)∨(∃ g,lp (Fq y.logs y.body y.outs y.pace y.regs y.time y.ready k) (upd v k (c:Int))=some (.ret (Az,g))∧PlOk y g)
 | d,c,hd=>by
  have r:=j.regs;have o:=Ayn f i (c:=c) Aa Aa;have n:IX (k:Int) (ln v):=⟨Aa,by unfold ln;have:=f.len;omega⟩;have e:IX (k:Int) (ln (upd v k (c:Int))):=⟨Aa,by unfold ln;rw[Amu];have:=f.len;omega⟩;have h:Kp y.logs y.body y.outs y.pace y.regs y.time y.ready (upd v k (c:Int)) k=some (tb (Xf (y.wp (upd v k (c:Int))) k)):=Ay3 (j.wp o) i;by_cases b:Xf (y.wp (upd v k (c:Int))) k
  ·refine .inl ⟨c,Aa,Db ?_,b⟩
   unfold Fq;rw[h,bd_ret,Dz b];rfl
  ·match d,hd with
   | 0,hd =>
    refine .inr ⟨upd v k (c:Int),Hw ?_,o⟩;unfold Fq;rw[h,bd_ret,C3 b,Kc,br_true,Ax e,Aca n,Ay Aa Aa,Ck Aa]
   | d+1,hd =>
    have p:Fq y.logs y.body y.outs y.pace y.regs y.time y.ready k (upd v k (c:Int))=some (.next (upd v k ((c+1:Nat):Int))):=by
     unfold Fq;rw[h,bd_ret,C3 b,Kc,br_true,Ax e,Aca n,Ay Aa Aa,Cn Aa,Ax e,Ay Aa Aa,Ax e,A2b];rfl
    rcases Akq j f i d (c+1) Aa with ⟨a,l,m,q⟩ | ⟨g,l,m⟩
    ·exact .inl ⟨a,l,B4 p m,q⟩
    ·exact .inr ⟨g,B4 p l,m⟩
theorem A3b {y:LayD} (j:y.Ok) (x:PlOk y y.places):∃ b v,M7 y.logs y.body y.outs y.pace y.regs y.time y.ready y.places=some (b,v)∧PlOk y v∧(b=true→Af6 (y.wp v)):=by
 have C:=j.n;have B:=j.regs
 have X:=A2u (f:=Lj y.logs y.body y.outs y.pace y.regs y.time y.ready) (n:=y.body.length) (fun i v=>PlOk y v∧(∀ a m:Nat,a<i→m<i→Ot (y.wp v) a m)∧Pq (y.wp v) (Hh i)) (fun r=>r.1=Az∧PlOk y r.2) (fun i v hi t=>by
  obtain⟨c,d,l⟩:=t;have u:IX (i:Int) (ln v):=⟨Aa,by unfold ln;have:=c.len;omega⟩;unfold Lj;simp only;rw[Ck (by unfold ln;omega),Ax u];rcases Akq j c hi (y.regs - 1).toNat 0 Aa with ⟨o,w1,w2,k⟩ | ⟨A,w1,w2⟩
  ·refine .inl ⟨upd v i (o:Int),?_,Ayn c hi Aa Aa,fun a m s w=>?_,k.2⟩
   ·rw[show lp (Fq y.logs y.body y.outs y.pace y.regs y.time y.ready i) (upd v i 0)=_ from w2,bd_ret,Out.on_go,Ay Aa Aa]
   ·by_cases p:a=i
    ·subst p;exact(k.1 m w).1
    ·by_cases q:m=i
     ·subst q;exact(k.1 a s).2
     ·exact Aqm (Wq Aa).symm (Wq Aa).symm (d a m Aa Aa)
  ·exact .inr ⟨(Az,A),by rw[show lp (Fq y.logs y.body y.outs y.pace y.regs y.time y.ready i) (upd v i 0)=_ from w1,bd_ret,Out.on_ret],rfl,w2⟩) (fun g=>by unfold Lj;exact Cn (by unfold ln;omega)) y.places ⟨x,fun a m h=>absurd h (Rn _),by unfold Pq Hh Ry;simp⟩
 unfold M7;rcases X with ⟨v,e,c,d,l⟩ | ⟨⟨b,v⟩,e,c,d⟩
 ·exact⟨true,v,by rw[e,bd_ret,Out.on_go],c,fun _=>⟨d,l⟩⟩
 ·exact⟨b,v,by rw[e,bd_ret,Out.on_ret],d,fun h=>by
   have z:b=Az:=c
   rw[z] at h;cases h⟩
def spV (n:Nat):List Int:=(List.range n).map fun i:Nat=>5 * (i:Int)
theorem Aoc {y:LayD} (a:y.Ok):PlOk y (spV y.body.length):=by
 have b:=a.n;exact⟨by unfold spV;simp,fun i hi=>by rw[show ele (spV y.body.length) (i:Int)=5 * (i:Int) from Il hi];omega⟩
theorem Azv {y:LayD} (g:y.Ok) (r:PlOk y y.places):∃ b,Li y.logs y.body y.outs y.pace y.regs y.time y.ready y.places=some (b,spV y.body.length)∧(b=true↔∀ k,k<y.body.length→Xf (y.wp (spV y.body.length)) k):=by
 have s:=g.n
 have l:y.places=(List.range y.body.length).map fun j:Nat=>if j<0 then 5 * (j:Int) else ele y.places (j:Int):=by
  conv=>lhs;rw[←Ad5 y.places,r.len]
  exact Kf fun j d=>by rw[Bg Aa]
 have m:spV y.body.length=(List.range y.body.length).map fun j:Nat=>if j<y.body.length then 5 * (j:Int) else ele y.places (j:Int):=Kf fun j d=>by rw[Bj d]
 have X:=G8 (f:=Iu y.body) (ρ:=Empty) (fun i=>((List.range y.body.length).map fun j:Nat=>if j<i then 5 * (j:Int) else ele y.places (j:Int),(i:Int))) y.body.length (fun i hi=>by
  unfold Iu;simp only;rw[Ck (by unfold ln;omega),Ay Aa Aa,A8 Aa (by rw[Aex];omega),Ay Aa Aa,Aay hi];refine congrArg some (congrArg Stp.next (Prod.ext (Kf fun j d=>?_) rfl));by_cases a:j=i
  ·subst a;rw[Bj rfl,Bj Aa]
  ·rw[Bg a]
   by_cases b:j<i
   ·rw[Bj b,Bj Aa]
   ·rw[Bg b,Bg Aa]) (by unfold Iu;exact Cn (by unfold ln;omega))
 unfold Li
 have X':lp (Iu y.body) (y.places,0)=some (.go (spV y.body.length,(y.body.length:Int))):=by
  rw[m]
  conv=>lhs;rw[l]
  exact X
 rw[X',bd_ret,Out.on_go];simp only
 have Y:=Lz (f:=Ha y.logs y.body y.outs y.pace y.regs y.time y.ready (spV y.body.length)) (fun i=>(i:Int)) y.body.length (fun k=>Xf (y.wp (spV y.body.length)) k) (fun _=>(Az,spV y.body.length)) (fun k q _=>by
  have p:Kp y.logs y.body y.outs y.pace y.regs y.time y.ready (spV y.body.length) k=some (tb (Xf (y.wp (spV y.body.length)) k)):=Ay3 (g.wp (Aoc g)) q;unfold Ha;rw[Ck (by unfold ln;omega),p,bd_ret]
  exact⟨fun h=>by rw[Dz h,F9,br_false,Ay Aa Aa];rfl,fun h=>by rw[C3 h,Kc,br_true]⟩) (by unfold Ha;exact Cn (by unfold ln;omega))
 rcases Y with ⟨c,e⟩ | ⟨k,c,o,_,e⟩
 ·exact⟨true,by rw[show lp (Ha y.logs y.body y.outs y.pace y.regs y.time y.ready (spV y.body.length)) 0=_ from e,bd_ret,Out.on_go],⟨fun _=>c,fun _=>rfl⟩⟩
 ·exact⟨Az,by rw[show lp (Ha y.logs y.body y.outs y.pace y.regs y.time y.ready (spV y.body.length)) 0=_ from e,bd_ret,Out.on_ret],⟨fun h=>(by cases h),fun h=>absurd (h k c) o⟩⟩
theorem As4 {y:LayD} (e:y.Ok) (h:∀ k,k<y.body.length→Xf y k):Af6 y:=by
 have f:=e.n;refine⟨fun a m b d=>?_,?_⟩
 ·by_cases c:m≤a
  ·exact((h a b).1 m Aa).1
  ·exact((h m d).1 a Aa).2
 ·have:=(h (y.body.length - 1) Aa).2
  rw[show y.body.length - 1+1=y.body.length from Aa] at this;exact this
def Adt (l:Lp) (t:Tgt) (p:Pln):List Int:=(List.range l.body.length).map fun i:Nat=>ele p.times (i:Int)+Fb t (ele l.body (i:Int)).op
def L4 (l:Lp) (t:Tgt) (p:Pln):LayD:=⟨l.logs,l.body,l.outs,p.pace,t.regs,p.times,Adt l t p,List.replicate l.body.length 0⟩
theorem A2n {n i:Nat} (hi:i<n):ele (List.replicate n (0:Int)) (i:Int)=0:=by rw[Dj,Ec];simp[Abv,hi]
theorem Am7 {l:Lp}{t:Tgt}{p:Pln} (h:LegalP l t p):(L4 l t p).Ok∧PlOk (L4 l t p) (L4 l t p).places:=by
 have d:=h.tgt;rw[F0] at d;have b:PlOk (L4 l t p) (L4 l t p).places:=⟨by show (List.replicate _ _).length=l.body.length;simp,fun i hi=>by rw[show ele (L4 l t p).places (i:Int)=0 from A2n hi];omega⟩;refine⟨⟨⟨h.loop.2.1,h.loop.2.2.1⟩,h.len,by show (Adt l t p).length=_;unfold Adt;simp;rfl,b.len,by have:=Uy h.loop;show l.outs.length≤_;omega,h.pace,d.2.2.2,fun i hi=>h.rng i hi,fun i hi=>?_,fun i hi=>?_,fun i hi r f=>?_⟩,b⟩
 ·have a:=h.rng i hi
  have g:=Ur t (ele l.body (i:Int)).op;unfold Xn at a;rw[show ele (L4 l t p).ready (i:Int)=ele p.times (i:Int)+Fb t (ele l.body (i:Int)).op from Il hi];omega
 ·have:=b.bd i hi;omega
 ·have e:i<l.body.length:=hi
  have a:=Ab6 h.loop e f;have c:=a.st Aa;exact⟨c.1,c.2,a.1,a.2.1⟩
def Sn (t:Tgt) (p:Pln) (n:Nat) (v:List Int):List Int:=(List.range n).map fun i:Nat=>(ele v (i:Int) - Fu p i) % t.regs
theorem Auo {l:Lp}{t:Tgt}{p:Pln} (h:LegalP l t p) {v:List Int} (a:PlOk (L4 l t p) v):M8 p.pace t.regs p.times v=some (Sn t p l.body.length v):=by
 have c:=h.tgt;rw[F0] at c;have g:=h.loop.2.2.1;have e:=h.len;have j:v.length=l.body.length:=a.len;have b:=h.pace
 have X:=G8 (f:=J6 p.pace t.regs p.times v) (ρ:=Empty) (fun i=>((List.range i).map fun i:Nat=>(ele v (i:Int) - Fu p i) % t.regs,(i:Int))) l.body.length (fun i hi=>by
  have hs:=Aa2 b (h.rng i hi);have d:=a.bd i hi;unfold Fu at hs;unfold J6;simp only;rw[Ck (by unfold ln;omega),A8 Aa (by unfold ln;omega),A8 Aa (by unfold ln;omega),Ax Aa,Ay Aa Aa,Ay Aa Aa,Acd Aa Aa,bd_ret,Ax (AL8 (by simp;omega)),Ay Aa Aa,show (ele v (i:Int) - Int.tdiv (ele p.times (i:Int)) p.pace) % t.regs=(fun i:Nat=>(ele v (i:Int) - Fu p i) % t.regs) i from rfl,rm_succ]
  rfl) (by unfold J6;exact Cn (by unfold ln;omega))
 unfold M8;rw[show lp (J6 p.pace t.regs p.times v) ([],0)=_ from X,bd_ret,Out.on_go];rfl
theorem A0p {l:Lp}{t:Tgt}{p:Pln} (h:LegalP l t p):Ob l t p=some (l.logs,l.body,l.outs,p.pace,t.regs,p.times,Adt l t p,List.replicate l.body.length 0):=by
 have c:=h.loop.2.2.1;have b:=h.len
 have X:=G8 (f:=Iv l t p) (ρ:=Empty) (fun i=>((List.range i).map fun i:Nat=>ele p.times (i:Int)+Fb t (ele l.body (i:Int)).op,(i:Int))) l.body.length (fun i hi=>by
  have a:=h.rng i hi;have d:=Ur t (ele l.body (i:Int)).op;unfold Xn at a;unfold Iv;simp only;rw[Ck (by unfold ln;omega),A8 Aa (by unfold ln;omega),A8 Aa (by unfold ln;omega),N9,bd_ret,Ay Aa Aa,Ax (AL8 (by simp;omega)),Ay Aa Aa,rm_succ (g:=fun i:Nat=>ele p.times (i:Int)+Fb t (ele l.body (i:Int)).op)]
  rfl) (by unfold Iv;exact Cn (by unfold ln;omega))
 unfold Ob;rw[Ax (Awh _),Ax (AL8 (by unfold ln;omega)),show lp (Iv l t p) ([],0)=_ from X,bd_ret,Out.on_go];simp only[ln,I9];rfl
theorem Asc {l:Lp}{t:Tgt}{p:Pln} (n:l.Fine) (h:LegalP l t p):(∃ v,PlOk (L4 l t p) v∧Af6 ((L4 l t p).wp v)∧O9 l t p=some (Sn t p l.body.length v,0))∨(O9 l t p=some ([],1)∧¬∀ k,k<l.body.length→Xf ((L4 l t p).wp (spV l.body.length)) k):=by
 obtain⟨a,q⟩:=Am7 h;obtain⟨b,v,f,c,i⟩:=A3b a q;have g:M7 l.logs l.body l.outs p.pace t.regs p.times (Adt l t p) (List.replicate l.body.length 0)=some (b,v):=f;unfold O9;rw[Au2 n,bd_ret,Dz h,F9,br_false,A0p h,bd_ret];simp only;rw[g,bd_ret];simp only
 cases b with
 | true=>exact .inl ⟨v,c,i rfl,by rw[F9,br_false,Vu,br_true,Auo h c,bd_ret]⟩
 | false =>
  have r:=a.wp c;obtain⟨d,j,e⟩:=Azv r ⟨c.len,c.bd⟩;have m:Li l.logs l.body l.outs p.pace t.regs p.times (Adt l t p) v=some (d,spV l.body.length):=j;rw[Kc,br_true,m,bd_ret];simp only
  cases d with
  | true =>
   refine .inl ⟨spV l.body.length,Aoc a,As4 (a.wp (Aoc a)) (e.1 rfl),?_⟩;rw[Agt,br_true,Auo h (v:=spV l.body.length) (Aoc a),bd_ret]
  | false =>
   refine .inr ⟨by rw[Si,br_false],fun o=>?_⟩;have:=e.2 o
   cases this
def Ei (k:Krn) (order:List Int) (s:Nat):Opr:=ele k.ops (ele order (s:Int))
def Xa (k:Krn) (o:Opr):Int:=o.slot+k.pace * o.stage
def Qx (t:Tgt) (k:Krn) (order:List Int) (s:Nat):Off:=⟨Xa k (Ei k order s),Xa k (Ei k order s)+Fb t (Ei k order s).op,(Ei k order s).dest+(Ei k order s).stage⟩
def Ct (l:Lp) (t:Tgt) (k:Krn) (order:List Int):LayD :=
 ⟨l.logs,l.body,l.outs,k.pace,t.regs,(List.range l.body.length).map fun s=>(Qx t k order s).time,(List.range l.body.length).map fun s=>(Qx t k order s).ready,(List.range l.body.length).map fun s=>(Qx t k order s).place⟩
def Ago (o:Opr) (x:Stm):Prop:=o.op=x.op∧o.ar=x.ar∧o.sp=x.sp∧o.pl=x.pl∧o.n=x.n
def Axq (l:Lp) (k:Krn) (order:List Int) (s:Nat):Prop:=(0≤ele order (s:Int)∧ele order (s:Int)<l.body.length)∧(∀ i,i<s→ele order (i:Int)≠ele order (s:Int))∧Ago (Ei k order s) (ele l.body (s:Int))
structure LayP (l:Lp) (t:Tgt) (k:Krn) (order:List Int):Prop where
 loop:LoopOk l
 tgt:Df t=true
 may:KMayP t k l.logs
 n:k.ops.length=l.body.length
 no:order.length=l.body.length
 ord:∀ s,s<l.body.length→Axq l k order s
def Ae0 (l:Lp) (k:Krn):Prop:=∀ i:Nat,i<k.ops.length→(lpO l.logs (ele k.ops (i:Int))).Fine
theorem Yt {l:Lp}{t:Tgt}{k:Krn}{order:List Int} (a:KMayP t k l.logs) (b:k.ops.length=l.body.length) {s:Nat} (h:0≤ele order (s:Int)∧ele order (s:Int)<l.body.length):Vo t k (Ei k order s) l.logs:=by
 obtain⟨i,hi⟩:=Ik h.1;unfold Ei;rw[hi];exact a.one i Aa
theorem Aa4 {t:Tgt}{k:Krn}{o:Opr}{logs:List Int} (a:KMayP t k logs) (h:Vo t k o logs):(0≤Xa k o∧Xa k o≤1000)∧(0≤k.pace * o.stage∧k.pace * o.stage≤1000)∧(0≤o.dest∧o.dest<128)∧(0≤o.stage∧o.stage≤1000):=by
 obtain⟨⟨c,a2,a3,a4,a5⟩,⟨b1,b2,_⟩,_⟩:=h;have b:=a.tgt;rw[F0] at b;have f:=a.pace;have hs:=a.stages;have d:=Agv (show 0≤k.pace from Aa) a3;have e:=Xz o.stage k.pace;unfold Xa;omega
theorem Wc {l:Lp}{t:Tgt}{k:Krn}{order:List Int} (h:LayP l t k order):(Ct l t k order).Ok:=by
 have e:=h.tgt;rw[F0] at e;refine⟨⟨h.loop.2.1,h.loop.2.2.1⟩,by unfold Ct;simp,by unfold Ct;simp,by unfold Ct;simp,by have:=Uy h.loop;show l.outs.length≤_;omega,h.may.pace,e.2.2.2,fun i hi=>?_,fun i hi=>?_,fun i hi=>?_,fun i hi r f=>?_⟩
 all_goals have a:i<l.body.length:=hi
 ·have c:=Aa4 h.may (Yt h.may h.n (h.ord i a).1)
  rw[show ele (Ct l t k order).time (i:Int)=(Qx t k order i).time from Il a];exact c.1
 ·have c:=Aa4 h.may (Yt h.may h.n (h.ord i a).1)
  have g:=Ur t (Ei k order i).op;rw[show ele (Ct l t k order).ready (i:Int)=(Qx t k order i).ready from Il a];show 0≤Xa k (Ei k order i)+Fb t (Ei k order i).op∧Xa k (Ei k order i)+Fb t (Ei k order i).op≤1006;omega
 ·have c:=Aa4 h.may (Yt h.may h.n (h.ord i a).1)
  rw[show ele (Ct l t k order).places (i:Int)=(Qx t k order i).place from Il a];show -100000≤(Ei k order i).dest+(Ei k order i).stage∧(Ei k order i).dest+(Ei k order i).stage≤100000;omega
 ·have b:=Ab6 h.loop a f
  have d:=b.st Aa;exact⟨d.1,d.2,b.1,b.2.1⟩
section
variable {l : Lp} {t : Tgt} {k : Krn} {order : List Int}
end
def Ax1 (o:Opr) (i:Nat):Int:=if i=1 then o.b else o.a
def Agq (l:Lp) (t:Tgt) (k:Krn) (order:List Int) (s i:Nat):Prop:=Ax1 (Ei k order s) i=(ele (Ct l t k order).places (ele (Bm (ele l.body (s:Int))) (i:Int)).st - (ele (Bm (ele l.body (s:Int))) (i:Int)).bk - (Ei k order s).stage) % t.regs
def Ady (y:LayD) (e:Edg):Prop:=ele y.time e.fr+e.wt≤ele y.time e.tO+e.bk * y.pace
structure TakesP (l:Lp) (t:Tgt) (k:Krn) (order:List Int):Prop where
 lay:LayP l t k order
 edge:∀ e,EdgeP l t e→Ady (Ct l t k order) e
 name:∀ s,s<l.body.length→∀ i,i<(Bm (ele l.body (s:Int))).length→Agq l t k order s i
 apart:∀ a m:Nat,a<l.body.length→m<l.body.length→Ot (Ct l t k order) a m
 firsts:Pq (Ct l t k order) (Hh l.body.length)
theorem Auc {l:Lp}{t:Tgt}{k:Krn}{order:List Int} (h:LayP l t k order):∀ s:Nat,s<l.body.length→∀ r∈Bm (ele l.body (s:Int)),0≤r.st∧r.st<l.body.length∧0≤r.bk∧r.bk≤3:=fun s hs r a=>(Wc h).us s hs r a
theorem Ad6 {n i:Nat} (h:i≤n):(Hh n).take i=Hh i:=by
 unfold Hh;rw[←Agu,List.take_range,Nat.min_eq_left h]
theorem U1 {n i:Nat} (h:i<n):ele (Hh n) (i:Int)=i:=Il h
theorem Asw {y:LayD} (n:Nat):Pq y (Hh n)↔∀ s,s<n→∀ q,q<(Uj y.body s).toNat→Sf y s q∉Ry y (Hh s)++frA y s q:=by
 have h:=Abc (y:=y) (L:=Hh n) n (by rw[Ps];exact Co _);rw[Ad6 (Co _)] at h;unfold Pq;rw[h];constructor
 ·intro a s hs
  have:=a s hs;rw[U1 hs,Ad6 Aa] at this;exact this
 ·intro a s hs
  rw[U1 hs,Ad6 Aa];exact a s hs
section
variable {l : Lp} {t : Tgt} {k : Krn} {order : List Int}
end
theorem Azq {a b:Int} (c:0≤a) (d:1≤b):0≤Int.tmod a b∧Int.tmod a b<b:=by
 rw[Ajm c];exact⟨Ro _ Aa,Rq _ Aa⟩
theorem Ad2 {p:Pln}:∀ n i:Nat,i<n→Fu p i+1≤Pn p n
 | n+1,i,h=>by
  show Fu p i+1≤max (Pn p n) (Fu p n+1);by_cases e:i=n
  ·subst e;omega
  ·have:=Ad2 (p:=p) n i Aa;omega
theorem Aj4 {p:Pln}{n:Nat} (h:∀ i:Nat,i<n→Fu p i≤1000):∀ k,k≤n→0≤Pn p k∧Pn p k≤1001
 | 0,_=>by show 0≤(0:Int)∧(0:Int)≤1001;omega
 | k+1,hk=>by
  have:=Aj4 h k Aa;have:=h k Aa;show 0≤max (Pn p k) (Fu p k+1)∧max (Pn p k) (Fu p k+1)≤1001;omega
theorem Ah3 {t:Tgt}{p:Pln}{n:Nat}{v:List Int}{i:Nat} (hi:i<n):ele (Sn t p n v) (i:Int)=(ele v (i:Int) - Fu p i) % t.regs:=Il hi
theorem Aum {l:Lp}{t:Tgt}{p:Pln} (h:LegalP l t p) {v:List Int}:Ab5 l t p (Sn t p l.body.length v):=by
 have a:=h.tgt;rw[F0] at a;refine⟨h,by unfold Sn;simp,fun i hi=>?_⟩;unfold Ad0;rw[Ah3 hi];exact⟨Ro _ Aa,Rq _ Aa⟩
section
variable {l : Lp} {t : Tgt} {p : Pln} {v : List Int}
def Nr (l:Lp) (t:Tgt) (p:Pln) (v:List Int):Krn:=Aqv l t p (Sn t p l.body.length v)
theorem Aog {i:Nat} (hi:i<l.body.length):Ei (Nr l t p v) (Hh l.body.length) i=An1 l t p (Sn t p l.body.length v) i (Bm (ele l.body (i:Int))):=by
 unfold Ei;rw[U1 hi];exact Il hi
theorem Axz {i:Nat} (hi:i<l.body.length):ele (Nr l t p v).ops (i:Int)=An1 l t p (Sn t p l.body.length v) i (Bm (ele l.body (i:Int))):=Il hi
theorem Ayf (h:LegalP l t p) {i:Nat} (hi:i<l.body.length):Int.tmod (ele p.times (i:Int)) p.pace+p.pace * Fu p i=ele p.times (i:Int)∧Fu p i * p.pace+Int.tmod (ele p.times (i:Int)) p.pace=ele p.times (i:Int):=by
 have:=Al1 (ele p.times (i:Int)) p.pace;unfold Fu;refine⟨this,?_⟩;rw[Xz];omega
theorem ab_bd (h:LegalP l t p) {i:Nat} (us:List Rf) (c:List Int):0≤(abV t p c i us).1∧(abV t p c i us).1<t.regs∧0≤(abV t p c i us).2∧(abV t p c i us).2<t.regs:=by
 have e:=h.tgt;rw[F0] at e;have d:∀ r,0≤Alb t p c i r∧Alb t p c i r<t.regs:=fun r=>⟨Ro _ Aa,Rq _ Aa⟩;unfold abV;split
 ·simp only;omega
 ·rename_i a
  have:=d a;simp only;omega
 ·rename_i a b _
  have:=d a;have:=d b;simp only;omega
theorem Ar6 (s:Stm):(Sk s.op<1→Bm s=[])∧(Sk s.op<2→(Bm s).length<2):=by
 unfold Sk Bm;by_cases h:s.op=4
 ·simp[h]
 ·by_cases a:s.op>10
  ·simp[h,a]
  ·simp[h,a]
theorem A5y (d:LoopOk l) {i:Nat} (hi:i<l.body.length) {o:Opr} (m:Ago o (ele l.body (i:Int))):LoopOk (lpO l.logs o):=by
 have hs:=d.stm i hi;rw[show l.body.getD i Stm.zero=ele l.body (i:Int) from rfl] at hs;obtain⟨r,s,u,w,x⟩:=m
 refine⟨d.1,by show 1≤2;omega,by show 2≤16;omega,d.2.2.2.1,fun j f=>by
  have:(lpO l.logs o).outs.length=0:=rfl
  omega,fun j f=>?_⟩
 have g:j=0∨j=1:=by
  have:(lpO l.logs o).body.length=2:=rfl;omega
 have e:∀ k:Int,0<k→RefOk 2 k ⟨0,0⟩:=fun k h=>⟨by show (0:Int)≤0;omega,by show (0:Int)≤3;omega,by show (0:Int)≤0;omega,fun _=>h,fun b=>absurd rfl b⟩;have c:Rf.isZero ⟨0,0⟩:=⟨rfl,rfl⟩;rcases g with rfl | rfl
 ·show V9 _ _ _ Atg
  refine⟨fun b=>?_,fun b=>?_,.inr (.inl ⟨rfl,rfl,⟨rfl,rfl,rfl⟩,c,c⟩)⟩
  ·rcases b with b | b
   ·exact absurd b Ah
   ·exact absurd b Ah
  ·exact absurd b Ah
 ·show V9 l.logs.length 2 1 (G5 o)
  refine⟨fun _=>e _ Aa,fun _=>e _ Aa,?_⟩;have a:=hs.2.2;have q:(G5 o).op=(ele l.body (i:Int)).op∧(G5 o).ar=(ele l.body (i:Int)).ar∧(G5 o).sp=(ele l.body (i:Int)).sp∧(G5 o).pl=(ele l.body (i:Int)).pl∧(G5 o).n=(ele l.body (i:Int)).n:=⟨r,s,u,w,x⟩;obtain⟨y,z,A,B,C⟩:=q;unfold Mx Lr at *;rw[y,z,A,B,C];rcases a with a | a | a | a | a
  ·exact .inl ⟨a.1,a.2.1,c,c⟩
  ·exact .inr (.inl ⟨a.1,a.2.1,a.2.2.1,c,c⟩)
  ·exact .inr (.inr (.inl ⟨a.1,a.2.1,a.2.2.1,c,c⟩))
  ·exact .inr (.inr (.inr (.inl ⟨a.1,a.2.1,a.2.2.1,c⟩)))
  ·exact .inr (.inr (.inr (.inr a)))
theorem Aym {i:Nat}{a:List Int}{us:List Rf}:Ago (An1 l t p a i us) (ele l.body (i:Int)):=⟨rfl,rfl,rfl,rfl,rfl⟩
theorem A25 (h:LegalP l t p):KMayP t (Nr l t p v) l.logs:=by
 have z:=h.loop.2.2.1;have A:=h.loop.2.1;have b:=h.pace;have r:(Nr l t p v).ops.length=l.body.length:=Am8;have w:∀ i:Nat,i<l.body.length→Fu p i≤1000:=fun i hi=>(Aa2 b (h.rng i hi)).2;have u:=Aj4 w l.body.length (Co _);have C:=Ad2 (p:=p) l.body.length 0 Aa;have s:=(Aa2 b (h.rng 0 Aa)).1;have o:=Aum h (v:=v);refine⟨h.tgt,b,⟨by show 1≤Pn p l.body.length;have B:0≤Fu p (0:Nat):=s;omega,u.2⟩,Aa,fun i hi=>?_,fun i hi=>?_⟩
 ·have a:i<l.body.length:=by omega
  rw[Axz a];have hs:=Aa2 b (h.rng i a);have m:=h.rng i a;unfold Xn at m;have k:=Azq m.1 b.1;have x:=Ayf h a;have y:=Ad2 (p:=p) l.body.length i a;have d:=o.2.2 i a;unfold Ad0 at d;have c:=ab_bd h (i:=i) (Bm (ele l.body (i:Int))) (Sn t p l.body.length v);have n:=Ar6 (ele l.body (i:Int));refine⟨⟨k.1,k.2,hs.1,by show Fu p i<Pn p l.body.length;omega,by show Fu p i * p.pace+Int.tmod (ele p.times (i:Int)) p.pace≤1000;rw[x.2];omega⟩,⟨d.1,d.2,c.1,c.2.1,c.2.2.1,c.2.2.2,fun e=>?_,fun e=>?_⟩,A5y h.loop a Aym⟩
  ·show (abV t p _ i (Bm (ele l.body (i:Int)))).1=0
   rw[n.1 e];rfl
  ·show (abV t p _ i (Bm (ele l.body (i:Int)))).2=0
   have:=n.2 e
   match Bm (ele l.body (i:Int)),this with
   | [],_=>rfl
   | [_],_=>rfl
 ·have a:i<l.body.length:=by omega
  have g:∀ j,j<l.body.length→Qy (Nr l t p v) j=Hv l p j:=fun j f=>by
   unfold Qy Hv;rw[Axz f];rfl
  rw[g i a,r]
  have q:Zw (Nr l t p v) l.body.length (Hv l p i)=N0 l p l.body.length (Hv l p i):=by
   unfold Zw N0;refine List.countP_congr fun j f=>?_;rw[g j (Vw.1 f)]
  rw[q];exact h.units i a
theorem A26 (h:LegalP l t p):LayP l t (Nr l t p v) (Hh l.body.length):=by
 refine⟨h.loop,h.tgt,A25 h,Am8,Ps _,fun s hs=>⟨?_,fun i hi=>?_,?_⟩⟩
 ·rw[U1 hs];omega
 ·rw[U1 hs,U1 (show i<l.body.length from Aa)];omega
 ·rw[Aog hs];exact Aym
theorem Awf {x s c R:Int}:((x - s) % R+s - c) % R=(x - c) % R:=by
 have h:=Aax (x - s) R;rw[show (x - s) % R+s - c=(x - c) - R * ((x - s) / R) from Aa,Al5]
theorem Aa6 (h:LegalP l t p) {i:Nat} (hi:i<l.body.length) :
  ele (Ct l t (Nr l t p v) (Hh l.body.length)).time (i:Int)=ele p.times (i:Int)∧ele (Ct l t (Nr l t p v) (Hh l.body.length)).ready (i:Int)=ele p.times (i:Int)+Fb t (ele l.body (i:Int)).op ∧
  ele (Ct l t (Nr l t p v) (Hh l.body.length)).places (i:Int)=(ele v (i:Int) - Fu p i) % t.regs+Fu p i:=by
 have a:=Ayf h hi
 have b:(Qx t (Nr l t p v) (Hh l.body.length) i).time=ele p.times (i:Int):=by
  show Xa _ (Ei _ _ i)=_;rw[Aog hi];exact a.1
 refine⟨(Il hi).trans b,(Il hi).trans ?_,(Il hi).trans ?_⟩
 ·show Xa _ (Ei _ _ i)+Fb t (Ei _ _ i).op=_
  rw[Aog hi];show Int.tmod (ele p.times (i:Int)) p.pace+p.pace * Fu p i+_=_;rw[a.1];rfl
 ·show (Ei _ _ i).dest+(Ei _ _ i).stage=_
  rw[Aog hi];show ele (Sn t p l.body.length v) (i:Int)+Fu p i=_;rw[Ah3 hi]
theorem Ax2 {i:Nat} (hi:i<l.body.length):ele ((L4 l t p).wp v).ready (i:Int)=ele p.times (i:Int)+Fb t (ele l.body (i:Int)).op:=Il hi
theorem Aki (h:LegalP l t p) (T:PlOk (L4 l t p) v) (E:Af6 ((L4 l t p).wp v)):TakesP l t (Nr l t p v) (Hh l.body.length):=by
 have B:=A26 h (v:=v);have N:=h.tgt;rw[F0] at N;refine⟨B,fun e C=>?_,fun s hs i hi=>?_,fun a m c u=>?_,?_⟩
 ·have n:=C.in h.loop
  have f:=h.edge e C;obtain⟨a,c⟩:=Ik n.tO.1;obtain⟨b,d⟩:=Ik n.fr.1;unfold Ady;unfold Ae1 at f
  have g:a<l.body.length:=by have:=n.tO.2;omega
  have I:b<l.body.length:=by have:=n.fr.2;omega
  rw[c,d] at f ⊢;rw[(Aa6 h g).1,(Aa6 h I).1];exact f
 ·have F:=Auc B s hs _ (D9 hi)
  obtain⟨a,c⟩:=Ik F.1
  have g:a<l.body.length:=by have:=F.2.1;omega
  unfold Agq;rw[c,(Aa6 h g).2.2,Aog hs]
  have M:Alb t p (Sn t p l.body.length v) s (ele (Bm (ele l.body (s:Int))) (i:Int))=((ele v (a:Int) - Fu p a) % t.regs+Fu p a - (ele (Bm (ele l.body (s:Int))) (i:Int)).bk - Fu p s) % t.regs:=by
   unfold Alb;rw[c,Ah3 g]
  rw[show (An1 l t p (Sn t p l.body.length v) s (Bm (ele l.body (s:Int)))).stage=Fu p s from rfl,←M];have L:=O1 (ele l.body (s:Int));show Ax1 ⟨_,_,_,_,(abV t p _ s (Bm (ele l.body (s:Int)))).1,(abV t p _ s (Bm (ele l.body (s:Int)))).2,_,_,_,_⟩ i=_;generalize Bm (ele l.body (s:Int))=us at *
  match us,L,hi with
  | [x],_,hi =>
   have:i=0:=by simp at hi;omega
   subst this;rfl
  | [x,z],_,hi =>
   have:i=0∨i=1:=by simp at hi;omega
   rcases this with rfl | rfl <;> rfl
 ·intro j K O d
  have ea:=Aa6 h (v:=v) c;have A:=Aa6 h (v:=v) u;refine E.1 a m c u j K ?_ ?_
  ·show (ele v (m:Int)+j - ele v (a:Int)) % t.regs=0
   have P:(((ele v (m:Int) - Fu p m) % t.regs+Fu p m)+j - ((ele v (a:Int) - Fu p a) % t.regs+Fu p a)) % t.regs=0:=by
    rw[←ea.2.2,←A.2.2];exact O
   have R:=Aax (ele v (a:Int) - Fu p a) t.regs;have f:=Aax (ele v (m:Int) - Fu p m) t.regs;rw[show ele v (m:Int)+j - ele v (a:Int)=(((ele v (m:Int) - Fu p m) % t.regs+Fu p m)+j - ((ele v (a:Int) - Fu p a) % t.regs+Fu p a)) - t.regs * ((ele v (a:Int) - Fu p a) / t.regs - (ele v (m:Int) - Fu p m) / t.regs) from by rw[Int.mul_sub];omega,Al5];exact P
  ·have G:ele ((L4 l t p).wp v).ready (a:Int)=ele (Ct l t (Nr l t p v) (Hh l.body.length)).ready (a:Int):=(Ax2 c).trans ea.2.1.symm
   have H:ele ((L4 l t p).wp v).ready (m:Int)=ele (Ct l t (Nr l t p v) (Hh l.body.length)).ready (m:Int):=(Ax2 u).trans A.2.1.symm;rcases d with ⟨k,r,o,w,y,Q⟩ | ⟨o,w,y⟩
   ·refine .inl ⟨k,r,o,w,y,?_⟩
    rw[G,H,show ele ((L4 l t p).wp v).time (k:Int)=ele (Ct l t (Nr l t p v) (Hh l.body.length)).time (k:Int) from (Aa6 h o).1.symm];exact Q
   ·refine .inr ⟨o,?_,y⟩
    rw[G,H];exact w
 ·have J:=E.2
  have e:Ry (Ct l t (Nr l t p v) (Hh l.body.length)) (Hh l.body.length)=Ry ((L4 l t p).wp v) (Hh l.body.length):=by
   unfold Ry;refine congrArg List.flatten (Ara fun a c=>?_);have d:=Acn c;obtain⟨i,hi⟩:=Ik d.1;subst hi;refine Kf fun q S=>?_;unfold Sf;rw[(Aa6 h (v:=v) (show i<l.body.length from Aa)).2.2];show ((ele v (i:Int) - Fu p i) % t.regs+Fu p i - (q:Int) - 1) % t.regs=(ele v (i:Int) - (q:Int) - 1) % t.regs;rw[show (ele v (i:Int) - Fu p i) % t.regs+Fu p i - (q:Int) - 1=(ele v (i:Int) - Fu p i) % t.regs+Fu p i - ((q:Int)+1) from Aa,Awf];rw[show ele v (i:Int) - ((q:Int)+1)=ele v (i:Int) - (q:Int) - 1 from Aa]
  unfold Pq;rw[e];exact J
end
theorem Ajv {t:Tgt} (a:Df t=true) (op:Int):1≤Fb t op∧Fb t op≤6:=by
 unfold Fb;rw[Bj a];rw[F0] at a;exact Afs Aa Aa Aa
def A48 (l:Lp) (t:Tgt) (p:Pln):Prop:=∀ i:Nat,i<l.body.length→ele p.times (i:Int)+Fb t (ele l.body (i:Int)).op≤p.pace
theorem Ap6 {l:Lp}{t:Tgt}{p:Pln} (h:LegalP l t p) (a9:5 * (l.body.length:Int)≤t.regs) (J:A48 l t p):∀ k,k<l.body.length→Xf ((L4 l t p).wp (spV l.body.length)) k:=by
 have a6:=h.loop.2.2.1;have a7:=h.pace;have A:((L4 l t p).wp (spV l.body.length)).Ok:=(Am7 h).1.wp (Aoc (Am7 h).1);have y:∀ i:Nat,i<l.body.length→ele ((L4 l t p).wp (spV l.body.length)).places (i:Int)=5 * (i:Int):=fun i hi=>Il hi
 have L:∀ i:Nat,i<l.body.length→1≤ele ((L4 l t p).wp (spV l.body.length)).ready (i:Int)∧ele ((L4 l t p).wp (spV l.body.length)).ready (i:Int)≤p.pace:=fun i hi=>by
  rw[Ax2 hi];have v:=h.rng i hi;have V:=Ajv h.tgt (ele l.body (i:Int)).op;unfold Xn at v;have:=J i hi;omega
 have T:∀ i:Nat,i<l.body.length→ele ((L4 l t p).wp (spV l.body.length)).time (i:Int)<p.pace:=fun i hi=>by
  have V:=Ajv h.tgt (ele l.body (i:Int)).op;have:=J i hi;show ele p.times (i:Int)<p.pace;omega
 have F:∀ a m:Nat,a<l.body.length→m<l.body.length→Ot ((L4 l t p).wp (spV l.body.length)) a m:=fun a m o f j x P n=>by
  have b3:=L a o;have b4:=L m f;rw[y a o,y m f,show ((L4 l t p).wp (spV l.body.length)).regs=t.regs from rfl] at P;have K:((L4 l t p).wp (spV l.body.length)).pace=p.pace:=rfl
  have H:-p.pace<j * p.pace→0≤j:=fun a5=>by
   by_cases c:j<0
   ·have:=Aeu (show j≤-1 from Aa) (show 0≤p.pace from Aa)
    omega
   ·omega
  have O:j * p.pace<4 * p.pace→j≤3:=fun U=>by
   by_cases c:4≤j
   ·have:=Aeu c (show 0≤p.pace from Aa)
    omega
   ·omega
  have a4:0≤j∧j≤3:=by
   rcases n with ⟨k,r,C,E,a0,Q⟩ | ⟨C,E,a0⟩
   ·have U:=A.us k C r E
    have b0:=T k C;rw[K] at Q;have b1:=Aeu (show r.bk≤3 from Aa) (show 0≤p.pace from Aa);rcases Q with ⟨X,Y⟩ | ⟨X,Y,b2⟩
    ·exact⟨H Aa,O Aa⟩
    ·exact⟨Aa,O Aa⟩
   ·rw[K] at E
    exact⟨H Aa,Aa⟩
  obtain⟨z,W⟩:=Int.dvd_of_emod_eq_zero P
  have B:z=0:=by
   by_cases c1:1≤z
   ·have:=Aet c1 (show 0≤t.regs from Aa)
    omega
   ·by_cases c2:z≤-1
    ·have:=Aet c2 (show 0≤t.regs from Aa)
     omega
    ·omega
  rw[B,Int.mul_zero] at W;rcases x with x | x <;> omega
 intro k G;refine⟨fun m f=>⟨F k m G Aa,F m k Aa G⟩,(Asw _).2 fun s hs q a8 S=>?_⟩;have a3:0≤Uj ((L4 l t p).wp (spV l.body.length)).body (s:Int)∧Uj ((L4 l t p).wp (spV l.body.length)).body (s:Int)≤3:=Amj A (s:Int)
 have M:∀ s q:Nat,s<l.body.length→Sf ((L4 l t p).wp (spV l.body.length)) s q=(5 * (s:Int) - q - 1) % t.regs:=fun s q hs=>by
  unfold Sf;rw[y s hs];rfl
 have I:∀ b d:Nat,b<k+1→d<3→(b≠s∨d≠q)→Sf ((L4 l t p).wp (spV l.body.length)) b d≠Sf ((L4 l t p).wp (spV l.body.length)) s q:=fun b d N u w g=>by
  rw[M b d Aa,M s q Aa] at g;have v:=Aax (5 * (b:Int) - d - 1) t.regs;have a1:=Aax (5 * (s:Int) - q - 1) t.regs;rw[g] at v
  have e:5 * (b:Int) - d - 1 - (5 * (s:Int) - q - 1)=t.regs * ((5 * (b:Int) - d - 1) / t.regs - (5 * (s:Int) - q - 1) / t.regs):=by rw[Int.mul_sub];omega
  generalize (5 * (b:Int) - d - 1) / t.regs - (5 * (s:Int) - q - 1) / t.regs=z at e
  have B:z=0:=by
   by_cases c1:1≤z
   ·have:=Aet c1 (show 0≤t.regs from Aa)
    omega
   ·by_cases c2:z≤-1
    ·have:=Aet c2 (show 0≤t.regs from Aa)
     omega
    ·omega
  rw[B,Int.mul_zero] at e;rcases w with w | w <;> omega
 rcases F8.1 S with f | f
 ·unfold Ry at f
  rw[List.mem_flatMap] at f;obtain⟨a,o,n⟩:=f;have R:=Acn o;obtain⟨b,N⟩:=Ik R.1;subst N;unfold frA at n;rw[I7] at n;obtain⟨d,u,g⟩:=n;have a2:0≤Uj ((L4 l t p).wp (spV l.body.length)).body (b:Int)∧Uj ((L4 l t p).wp (spV l.body.length)).body (b:Int)≤3:=Amj A (b:Int);have:=Vw.1 u;exact I b d Aa Aa (.inl Aa) g
 ·unfold frA at f
  rw[I7] at f;obtain⟨d,u,g⟩:=f;have:=Vw.1 u;exact I s d hs Aa (.inr Aa) g
theorem A0k {l:Lp} (d:l.Fine) {o:Opr} (b:InR o.op∧InR o.ar∧InR o.sp∧InR o.pl∧InR o.n):(lpO l.logs o).Fine:=by
 have a:InR 0:=by unfold InR;omega
 have e:InR 2:=by unfold InR;omega
 refine⟨d.rlogs,fun u c=>?_,fun u c=>(by cases c),d.llogs,by show 2≤maxLen;rw[Ev];omega,by show 0≤maxLen;omega⟩
 have f:u=Atg∨u=G5 o:=by
  rcases Gw.1 c with h | h
  ·exact .inl h
  ·exact .inr (G7.1 h)
 rcases f with rfl | rfl
 ·exact⟨e,a,a,a,a,a,a,a,a⟩
 ·exact⟨b.1,a,a,a,a,b.2.1,b.2.2.1,b.2.2.2.1,b.2.2.2.2⟩
theorem Akj {l:Lp} (a:l.Fine) {t:Tgt}{p:Pln}{v:List Int}:Ae0 l (Nr l t p v):=fun i hi=>by
 have b:i<l.body.length:=by rw[show (Nr l t p v).ops.length=l.body.length from Am8] at hi;exact hi
 rw[Axz b];have hs:=a.rbody _ (D9 b);obtain⟨c,_,_,_,_,d,e,f,g⟩:=hs;exact A0k a ⟨c,d,e,f,g⟩
noncomputable def Ed (l:Lp) (t:Tgt) (d:Krn) (order:List Int):((List Int)×(List Int)×(List Int)×(List (Int×Bool))×Int)→Option (Stp ((List Int)×(List Int)×(List Int)×(List (Int×Bool))×Int) (Option Q9×Bool)):=fun (i,h,g,f,c) =>
 br (Ap (c<(ln order))) (
 ck (IX c (ln order)) <|
 br (((Ap ((ele order c)<0)) || (Ap ((ele order c)≥(ln d.ops)))) || (Fz f (ele order c) Az)) (
 some (.ret (none,Az))) (
 ck (IX (ele order c) (ln d.ops)) <|
 ck (IX c (ln l.body)) <|
 bd (Lk (ele d.ops (ele order c))) fun e =>
 br (!([e.op,e.a.st,e.a.bk,e.b.st,e.b.bk,e.ar,e.sp,e.pl,e.n]==[(ele l.body c).op,0,0,0,0,(ele l.body c).ar,(ele l.body c).sp,(ele l.body c).pl,(ele l.body c).n])) (
 some (.ret (none,Az))) (
 bd (G2 d (ele d.ops (ele order c))) fun m =>
 ck (AL (g++[m]).length 8) <|
 bd (G2 d (ele d.ops (ele order c))) fun j =>
 bd (G1 t ((ele d.ops (ele order c)).op)) fun k =>
 ck (IR (j+k)) <|
 ck (AL (h++[(j+k)]).length 8) <|
 ck (IR ((ele d.ops (ele order c)).dest+(ele d.ops (ele order c)).stage)) <|
 ck (AL (i++[((ele d.ops (ele order c)).dest+(ele d.ops (ele order c)).stage)]).length 8) <|
 ck (IR (c+1)) <|
 some (.next ((i++[((ele d.ops (ele order c)).dest+(ele d.ops (ele order c)).stage)]),(h++[(j+k)]),(g++[m]),(Oi f (ele order c) true),(c+1)))))) (
 some (.brk (i,h,g,f,c)))
noncomputable def Mr (l:Lp) (t:Tgt) (a:Krn) (order:List Int):Option (Option Q9×Bool) :=
 bd (Is l) fun b =>
 bdG (!(!b)) (K2 t a l.logs) fun g =>
 br ((((!b) || (!g)) || ((ln a.ops) != (ln l.body))) || ((ln order) != (ln l.body))) (
 some (none,Az)) (
 bd (lp (Ed l t a order) ([],[],[],([]:List (Int×Bool)),0)) fun c=>c.on (fun (f,e,d,h,i) =>
 some ((some (l.logs,l.body,l.outs,a.pace,t.regs,d,e,f)),true)) (fun r=>some r))
noncomputable def He (t:Tgt) (e:Krn) (order g:List Int) (f:Int) (d:List Rf):Int→Option (Stp (Int) (Bool)):=fun c =>
 br (Ap (c<(ln d))) (
 ck (IX c (ln d)) <|
 ck (IX c 2) <|
 ck (IX ((ele d c).st) (ln g)) <|
 ck (IR ((ele g ((ele d c).st)) - (ele d c).bk)) <|
 ck (IR (((ele g ((ele d c).st)) - (ele d c).bk) - (ele e.ops (ele order f)).stage)) <|
 bd (Jo (((ele g ((ele d c).st)) - (ele d c).bk) - (ele e.ops (ele order f)).stage) t.regs) fun h =>
 br ((ele ([(ele e.ops (ele order f)).a,(ele e.ops (ele order f)).b]:List Int) c) != h) (
 some (.ret Az)) (
 ck (IR (c+1)) <|
 some (.next (c+1)))) (
 some (.brk c))
noncomputable def Hf (l:Lp) (t:Tgt) (b:Krn) (order e:List Int):Int→Option (Stp (Int) (Bool)):=fun a =>
 br (Ap (a<(ln l.body))) (
 ck (IX a (ln l.body)) <|
 ck (IX a (ln order)) <|
 ck (IX (ele order a) (ln b.ops)) <|
 bd (Fh (ele l.body a)) fun d =>
 bd (lp (He t b order e a d) 0) fun c=>c.on (fun f =>
 ck (IR (a+1)) <|
 some (.next (a+1))) (fun r=>some (.ret r))) (
 some (.brk a))
noncomputable def Ln (l:Lp) (t:Tgt) (a:Krn) (order:List Int) (e f:Int) (c:List Int):Option (Bool) :=
 bd (lp (Hf l t a order c) 0) fun b=>b.on (fun d =>
 some true) (fun r=>some r)
noncomputable def Gb (d:Krn) (c:Q9) (b:List Edg×Int):Int→Option (Stp (Int) (Option Q9×Bool)):=fun a =>
 br (Ap (a<(ln b.1))) (
 ck (IX a (ln b.1)) <|
 ck (IX ((ele b.1 a).tO) (ln c.2.2.2.2.2.1)) <|
 ck (IR ((ele b.1 a).bk * d.pace)) <|
 ck (IR ((ele c.2.2.2.2.2.1 ((ele b.1 a).tO))+((ele b.1 a).bk * d.pace))) <|
 ck (IX ((ele b.1 a).fr) (ln c.2.2.2.2.2.1)) <|
 ck (IR ((ele c.2.2.2.2.2.1 ((ele b.1 a).fr))+(ele b.1 a).wt)) <|
 br (Ap (((ele c.2.2.2.2.2.1 ((ele b.1 a).tO))+((ele b.1 a).bk * d.pace))<((ele c.2.2.2.2.2.1 ((ele b.1 a).fr))+(ele b.1 a).wt))) (
 some (.ret (none,Az))) (
 ck (IR (a+1)) <|
 some (.next (a+1)))) (
 some (.brk a))
noncomputable def Hc (l:Lp) (a:Q9) (d:Int):Int→Option (Stp (Int) (Option Q9×Bool)):=fun b =>
 br (Ap (b<(ln l.body))) (
 bd (Me a.2.1 a.2.2.1 a.2.2.2.1 a.2.2.2.2.1 a.2.2.2.2.2.1 a.2.2.2.2.2.2.1 a.2.2.2.2.2.2.2 d b) fun c =>
 br (!c) (
 some (.ret (none,Az))) (
 ck (IR (b+1)) <|
 some (.next (b+1)))) (
 some (.brk b))
noncomputable def Hd (l:Lp) (d:Q9):((List Int)×Int)→Option (Stp ((List Int)×Int) (Option Q9×Bool)):=fun (b,a) =>
 br (Ap (a<(ln l.body))) (
 ck (AL (b++[a]).length 8) <|
 bd (lp (Hc l d a) 0) fun c=>c.on (fun e =>
 ck (IR (a+1)) <|
 some (.next ((b++[a]),(a+1)))) (fun r=>some (.ret r))) (
 some (.brk (b,a)))
noncomputable def Ka (l:Lp) (t:Tgt) (c:Krn) (order:List Int):Option (Option Q9×Bool) :=
 bd (Mr l t c order) fun b =>
 Abq b.1 (
 ck (b.2=Az) <|
 ck ((!(!Az))=true→False) <|
 some (none,Az)) fun a =>
 bdG (!(!b.2)) (Ln l t c order a.2.2.2.1 a.2.2.2.2.1 a.2.2.2.2.2.2.2) fun g =>
 br ((!b.2) || (!g)) (
 some (none,Az)) (
 bd (Fi l t) fun h =>
 bd (lp (Gb c a h) 0) fun d=>d.on (fun j =>
 bd (lp (Hd l a) ([],0)) fun e=>e.on (fun (f,k) =>
 bd (Mm a.1 a.2.1 a.2.2.1 a.2.2.2.1 a.2.2.2.2.1 a.2.2.2.2.2.2.2 f) fun i =>
 some ((some (a.1,a.2.1,a.2.2.1,a.2.2.2.1,a.2.2.2.2.1,a.2.2.2.2.2.1,a.2.2.2.2.2.2.1,a.2.2.2.2.2.2.2)),i)) (fun r=>some r)) (fun r=>some r))
noncomputable def Oe (l:Lp) (t:Tgt) (b:Krn) (order:List Int):Option (Bool) :=
 bd (Ka l t b order) fun a =>
 Abq a.1 (
 ck (a.2=Az) <|
 some Az) fun c =>
 some a.2
def Ke (y:LayD):Q9:=(y.logs,y.body,y.outs,y.pace,y.regs,y.time,y.ready,y.places)
theorem A2g {t:Tgt}{k:Krn}{o:Opr}{logs:List Int} (a:KMayP t k logs) (h:Vo t k o logs):G2 k o=some (Xa k o):=by
 have b:=Aa4 a h;unfold Xa at *;have e:=Xz o.stage k.pace;have hs:=h.1;unfold Aya at hs;unfold G2;rw[Ay Aa Aa,Ay Aa Aa];congr 1;omega
theorem Awa {l:Lp} (I:l.Fine) {t:Tgt}{k:Krn}{order:List Int} (K:Ae0 l k) (Q:order.length≤9223372036854775807):Mr l t k order=some (if tb (LayP l t k order)=true then (some (Ke (Ct l t k order)),true) else (none,Az)):=by
 unfold Mr;rw[Agr l I,bd_ret,Ayp K,O4];by_cases h:LoopOk l∧KMayP t k l.logs∧k.ops.length=l.body.length∧order.length=l.body.length
 ·obtain⟨f,c,r,u⟩:=h
  have P:=f.2.2.1;rw[Dz f,Dz c,show ((((!true) || (!(if (!(!true))=true then true else Az))) || ((ln k.ops) != (ln l.body))) || ((ln order) != (ln l.body)))=Az from by unfold ln;simp[r,u],br_false]
  have key:∀ d s:Nat,s+d=l.body.length→(∀ j,j<s→Axq l k order j)→∀ m:List (Int×Bool),(∀ v,Fz m v Az=true↔∃ j,j<s∧ele order (j:Int)=v) →
    ((∀ j,j<l.body.length→Axq l k order j)∧∃ m',lp (Ed l t k order) ((List.range s).map (fun i=>(Qx t k order i).place),(List.range s).map (fun i=>(Qx t k order i).ready),(List.range s).map (fun i=>(Qx t k order i).time),m,(s:Int)) =
     some (.go ((List.range l.body.length).map (fun i=>(Qx t k order i).place),(List.range l.body.length).map (fun i=>(Qx t k order i).ready),(List.range l.body.length).map (fun i=>(Qx t k order i).time),m',(l.body.length:Int)))) ∨
    (¬(∀ j,j<l.body.length→Axq l k order j)∧lp (Ed l t k order) ((List.range s).map (fun i=>(Qx t k order i).place),(List.range s).map (fun i=>(Qx t k order i).ready),(List.range s).map (fun i=>(Qx t k order i).time),m,(s:Int))=some (.ret (none,Az))):=by
   intro d
   induction d with
   | zero =>
    intro s hs B m y;have:s=l.body.length:=Aa;subst this;exact .inl ⟨B,m,Db (by unfold Ed;exact Cn (by unfold ln;omega))⟩
   | succ d O =>
    intro s hs B m y;have C:s<l.body.length:=Aa;have A:IX (s:Int) (ln order):=⟨Aa,by unfold ln;omega⟩;by_cases c1:0≤ele order (s:Int)∧ele order (s:Int)<l.body.length
    ·have F:=Yt c r c1
     have R:=Aa4 c F;have S:=Ur t (Ei k order s).op;have J:IX (ele order (s:Int)) (ln k.ops):=⟨c1.1,by unfold ln;omega⟩;by_cases c2:∀ i,i<s→ele order (i:Int)≠ele order (s:Int)
     ·have L:Fz m (ele order (s:Int)) Az=Az:=by
       cases z:Fz m (ele order (s:Int)) Az with
       | false=>rfl
       | true =>
        obtain⟨j,o,g⟩:=(y _).1 z;exact absurd g (c2 j o)
      have H:(!([(G5 (Ei k order s)).op,(G5 (Ei k order s)).a.st,(G5 (Ei k order s)).a.bk,(G5 (Ei k order s)).b.st,(G5 (Ei k order s)).b.bk,(G5 (Ei k order s)).ar,(G5 (Ei k order s)).sp,(G5 (Ei k order s)).pl,(G5 (Ei k order s)).n]==[(ele l.body (s:Int)).op,0,0,0,0,(ele l.body (s:Int)).ar,(ele l.body (s:Int)).sp,(ele l.body (s:Int)).pl,(ele l.body (s:Int)).n]))=!tb (Ago (Ei k order s) (ele l.body (s:Int))):=by
       congr 1;exact L6 (by unfold Ago G5;simp)
      have w:Ed l t k order ((List.range s).map (fun i=>(Qx t k order i).place),(List.range s).map (fun i=>(Qx t k order i).ready),(List.range s).map (fun i=>(Qx t k order i).time),m,(s:Int))=br (!tb (Ago (Ei k order s) (ele l.body (s:Int)))) (some (.ret (none,Az))) (some (.next ((List.range (s+1)).map (fun i=>(Qx t k order i).place),(List.range (s+1)).map (fun i=>(Qx t k order i).ready),(List.range (s+1)).map (fun i=>(Qx t k order i).time),Oi m (ele order (s:Int)) true,((s+1:Nat):Int)))):=by
       unfold Ed;simp only;rw[Ck (by unfold ln;omega),Ax A,show ((Ap (ele order (s:Int)<0) || Ap (ele order (s:Int)≥ln k.ops)) || Fz m (ele order (s:Int)) Az)=Az from by rw[L];unfold ln;simp;omega,br_false,Ax J,A8 Aa (by unfold ln;omega)];rw[show ele k.ops (ele order (s:Int))=Ei k order s from rfl,show Lk (Ei k order s)=some (G5 (Ei k order s)) from rfl,bd_ret,H,A2g c F];simp only[bd_ret];rw[Ax (AL8 (by simp;omega)),N9,bd_ret,Ay Aa Aa,Ax (AL8 (by simp;omega)),Ay Aa Aa,Ax (AL8 (by simp;omega)),Ay Aa Aa];rw[show Xa k (Ei k order s)=(fun i=>(Qx t k order i).time) s from rfl,show (fun i=>(Qx t k order i).time) s+Fb t (Ei k order s).op=(fun i=>(Qx t k order i).ready) s from rfl,show (Ei k order s).dest+(Ei k order s).stage=(fun i=>(Qx t k order i).place) s from rfl,rm_succ,rm_succ,rm_succ];rfl
      by_cases c3:Ago (Ei k order s) (ele l.body (s:Int))
      ·rw[Dz c3,F9,br_false] at w
       have N:∀ j,j<s+1→Axq l k order j:=fun j o=>by
        by_cases e:j=s
        ·subst e;exact⟨c1,c2,c3⟩
        ·exact B j Aa
       rcases O (s+1) Aa N (Oi m (ele order (s:Int)) true) (fun v=>by
        rw[O2];by_cases e:ele order (s:Int)=v
        ·rw[Bj e];exact⟨fun _=>⟨s,Aa,e⟩,fun _=>rfl⟩
        ·rw[Bg e,y]
         constructor
         ·rintro⟨j,o,g⟩;exact⟨j,Aa,g⟩
         ·rintro⟨j,o,g⟩
          by_cases G:j=s
          ·subst G;exact absurd g e
          ·exact⟨j,Aa,g⟩) with ⟨q,m',E⟩ | ⟨q,E⟩
       ·exact .inl ⟨q,m',B4 w E⟩
       ·exact .inr ⟨q,B4 w E⟩
      ·rw[C3 c3] at w
       exact .inr ⟨fun h=>c3 (h s C).2.2,Hw w⟩
     ·have M:Fz m (ele order (s:Int)) Az=true:=by
       refine(y _).2 ?_;refine Classical.byContradiction fun z=>c2 fun i hi g=>z ⟨i,hi,g⟩
      refine .inr ⟨fun h=>c2 (h s C).2.1,Hw ?_⟩;unfold Ed;simp only;rw[Ck (by unfold ln;omega),Ax A,M,Agt,br_true]
    ·refine .inr ⟨fun h=>c1 (h s C).1,Hw ?_⟩
     unfold Ed;simp only
     rw[Ck (by unfold ln;omega),Ax A,show ((Ap (ele order (s:Int)<0) || Ap (ele order (s:Int)≥ln k.ops)) || Fz m (ele order (s:Int)) Az)=true from by
      unfold ln
      rw[W8,W8,Ij,Ij];omega,br_true]
  rcases key l.body.length 0 Aa (fun j o=>absurd o (Rn _)) [] (fun v=>⟨fun h=>(by cases h),fun ⟨j,o,_⟩=>absurd o (Rn _)⟩) with ⟨q,m',e⟩ | ⟨q,e⟩
  ·rw[show lp (Ed l t k order) ([],[],[],([]:List (Int×Bool)),0)=_ from e,bd_ret,Out.on_go,Dz (p:=LayP l t k order) ⟨f,c.tgt,c,r,u,q⟩]
   rfl
  ·rw[show lp (Ed l t k order) ([],[],[],([]:List (Int×Bool)),0)=_ from e,bd_ret,Out.on_ret,C3 fun h:LayP l t k order=>q h.ord]
   rfl
 ·rw[C3 fun x:LayP l t k order=>h ⟨x.loop,x.may,x.n,x.no⟩]
  by_cases f:LoopOk l
  ·by_cases c:KMayP t k l.logs
   ·rw[Dz f,Dz c,show ((((!true) || (!(if (!(!true))=true then true else Az))) || ((ln k.ops) != (ln l.body))) || ((ln order) != (ln l.body)))=true from by
     unfold ln;by_cases r:k.ops.length=l.body.length
     ·have u:¬order.length=l.body.length:=fun u=>h ⟨f,c,r,u⟩
      simp;omega
     ·simp;omega,br_true]
    rfl
   ·rw[Dz f,C3 c];rfl
  ·rw[C3 f];rfl
section
variable {l : Lp} {t : Tgt} {k : Krn} {order : List Int}
def Acr (l:Lp) (t:Tgt) (k:Krn) (order:List Int):Prop:=∀ s,s<l.body.length→∀ i,i<(Bm (ele l.body (s:Int))).length→Agq l t k order s i
theorem A2r (h:LayP l t k order):Ln l t k order (Ct l t k order).pace (Ct l t k order).regs (Ct l t k order).places=some (tb (Acr l t k order)):=by
 have j:=Wc h;have B:=h.loop.2.2.1;have x:=j.regs;have A:=j.lp;have y:(Ct l t k order).body.length=l.body.length:=rfl;have C:=h.no;have v:=h.n;unfold Ln
 have X:=Lz (f:=Hf l t k order (Ct l t k order).places) (ρ:=Bool) (fun s=>(s:Int)) l.body.length (fun s=>∀ i,i<(Bm (ele l.body (s:Int))).length→Agq l t k order s i) (fun _=>Az) (fun s hs _=>by
  have g:=h.ord s hs;have E:=Aa4 h.may (Yt h.may h.n g.1);have z:=O1 (ele l.body (s:Int));unfold Hf;rw[Ck (by unfold ln;omega),A8 Aa (by unfold ln;omega),A8 Aa (by unfold ln;omega),A8 g.1.1 (by unfold ln;rw[v];exact g.1.2),Aa9,bd_ret]
  rcases Lz (f:=He t k order (Ct l t k order).places s (Bm (ele l.body (s:Int)))) (ρ:=Bool) (fun i=>(i:Int)) (Bm (ele l.body (s:Int))).length (fun i=>Agq l t k order s i) (fun _=>Az) (fun i hi _=>by
    have q:=Auc h s hs _ (D9 hi);obtain⟨a,o⟩:=Ik q.1
    have r:a<l.body.length:=by have:=q.2.1;omega
    have pa:=j.pl a r;unfold He;rw[Ck (by unfold ln;omega),A8 Aa (by unfold ln;omega),A8 Aa Aa,o,A8 Aa (by unfold ln;omega),Ay Aa Aa];rw[show ele k.ops (ele order (s:Int))=Ei k order s from rfl,Ay Aa Aa,Acd (by show 1≤(Ct l t k order).regs;omega) (by show (Ct l t k order).regs≤128;omega),bd_ret]
    have u:ele ([(Ei k order s).a,(Ei k order s).b]:List Int) (i:Int)=Ax1 (Ei k order s) i:=by
     obtain c | c:i=0∨i=1:=Aa
     all_goals subst c;rfl
    have w:(ele ([(Ei k order s).a,(Ei k order s).b]:List Int) (i:Int) != (ele (Ct l t k order).places (a:Int) - (ele (Bm (ele l.body (s:Int))) (i:Int)).bk - (Ei k order s).stage) % t.regs)=!tb (Agq l t k order s i):=by
     unfold Agq;rw[u,o,neB]
    rw[w]
    exact⟨fun h=>by rw[Dz h,F9,br_false,Ay Aa Aa];rfl,fun h=>by rw[C3 h,Kc,br_true]⟩) (by unfold He;exact Cn (by unfold ln;omega)) with ⟨d,e⟩ | ⟨i,d,m,_,e⟩
  ·rw[show lp (He t k order (Ct l t k order).places s (Bm (ele l.body (s:Int)))) 0=_ from e,bd_ret,Out.on_go,Ay Aa Aa]
   exact⟨fun _=>rfl,fun h=>absurd d h⟩
  ·rw[show lp (He t k order (Ct l t k order).places s (Bm (ele l.body (s:Int)))) 0=_ from e,bd_ret,Out.on_ret]
   exact⟨fun h=>absurd (h i d) m,fun _=>rfl⟩) (by unfold Hf;exact Cn (by unfold ln;omega))
 rcases X with ⟨d,e⟩ | ⟨s,d,m,_,e⟩
 ·rw[show lp (Hf l t k order (Ct l t k order).places) 0=_ from e,bd_ret,Out.on_go,Dz (p:=Acr l t k order) d]
 ·rw[show lp (Hf l t k order (Ct l t k order).places) 0=_ from e,bd_ret,Out.on_ret,C3 fun h:Acr l t k order=>m (h s d)]
end
section
variable {l : Lp} {t : Tgt} {k : Krn} {order : List Int}
theorem Ahv (y:l.Fine) (I:Ae0 l k) (K:order.length≤9223372036854775807):∃ r,Ka l t k order=some (r,tb (TakesP l t k order))∧(TakesP l t k order→r=some (Ke (Ct l t k order))):=by
 unfold Ka;rw[Awa y I K,bd_ret];by_cases h:LayP l t k order
 ·rw[Dz h,Bj rfl]
  show ∃ r,(Abq (some (Ke (Ct l t k order))) _ _)=_∧_;unfold Abq;simp only;have J:=A2r h;rw[show (!(!((some (Ke (Ct l t k order)),true):Option Q9×Bool).2))=true from rfl,bdG_t,show Ln l t k order (Ke (Ct l t k order)).2.2.2.1 (Ke (Ct l t k order)).2.2.2.2.1 (Ke (Ct l t k order)).2.2.2.2.2.2.2=_ from J,bd_ret];by_cases q:Acr l t k order
  ·rw[Dz q,show ((!((some (Ke (Ct l t k order)),true):Option Q9×Bool).2) || (!true))=Az from rfl,br_false]
   obtain⟨E,z,P,Q,s,R⟩:=S6 h.loop y h.tgt;have p:=Wc h;have W:=h.may.pace;have V:=h.loop.2.2.1;have U:=p.lt;have T:(Ct l t k order).body.length=l.body.length:=rfl;rw[z,bd_ret]
   rcases Lz (f:=Gb k (Ke (Ct l t k order)) (E,0)) (ρ:=Option Q9×Bool) (fun i=>(i:Int)) E.length (fun i=>Ady (Ct l t k order) (ele E (i:Int))) (fun _=>(none,Az)) (fun i hi _=>by
     have n:=((s _).1 (D9 hi)).in h.loop;obtain⟨a,j⟩:=Ik n.tO.1;obtain⟨b,w⟩:=Ik n.fr.1
     have C:a<l.body.length:=by have:=n.tO.2;omega
     have G:b<l.body.length:=by have:=n.fr.2;omega
     have a1:=p.tm a C;have a2:=p.tm b G;have S:=n.bk;have Y:=n.wt;have a0:=Sr (a:=(ele E (i:Int)).bk) (A:=32) (b:=k.pace) (B:=200) Aa Aa Aa Aa
     have e:Gb k (Ke (Ct l t k order)) (E,0) i=br (!tb (Ady (Ct l t k order) (ele E (i:Int)))) (some (.ret (none,Az))) (some (.next ((i:Int)+1))):=by
      unfold Gb;simp only;rw[show (Ke (Ct l t k order)).2.2.2.2.2.1=(Ct l t k order).time from rfl];rw[Ck (by unfold ln;omega),A8 Aa (by unfold ln;omega),j,w,A8 Aa (by unfold ln;omega),Ay Aa Aa,Ay Aa Aa,A8 Aa (by unfold ln;omega),Ay Aa Aa,Ay Aa Aa];congr 1
      have:(!Ap (ele (Ct l t k order).time (a:Int)+(ele E (i:Int)).bk * k.pace<ele (Ct l t k order).time (b:Int)+(ele E (i:Int)).wt))=tb (Ady (Ct l t k order) (ele E (i:Int))):=L6 (by
       unfold Ady;rw[j,w,show (Ct l t k order).pace=k.pace from rfl]
       simp)
      rw[←this,Adc]
     rw[e]
     exact⟨fun h=>by rw[Dz h];rfl,fun h=>by rw[C3 h];rfl⟩) (by unfold Gb;exact Cn (by show ¬((E.length:Int)<ln E);unfold ln;omega)) with ⟨u,w1⟩ | ⟨i,u,N,_,w1⟩
   ·rw[show lp (Gb k (Ke (Ct l t k order)) (E,0)) 0=_ from w1,bd_ret,Out.on_go]
    have X:=Lz (f:=Hd l (Ke (Ct l t k order))) (ρ:=Option Q9×Bool) (fun a=>(Hh a,(a:Int))) l.body.length (fun a=>∀ m:Nat,m<l.body.length→Ot (Ct l t k order) a m) (fun _=>(none,Az)) (fun a j _=>by
     unfold Hd;simp only;rw[Ck (by unfold ln;omega),show Hh a++[(a:Int)]=Hh (a+1) from rm_succ (g:=fun i:Nat=>(i:Int)),Ax (AL8 (by rw[Ps];omega))]
     rcases Lz (f:=Hc l (Ke (Ct l t k order)) a) (ρ:=Option Q9×Bool) (fun i=>(i:Int)) l.body.length (fun m=>Ot (Ct l t k order) a m) (fun _=>(none,Az)) (fun m o _=>by
       have F:=Anj p j o;unfold Hc;rw[Ck (by unfold ln;omega),show Me (Ke (Ct l t k order)).2.1 (Ke (Ct l t k order)).2.2.1 (Ke (Ct l t k order)).2.2.2.1 (Ke (Ct l t k order)).2.2.2.2.1 (Ke (Ct l t k order)).2.2.2.2.2.1 (Ke (Ct l t k order)).2.2.2.2.2.2.1 (Ke (Ct l t k order)).2.2.2.2.2.2.2 a m=_ from F,bd_ret]
       exact⟨fun h=>by rw[Dz h,F9,br_false,Ay Aa Aa];rfl,fun h=>by rw[C3 h,Kc,br_true]⟩) (by unfold Hc;exact Cn (by unfold ln;omega)) with ⟨w1,e⟩ | ⟨m,w1,w2,_,e⟩
     ·rw[show lp (Hc l (Ke (Ct l t k order)) a) 0=_ from e,bd_ret,Out.on_go,Ay Aa Aa]
      exact⟨fun _=>rfl,fun h=>absurd w1 h⟩
     ·rw[show lp (Hc l (Ke (Ct l t k order)) a) 0=_ from e,bd_ret,Out.on_ret]
      exact⟨fun h=>absurd (h m w1) w2,fun _=>rfl⟩) (by unfold Hd;exact Cn (by unfold ln;omega))
    rcases X with ⟨v,w2⟩ | ⟨a,v,O,_,w2⟩
    ·rw[show lp (Hd l (Ke (Ct l t k order))) ([],0)=_ from w2,bd_ret,Out.on_go]
     simp only;have H:=Apm p (L:=Hh l.body.length) (fun x M=>by have:=Acn M;omega) (by rw[Ps];omega);rw[show Mm (Ke (Ct l t k order)).1 (Ke (Ct l t k order)).2.1 (Ke (Ct l t k order)).2.2.1 (Ke (Ct l t k order)).2.2.2.1 (Ke (Ct l t k order)).2.2.2.2.1 (Ke (Ct l t k order)).2.2.2.2.2.2.2 (Hh l.body.length)=_ from H,bd_ret];refine⟨_,congrArg some (Prod.ext rfl ?_),fun _=>rfl⟩;exact Ht ⟨fun c=>⟨h,(Aee s).1 u,q,fun a m j o=>v a j m o,c⟩,fun c=>c.firsts⟩
    ·rw[show lp (Hd l (Ke (Ct l t k order))) ([],0)=_ from w2,bd_ret,Out.on_ret]
     have d:¬TakesP l t k order:=fun c=>O fun m o=>c.apart a m v o;exact⟨none,by rw[C3 d],fun c=>absurd c d⟩
   ·rw[show lp (Gb k (Ke (Ct l t k order)) (E,0)) 0=_ from w1,bd_ret,Out.on_ret]
    have d:¬TakesP l t k order:=fun c=>N (c.edge _ ((s _).1 (D9 u)));exact⟨none,by rw[C3 d],fun c=>absurd c d⟩
  ·have d:¬TakesP l t k order:=fun c=>q c.name
   rw[C3 q,show ((!((some (Ke (Ct l t k order)),true):Option Q9×Bool).2) || (!Az))=true from rfl,br_true];exact⟨none,by rw[C3 d],fun c=>absurd c d⟩
 ·have d:¬TakesP l t k order:=fun c=>h c.lay
  rw[C3 h,Bg Ah];refine⟨none,?_,fun c=>absurd c d⟩;rw[C3 d];unfold Abq;simp only;rw[Ax trivial,Ax Ah]
theorem Av8 (a:l.Fine) (b:Ae0 l k) (c:order.length≤9223372036854775807):Oe l t k order=some (tb (TakesP l t k order)):=by
 obtain⟨r,e,d⟩:=Ahv (t:=t) a b c;unfold Oe;rw[e,bd_ret];by_cases h:TakesP l t k order
 ·rw[d h];rfl
 ·rw[C3 h]
  unfold Abq
  cases r with
  | none=>simp only;rw[Ax trivial]
  | some y=>rfl
end
noncomputable def Ho (d:Int) (e:List (List Int)) (b:Int):((List (List Int))×Int)→Option (Stp ((List (List Int))×Int) (Empty)):=fun (c,a) =>
 br (Ap (a<(ln (ele (upd e b (List.replicate d.toNat (0:Int))) b)))) (
 ck (IX b (ln c)) <|
 ck (IX a (ln (ele c b))) <|
 ck (IR (a+1)) <|
 some (.next ((updG c b a (-1099511627776)),(a+1)))) (
 some (.brk (c,a)))
noncomputable def Hp (b:Int):((List (List Int))×Int)→Option (Stp ((List (List Int))×Int) (Empty)):=fun (c,a) =>
 br (Ap (a<(ln (List.replicate b.toNat ([]:List Int))))) (
 ck (0≤b) <|
 ck (AL b.toNat 8) <|
 ck (IX a (ln c)) <|
 ck (IX a (ln (upd c a (List.replicate b.toNat (0:Int))))) <|
 bd (lp (Ho b c a) ((upd c a (List.replicate b.toNat (0:Int))),0)) fun d=>d.on (fun (e,f) =>
 ck (IR (a+1)) <|
 some (.next (e,(a+1)))) (fun r=>r.elim)) (
 some (.brk (c,a)))
noncomputable def Hn (b:List Edg) (pace:Int):((List (List Int))×Int)→Option (Stp ((List (List Int))×Int) (Empty)):=fun (c,a) =>
 br (Ap (a<(ln b))) (
 ck (IX a (ln b)) <|
 ck (IX ((ele b a).fr) (ln c)) <|
 ck (IX ((ele b a).fr) (ln c)) <|
 ck (IX ((ele b a).tO) (ln (ele c ((ele b a).fr)))) <|
 ck (IR (pace * (ele b a).bk)) <|
 ck (IR ((ele b a).wt - (pace * (ele b a).bk))) <|
 ck (IX ((ele b a).tO) (ln (ele c ((ele b a).fr)))) <|
 ck (IR (a+1)) <|
 some (.next ((updG c ((ele b a).fr) ((ele b a).tO) (max (ele (ele c ((ele b a).fr)) ((ele b a).tO)) ((ele b a).wt - (pace * (ele b a).bk)))),(a+1)))) (
 some (.brk (c,a)))
noncomputable def Gu (e d b:Int):((List (List Int))×Int)→Option (Stp ((List (List Int))×Int) (Empty)):=fun (a,c) =>
 br (Ap (c<e)) (
 ck (IX b (ln a)) <|
 ck (IX d (ln (ele a b))) <|
 ck ((Ap ((ele (ele a b) d)>(-1099511627776)))=true→IX d (ln a)) <|
 ck ((Ap ((ele (ele a b) d)>(-1099511627776)))=true→IX c (ln (ele a d))) <|
 br ((Ap ((ele (ele a b) d)>(-1099511627776)))&&(Ap ((ele (ele a d) c)>(-1099511627776)))) (
 ck (IX b (ln a)) <|
 ck (IX b (ln a)) <|
 ck (IX c (ln (ele a b))) <|
 ck (IX b (ln a)) <|
 ck (IX d (ln (ele a b))) <|
 ck (IX d (ln a)) <|
 ck (IX c (ln (ele a d))) <|
 ck (IR ((ele (ele a b) d)+(ele (ele a d) c))) <|
 ck (IX c (ln (ele a b))) <|
 ck (IR (c+1)) <|
 some (.next ((updG a b c (max (ele (ele a b) c) (min ((ele (ele a b) d)+(ele (ele a d) c)) 1048576))),(c+1)))) (
 ck (IR (c+1)) <|
 some (.next (a,(c+1))))) (
 some (.brk (a,c)))
noncomputable def Hl (b f:Int):((List (List Int))×Int)→Option (Stp ((List (List Int))×Int) (Empty)):=fun (c,a) =>
 br (Ap (a<b)) (
 bd (lp (Gu b f a) (c,0)) fun d=>d.on (fun (e,g) =>
 ck (IR (a+1)) <|
 some (.next (e,(a+1)))) (fun r=>r.elim)) (
 some (.brk (c,a)))
noncomputable def Hm (b:Int):((List (List Int))×Int)→Option (Stp ((List (List Int))×Int) (Empty)):=fun (c,a) =>
 br (Ap (a<b)) (
 bd (lp (Hl b a) (c,0)) fun d=>d.on (fun (e,f) =>
 ck (IR (a+1)) <|
 some (.next (e,(a+1)))) (fun r=>r.elim)) (
 some (.brk (c,a)))
noncomputable def Ie (c:Int) (b:List (List Int)):Int→Option (Stp (Int) (Bool)):=fun a =>
 br (Ap (a<c)) (
 ck (IX a (ln b)) <|
 ck (IX a (ln (ele b a))) <|
 br (Ap ((ele (ele b a) a)>0)) (
 some (.ret Az)) (
 ck (IR (a+1)) <|
 some (.next (a+1)))) (
 some (.brk a))
noncomputable def Mt (a:Int) (b:List Edg) (pace:Int):Option (Bool) :=
 ck (0≤a) <|
 ck (AL a.toNat 24) <|
 bd (lp (Hp a) ((List.replicate a.toNat ([]:List Int)),0)) fun c=>c.on (fun (h,k) =>
 bd (lp (Hn b pace) (h,0)) fun d=>d.on (fun (i,l) =>
 bd (lp (Hm a) (i,0)) fun e=>e.on (fun (g,m) =>
 bd (lp (Ie a g) 0) fun f=>f.on (fun j =>
 some true) (fun r=>some r)) (fun r=>r.elim)) (fun r=>r.elim)) (fun r=>r.elim)
noncomputable def I2 (l:Lp):((List Int)×Int)→Option (Stp ((List Int)×Int) (Empty)):=fun (b,c) =>
 br (Ap (c<(ln l.body))) (
 ck (IX c (ln l.body)) <|
 bd (Fg ((ele l.body c).op)) fun a =>
 ck (IX a 3) <|
 ck (IX a (ln b)) <|
 ck (IR ((ele b a)+1)) <|
 ck (IX a 3) <|
 ck (IX a (ln b)) <|
 ck (IR (c+1)) <|
 some (.next ((upd b a ((ele b a)+1)),(c+1)))) (
 some (.brk (b,c)))
noncomputable def I1 (t:Tgt) (b:List Int):(Int×Int)→Option (Stp (Int×Int) (Empty)):=fun (c,a) =>
 br (Ap (a<3)) (
 ck (IX a 3) <|
 ck (IX a 3) <|
 ck (IR ((ele b a)+(Cv t.u0 t.u1 t.u2 a))) <|
 ck (IR (((ele b a)+(Cv t.u0 t.u1 t.u2 a)) - 1)) <|
 ck (IX a 3) <|
 ck ((Cv t.u0 t.u1 t.u2 a)≠0) <|
 ck (IR (Int.tdiv (((ele b a)+(Cv t.u0 t.u1 t.u2 a)) - 1) (Cv t.u0 t.u1 t.u2 a))) <|
 ck (IR (a+1)) <|
 some (.next ((max c (Int.tdiv (((ele b a)+(Cv t.u0 t.u1 t.u2 a)) - 1) (Cv t.u0 t.u1 t.u2 a))),(a+1)))) (
 some (.brk (c,a)))
noncomputable def Mu (l:Lp) (c:List Edg×Int):Int→Option (Stp (Int) (Empty)):=fun a =>
 bd (Mt (ln l.body) c.1 a) fun b =>
 br (!b) (
 ck (IR (a+1)) <|
 some (.next (a+1))) (
 some (.brk a))
noncomputable def Kb (l:Lp) (t:Tgt):Option (Int×Int×Int) :=
 bd (Fi l t) fun a =>
 br (a.2 != 0) (
 some (0,0,a.2)) (
 bd (lp (I2 l) (([0,0,0]:List Int),0)) fun d=>d.on (fun (b,h) =>
 ck (b.length=3) <|
 bd (lp (I1 t b) (1,0)) fun e=>e.on (fun (g,i) =>
 bd (lp (Mu l a) 1) fun f=>f.on (fun c =>
 some (g,c,0)) (fun r=>r.elim)) (fun r=>r.elim)) (fun r=>r.elim))
def No (n:Nat) (f:Nat→Nat→Int):List (List Int):=(List.range n).map fun i=>(List.range n).map (f i)
def Af7 (f:Nat→Nat→Int) (i j:Nat) (z:Int):Nat→Nat→Int:=fun a b=>if a=i∧b=j then z else f a b
def nev:Int:=-1099511627776
theorem Aeb {n:Nat}{f:Nat→Nat→Int}{i:Nat} (hi:i<n):ele (No n f) (i:Int)=(List.range n).map (f i):=Il hi
theorem Yr {n:Nat}{f:Nat→Nat→Int}{i j:Nat} (hi:i<n) (a:j<n):ele (ele (No n f) (i:Int)) (j:Int)=f i j:=by rw[Aeb hi,Il a]
theorem Pt {n:Nat}{f:Nat→Nat→Int}:ln (No n f)=n:=Aex
theorem Mz {n:Nat}{f:Nat→Nat→Int}{i:Nat} (hi:i<n):ln (ele (No n f) (i:Int))=n:=by rw[Aeb hi,Aex]
theorem Ako {n:Nat}{f:Nat→Nat→Int}{i j:Nat}{z:Int} (hi:i<n) (g:j<n):updG (No n f) (i:Int) (j:Int) z=No n (Af7 f i j z):=by
 unfold updG;rw[Aeb hi,Aay g];unfold No;rw[Aay hi];refine Kf fun a k=>?_;by_cases e:a=i
 ·subst e
  rw[Bj rfl];refine Kf fun b d=>?_;unfold Af7;by_cases c:b=j
  ·subst c;rw[Bj rfl,Bj ⟨rfl,rfl⟩]
  ·rw[Bg c,Bg fun h=>c h.2]
 ·rw[Bg e]
  refine Kf fun b d=>?_;unfold Af7;rw[Bg fun h=>e h.1]
theorem A0u {n:Nat} (r:n≤16) {i:Nat} (hi:i<n):lp (Ho (n:Int) ((List.range n).map fun a=>if a<i then (List.range n).map (fun _=>nev) else []) (i:Int)) ((upd ((List.range n).map fun a=>if a<i then (List.range n).map (fun _=>nev) else []) (i:Int) (List.replicate n (0:Int))),0) =
  some (.go ((List.range n).map fun a=>if a<i+1 then (List.range n).map (fun _=>nev) else [],(n:Int))):=by
 have o:(upd ((List.range n).map fun a=>if a<i then (List.range n).map (fun _=>nev) else []) (i:Int) (List.replicate n (0:Int)))=(List.range n).map fun a=>if a=i then (List.range n).map (fun b=>if b<0 then nev else 0) else if a<i then (List.range n).map (fun _=>nev) else []:=by
  rw[Aay hi];refine Kf fun a g=>?_;by_cases e:a=i
  ·rw[Bj e,Bj e]
   apply Xq;intro k;by_cases l:k<n
   ·simp[Abv,l]
   ·simp[Abv,l]
  ·rw[Bg e,Bg e]
 have p:((List.range n).map fun a=>if a<i+1 then (List.range n).map (fun _=>nev) else [])=(List.range n).map fun a=>if a=i then (List.range n).map (fun b=>if b<n then nev else 0) else if a<i then (List.range n).map (fun _=>nev) else []:=by
  refine Kf fun a g=>?_;by_cases e:a=i
  ·rw[Bj Aa,Bj e]
   exact Kf fun b h=>by rw[Bj h]
  ·rw[Bg e]
   by_cases c:a<i
   ·rw[Bj Aa,Bj c]
   ·rw[Bg Aa,Bg c]
 have m:ln (ele (upd ((List.range n).map fun a=>if a<i then (List.range n).map (fun _=>nev) else []) (i:Int) (List.replicate n (0:Int))) (i:Int))=n:=by
  rw[Aca ⟨Aa,by rw[Aex];omega⟩];unfold ln;simp
 rw[p]
 have key:=G8 (f:=Ho (n:Int) ((List.range n).map fun a=>if a<i then (List.range n).map (fun _=>nev) else []) (i:Int)) (fun j=>((List.range n).map fun a=>if a=i then (List.range n).map (fun b=>if b<j then nev else 0) else if a<i then (List.range n).map (fun _=>nev) else [],(j:Int))) n (fun j q=>by
   unfold Ho;simp only[I9];rw[Ck (by rw[m];omega),A8 Aa (by rw[Aex];omega),Il hi,Bj rfl,A8 Aa (by rw[Aex];omega),Ay Aa Aa];refine congrArg some (congrArg Stp.next (Prod.ext ?_ rfl));show updG _ _ _ _=_;unfold updG;rw[Il hi,Bj rfl,Aay q,Aay hi];refine Kf fun a g=>?_;by_cases e:a=i
   ·rw[Bj e,Bj e]
    refine Kf fun b h=>?_;by_cases c:b=j
    ·rw[Bj c,Bj Aa];rfl
    ·rw[Bg c]
     by_cases d:b<j
     ·rw[Bj d,Bj Aa]
     ·rw[Bg d,Bg Aa]
   ·rw[Bg e,Bg e,Bg e]) (by
   unfold Ho;simp only[I9]
   exact Cn (by rw[m];omega))
 rw[o];exact key
theorem Awq {n:Nat} (g:n≤16):lp (Hp (n:Int)) (List.replicate n ([]:List Int),0)=some (.go (No n (fun _ _=>nev),(n:Int))):=by
 have c:List.replicate n ([]:List Int)=(List.range n).map fun a=>if a<0 then (List.range n).map (fun _=>nev) else []:=by
  apply Xq;intro k;by_cases b:k<n
  ·simp[Abv,b]
  ·simp[Abv,b]
 have d:No n (fun _ _=>nev)=(List.range n).map fun a=>if a<n then (List.range n).map (fun _=>nev) else []:=Kf fun a e=>by rw[Bj e]
 rw[c,d]
 refine G8 (f:=Hp (n:Int)) (fun i=>((List.range n).map fun a=>if a<i then (List.range n).map (fun _=>nev) else [],(i:Int))) n (fun i hi=>?_) (by
  unfold Hp;simp only[I9]
  exact Cn (by unfold ln;simp))
 unfold Hp;simp only[I9];rw[Ck (by unfold ln;simp;omega),Ax Aa,Ax (AL8 Aa),A8 Aa (by rw[Aex];omega),A8 Aa (by rw[Aay hi,Aex];omega),A0u g hi,bd_ret,Out.on_go,Ay Aa Aa];rfl
structure InitI (E:List Edg) (pace:Int) (k:Nat) (f:Nat→Nat→Int):Prop where
 src:∀ a b:Nat,f a b=nev∨∃ e∈E,e.fr=a∧e.tO=b∧f a b=e.wt - pace * e.bk
 has:∀ i:Nat,i<k→(ele E (i:Int)).wt - pace * (ele E (i:Int)).bk≤f (ele E (i:Int)).fr.toNat (ele E (i:Int)).tO.toNat
theorem Ajn {n:Nat}{e:Edg} (h:EdgeIn n e) {pace:Int} (f:1≤pace∧pace≤200):-6400≤e.wt - pace * e.bk∧e.wt - pace * e.bk≤6∧0≤pace * e.bk∧pace * e.bk≤6400:=by
 have c:=h.bk;have d:=h.wt;have g:=Sr (a:=pace) (A:=200) (b:=e.bk) (B:=32) Aa Aa Aa Aa;have i:=Agv (show 0≤pace from Aa) c.1;omega
theorem Ast {n:Nat}{E:List Edg} (q:∀ e∈E,EdgeIn n e) (u:E.length≤60000) {pace:Int} (s:1≤pace∧pace≤200):∃ g,lp (Hn E pace) (No n (fun _ _=>nev),0)=some (.go (g,(E.length:Int)))∧∃ f,g=No n f∧InitI E pace E.length f:=by
 refine Pl (f:=Hn E pace) (fun k g=>∃ f,g=No n f∧InitI E pace k f) (fun k g p r=>?_) (fun g=>by unfold Hn;exact Cn (by unfold ln;omega)) _ ⟨_,rfl,fun _ _=>.inl rfl,fun i hi=>absurd hi (Rn _)⟩;obtain⟨f,rfl,h⟩:=r;have c:=q _ (D9 p);have v:=Ajn c s;obtain⟨a,l⟩:=Ik c.fr.1;obtain⟨b,m⟩:=Ik c.tO.1
 have d:a<n:=by have:=c.fr.2;omega
 have o:b<n:=by have:=c.tO.2;omega
 unfold Hn;simp only;rw[l,m,Ck (by unfold ln;omega),A8 Aa (by unfold ln;omega),A8 Aa (by rw[Pt];omega),A8 Aa (by rw[Pt];omega),A8 Aa (by rw[Mz d];omega),Ay Aa Aa,Ay Aa Aa,A8 Aa (by rw[Mz d];omega),Ay Aa Aa,Yr d o,Ako d o];refine⟨_,rfl,_,rfl,fun x y=>?_,fun i hi=>?_⟩
 ·unfold Af7
  by_cases e:x=a∧y=b
  ·rw[Bj e]
   obtain⟨rfl,rfl⟩:=e;by_cases t:f x y≤(ele E (k:Int)).wt - pace * (ele E (k:Int)).bk
   ·exact .inr ⟨_,D9 p,l,m,Aa⟩
   ·rw[show max (f x y) ((ele E (k:Int)).wt - pace * (ele E (k:Int)).bk)=f x y from Aa]
    exact h.src x y
  ·rw[Bg e];exact h.src x y
 ·unfold Af7
  by_cases e:(ele E (i:Int)).fr.toNat=a∧(ele E (i:Int)).tO.toNat=b
  ·rw[Bj e]
   by_cases j:i=k
   ·subst j;omega
   ·have:=h.has i Aa
    rw[e.1,e.2] at this;omega
  ·rw[Bg e]
   by_cases j:i=k
   ·subst j;exact absurd ⟨Aa,Aa⟩ e
   ·exact h.has i Aa
def fwS (k i j:Nat) (f:Nat→Nat→Int):Nat→Nat→Int:=if f i k>nev∧f k j>nev then Af7 f i j (max (f i j) (min (f i k+f k j) 1048576)) else f
theorem A6m {n:Nat} (u:n≤16) (Q:Nat→Nat→Nat→(Nat→Nat→Int)→Prop) (bd:∀ k i j f,Q k i j f→∀ a b,nev≤f a b∧f a b≤1048576) (step:∀ k i j f,k<n→i<n→j<n→Q k i j f→Q k i (j+1) (fwS k i j f))
  (ej:∀ k i f,k<n→i<n→Q k i n f→Q k (i+1) 0 f) (ei:∀ k f,k<n→Q k n 0 f→Q (k+1) 0 0 f) (q:Nat→Nat→Int) (t:Q 0 0 0 q):∃ f,lp (Hm (n:Int)) (No n q,0)=some (.go (No n f,(n:Int)))∧Q n 0 0 f:=by
 have m:∀ k i f,k<n→i<n→Q k i 0 f→∃ c,lp (Gu (n:Int) (k:Int) (i:Int)) (No n f,0)=some (.go (No n c,(n:Int)))∧Q k i n c:=by
  intro k i f d hi s
  have X:=Pl (f:=Gu (n:Int) (k:Int) (i:Int)) (n:=n) (fun j g=>∃ f,g=No n f∧Q k i j f) (fun j g m p=>by
   obtain⟨f,rfl,l⟩:=p;have b1:=bd _ _ _ _ l i k;have b2:=bd _ _ _ _ l k j;unfold nev at b1 b2;unfold Gu;simp only;rw[Ck Aa,A8 Aa (by rw[Pt];omega),A8 Aa (by rw[Mz hi];omega),Fv (fun _=>⟨Aa,by rw[Pt];omega⟩),Fv (fun _=>⟨Aa,by rw[Mz d];omega⟩),Yr hi d,Yr d m,Yr hi m];by_cases o:f i k>nev∧f k j>nev
   ·have r:(Ap (f i k > -1099511627776)&&Ap (f k j > -1099511627776))=true:=by
     unfold nev at o;simp only[Fa,Ij];exact o
    rw[r,br_true,A8 Aa (by rw[Pt];omega),A8 Aa (by rw[Pt];omega),A8 Aa (by rw[Mz hi];omega),A8 Aa (by rw[Pt];omega),A8 Aa (by rw[Mz hi];omega),A8 Aa (by rw[Pt];omega),A8 Aa (by rw[Mz d];omega),Ay Aa Aa,A8 Aa (by rw[Mz hi];omega),Ay Aa Aa,Ako hi m];exact⟨_,rfl,_,rfl,by have:=step k i j f d hi m l;unfold fwS at this;rw[Bj o] at this;exact this⟩
   ·have r:(Ap (f i k > -1099511627776)&&Ap (f k j > -1099511627776))=Az:=by
     unfold nev at o;rw[Z4,Hs,Hs];omega
    rw[r,br_false,Ay Aa Aa]
    exact⟨_,rfl,_,rfl,by have:=step k i j f d hi m l;unfold fwS at this;rw[Bg o] at this;exact this⟩) (fun g=>by unfold Gu;exact Cn Aa) _ ⟨f,rfl,s⟩
  obtain⟨g,e,c,rfl,h⟩:=X;exact⟨c,e,h⟩
 have hi:∀ k f,k<n→Q k 0 0 f→∃ c,lp (Hl (n:Int) (k:Int)) (No n f,0)=some (.go (No n c,(n:Int)))∧Q k n 0 c:=by
  intro k f d s
  have X:=Pl (f:=Hl (n:Int) (k:Int)) (n:=n) (fun i g=>∃ f,g=No n f∧Q k i 0 f) (fun i g hi p=>by
   obtain⟨f,rfl,l⟩:=p;obtain⟨c,e,h⟩:=m k i f d hi l;unfold Hl;simp only;rw[Ck Aa,e,bd_ret,Out.on_go,Ay Aa Aa]
   exact⟨_,rfl,_,rfl,ej k i c d hi h⟩) (fun g=>by unfold Hl;exact Cn Aa) _ ⟨f,rfl,s⟩
  obtain⟨g,e,c,rfl,h⟩:=X;exact⟨c,e,h⟩
 have X:=Pl (f:=Hm (n:Int)) (n:=n) (fun k g=>∃ f,g=No n f∧Q k 0 0 f) (fun k g d p=>by
  obtain⟨f,rfl,l⟩:=p;obtain⟨c,e,h⟩:=hi k f d l;unfold Hm;simp only;rw[Ck Aa,e,bd_ret,Out.on_go,Ay Aa Aa]
  exact⟨_,rfl,_,rfl,ei k c d h⟩) (fun g=>by unfold Hm;exact Cn Aa) _ ⟨q,rfl,t⟩
 obtain⟨g,e,c,rfl,h⟩:=X;exact⟨c,e,h⟩
def PotE (E:List Edg) (pace:Int) (τ:Nat→Int):Prop:=∀ e∈E,τ e.fr.toNat+(e.wt - pace * e.bk)≤τ e.tO.toNat
def nwF (k:Nat) (f:Nat→Nat→Int) (a b:Nat):Int:=if f a k>nev∧f k b>nev then max (f a b) (f a k+f k b) else f a b
structure Cl (n:Nat) (k:Nat) (f:Nat→Nat→Int):Prop where
 dg:∀ a,a<n→f a a≤0
 up:∀ a b,a<n→b<n→f a b≤6 * 2 ^ k
 lo:∀ a b,a<n→b<n→f a b>nev→-(6400 * 2 ^ k)≤f a b
 tri:∀ m,m<k→∀ a b,a<n→b<n→f a m>nev→f m b>nev→f a m+f m b≤f a b
def StF (n k i j:Nat) (f:Nat→Nat→Int):Prop:=∃ c,Cl n k c∧∀ a b,a<n→b<n→f a b=if a<i∨(a=i∧b<j) then nwF k c a b else c a b
structure FwQ (n:Nat) (E:List Edg) (pace:Int) (k i j:Nat) (f:Nat→Nat→Int):Prop where
 bd:∀ a b,nev≤f a b∧f a b≤1048576
 pot:∀ τ,PotE E pace τ→∀ a b,f a b>nev→f a b≤τ b - τ a
 has:∀ e∈E,e.wt - pace * e.bk≤f e.fr.toNat e.tO.toNat
 cl:(∃ a,a<n∧f a a>0)∨StF n k i j f
theorem A4k {k:Nat} (h:k≤15):(1:Int)≤2 ^ k∧(2:Int) ^ k≤32768∧(2:Int) ^ (k+1)=2 * 2 ^ k:=by
 have key:∀ k:Fin 16,(1:Int)≤2 ^ (k:Nat)∧(2:Int) ^ (k:Nat)≤32768:=Ah;have:=key ⟨k,Aa⟩;exact⟨this.1,this.2,by rw[Int.pow_succ];omega⟩
theorem nw_ge {k:Nat}{f:Nat→Nat→Int} (a b:Nat):f a b≤nwF k f a b:=by unfold nwF;split <;> omega
theorem Ayt {n k:Nat}{f:Nat→Nat→Int} (h:Cl n k f) (b:k<n) (a:Nat):nwF k f a k=f a k:=by
 unfold nwF;have:=h.dg k b;split <;> omega
theorem Ays {n k:Nat}{f:Nat→Nat→Int} (h:Cl n k f) (a:k<n) (b:Nat):nwF k f k b=f k b:=by
 unfold nwF;have:=h.dg k a;split <;> omega
theorem Ax0 {k:Nat}{f:Nat→Nat→Int} (a b:Nat):nwF k f a b=f a b∨(nwF k f a b=f a k+f k b∧f a k>nev∧f k b>nev):=by
 unfold nwF;split
 ·rename_i h
  by_cases e:f a k+f k b≤f a b
  ·left;omega
  ·right;exact⟨Aa,h⟩
 ·exact .inl rfl
theorem Amc {k:Nat}{f:Nat→Nat→Int}{a b:Nat} (c:f a k>nev) (d:f k b>nev):f a k+f k b≤nwF k f a b:=by
 unfold nwF;rw[Bj ⟨c,d⟩];omega
theorem Cl.next {n k:Nat}{f:Nat→Nat→Int} (h:Cl n k f) (i:k<n) (C:n≤16) (z:∀ a,a<n→nwF k f a a≤0):Cl n (k+1) (nwF k f):=by
 have E:=A4k (show k≤15 from Aa)
 have t:∀ a b c,a<n→b<n→c<n→f a b>nev→f b c>nev→f a b+f b c>nev∧-(6400 * 2 ^ (k+1))≤f a b+f b c:=fun a b c j g y d l=>by
  have F:=h.lo a b j g d;have G:=h.lo b c g y l;unfold nev;omega
 refine⟨z,fun a b j g=>?_,fun a b j g d=>?_,fun m B a b j g d l=>?_⟩
 ·have u1:=h.up a b j g;have u2:=h.up a k j i;have H:=h.up k b i g
  unfold nwF;split <;> omega
 ·rcases Ax0 (k:=k) (f:=f) a b with e | ⟨e,s,q⟩
  ·rw[e] at d ⊢
   have:=h.lo a b j g d;omega
  ·rw[e];exact(t a k b j i g s q).2
 ·by_cases e:m=k
  ·subst e
   rw[Ayt h i] at d ⊢;rw[Ays h i] at l ⊢;exact Amc d l
  ·have r:m<k:=by omega
   have v:m<n:=Aa;rcases Ax0 (k:=k) (f:=f) a m with o | ⟨o,s,q⟩ <;> rcases Ax0 (k:=k) (f:=f) m b with p | ⟨p,u,w⟩
   ·rw[o] at d ⊢;rw[p] at l ⊢
    exact X0 (h.tri m r a b j g d l) (nw_ge a b)
   ·rw[o] at d ⊢;rw[p]
    have x:=h.tri m r a k j i d u;have A:=(t a m k j v i d u).1;have:=Amc (a:=a) (b:=b) (show f a k>nev from Aa) w;omega
   ·rw[o];rw[p] at l ⊢
    have x:=h.tri m r k b i g q l;have A:=(t k m b i v g q l).1;have:=Amc (a:=a) (b:=b) s (show f k b>nev from Aa);omega
   ·rw[o,p]
    have x:=h.tri m r k k i i q u;have:=Amc (a:=a) (b:=b) s w;have:=h.dg k i;omega
theorem StF.step {n k i j:Nat}{f:Nat→Nat→Int} (v:n≤16) (g:k<n) (hi:i<n) (o:j<n) (h:StF n k i j f):StF n k i (j+1) (fwS k i j f):=by
 obtain⟨d,l,m⟩:=h;have w:=A4k (show k≤15 from Aa)
 have q:f i k=d i k:=by rw[m i k hi g];split;exact Ayt l g i;rfl
 have r:f k j=d k j:=by rw[m k j g o];split;exact Ays l g j;rfl
 have p:f i j=d i j:=by rw[m i j hi o,Bg Aa]
 have u2:=l.up i k hi g;have x:=l.up k j g o;refine⟨d,l,fun a b s t=>?_⟩
 have u:fwS k i j f i j=nwF k d i j:=by
  unfold fwS nwF;rw[q,r,p];by_cases c:d i k>nev∧d k j>nev
  ·rw[Bj c,Bj c]
   unfold Af7;rw[Bj ⟨rfl,rfl⟩];omega
  ·rw[Bg c,Bg c,p]
 by_cases e:a=i∧b=j
 ·obtain⟨rfl,rfl⟩:=e
  rw[u,Bj Aa]
 ·have:fwS k i j f a b=f a b:=by
   unfold fwS;split
   ·unfold Af7;rw[Bg e]
   ·rfl
  rw[this,m a b s t];by_cases c:a<i∨(a=i∧b<j)
  ·rw[Bj c,Bj Aa]
  ·rw[Bg c,Bg Aa]
theorem Ay0 {k i j:Nat}{f:Nat→Nat→Int} (a b:Nat):f a b≤fwS k i j f a b:=by
 unfold fwS;split
 ·unfold Af7
  split
  ·rename_i h;obtain⟨rfl,rfl⟩:=h;omega
  ·exact Fo _
 ·exact Fo _
theorem FwQ.step {n:Nat}{E:List Edg}{pace:Int} (s:n≤16) {k i j:Nat}{f:Nat→Nat→Int} (r:k<n) (hi:i<n) (q:j<n) (h:FwQ n E pace k i j f):FwQ n E pace k i (j+1) (fwS k i j f):=by
 refine⟨fun a b=>?_,fun τ d a b=>?_,fun e p=>X0 (h.has e p) (Ay0 _ _),?_⟩
 ·have b1:=h.bd a b;have b2:=h.bd i j
  unfold fwS;split
  ·unfold Af7
   split
   ·unfold nev at *;omega
   ·exact b1
  ·exact b1
 ·have l:=h.pot τ d a b
  unfold fwS;split
  ·rename_i m
   have u:=h.pot τ d i k m.1;have v:=h.pot τ d k j m.2;unfold Af7;split
   ·rename_i e
    obtain⟨rfl,rfl⟩:=e;intro t;by_cases g:f a b>nev
    ·have:=l g;omega
    ·have:=h.bd a b
     omega
   ·exact l
  ·exact l
 ·rcases h.cl with ⟨a,o,c⟩ | c
  ·exact .inl ⟨a,o,Int.lt_of_lt_of_le c (Ay0 a a)⟩
  ·exact .inr (c.step s r hi q)
theorem FwQ.ej {n:Nat}{E:List Edg}{pace:Int}{k i:Nat}{f:Nat→Nat→Int} (h:FwQ n E pace k i n f):FwQ n E pace k (i+1) 0 f :=
 { h with cl:=h.cl.imp id fun ⟨d,j,l⟩=>⟨d,j,fun a b e g=>by
   rw[l a b e g];by_cases c:a<i∨(a=i∧b<n)
   ·rw[Bj c,Bj Aa]
   ·rw[Bg c,Bg Aa]⟩ }
theorem FwQ.ei {n:Nat}{E:List Edg}{pace:Int} (p:n≤16) {k:Nat}{f:Nat→Nat→Int} (o:k<n) (h:FwQ n E pace k n 0 f):FwQ n E pace (k+1) 0 0 f:=by
 refine { h with cl:=?_ };rcases h.cl with j | ⟨e,l,m⟩
 ·exact .inl j
 ·by_cases g:∃ a,a<n∧f a a>0
  ·exact .inl g
  ·have i:∀ a b,a<n→b<n→f a b=nwF k e a b:=fun a b c d=>by rw[m a b c d,Bj (.inl c)]
   exact .inr ⟨nwF k e,l.next o p fun a c=>by rw[←i a a c c];exact Int.not_lt.1 fun h=>g ⟨a,c,h⟩,fun a b c d=>by rw[i a b c d,Bg Aa]⟩
def mxN (g:Nat→Int):Nat→Int
 | 0=>0
 | n+1=>max (mxN g n) (g n)
theorem Ayw (g:Nat→Int):∀ n a,a<n→g a≤mxN g n
 | n+1,a,h=>by
  show g a≤max (mxN g n) (g n);by_cases e:a=n
  ·subst e;omega
  ·have:=Ayw g n a Aa;omega
theorem Ayv (g:Nat→Int):∀ n,0≤mxN g n
 | 0=>Fo _
 | n+1=>by have:=Ayv g n;show 0≤max (mxN g n) (g n);omega
theorem Ayu (g:Nat→Int):∀ n,mxN g n=0∨∃ a,a<n∧mxN g n=g a∧0<g a
 | 0=>.inl rfl
 | n+1=>by
  show max (mxN g n) (g n)=0∨∃ a,a<n+1∧max (mxN g n) (g n)=g a∧0<g a;have b:=Ayv g n;by_cases e:g n≤mxN g n
  ·rw[show max (mxN g n) (g n)=mxN g n from Aa]
   rcases Ayu g n with h | ⟨a,c,h⟩
   ·exact .inl h
   ·exact .inr ⟨a,Aa,h⟩
  ·exact .inr ⟨n,Aa,Aa,Aa⟩
def Yl (E:List Edg) (pace:Int):Prop:=∃ τ,PotE E pace τ
theorem A6n {n:Nat}{E:List Edg}{pace:Int} (o:∀ e∈E,EdgeIn n e) (s:1≤pace∧pace≤200) {f:Nat→Nat→Int} (h:FwQ n E pace n 0 0 f) (q:∀ a,a<n→f a a≤0):PotE E pace fun b=>mxN (fun a=>f a b) n:=by
 intro e l;have j:=o e l;have z:=Ajn j s;have v:=h.has e l
 have d:e.fr.toNat<n:=by have:=j.fr;omega
 have i:e.tO.toNat<n:=by have:=j.tO;omega
 generalize e.fr.toNat=a at *;generalize e.tO.toNat=b at *;rcases h.cl with ⟨x,c,k⟩ | ⟨m,p,r⟩
 ·have:=q x c;omega
 ·have g:∀ x y,x<n→y<n→f x y=m x y:=fun x y c u=>by rw[r x y c u,Bg Aa]
  show mxN (fun x=>f x a) n+(e.wt - pace * e.bk)≤mxN (fun x=>f x b) n;have g1:=Ayw (fun x=>f x b) n;rcases Ayu (fun x=>f x a) n with k | ⟨x,c,k,w⟩
  ·have:=g1 a d
   omega
  ·have:=g1 x c
   have t:=p.tri a d x b c i (by rw[←g x a c d];unfold nev;omega) (by rw[←g a b d i];unfold nev;omega);rw[←g x a c d,←g a b d i,←g x b c i] at t;omega
theorem Az9 {n:Nat}{E:List Edg}{pace:Int}{f:Nat→Nat→Int} (h:FwQ n E pace n 0 0 f) (b:Yl E pace) (a:Nat):f a a≤0:=by
 obtain⟨τ,d⟩:=b;by_cases c:f a a>nev
 ·have:=h.pot τ d a a c;omega
 ·unfold nev at c;omega
theorem Az1 {n:Nat} (s:n≤16) {E:List Edg} (l:∀ e∈E,EdgeIn n e) (I:E.length≤60000) {pace:Int} (o:1≤pace∧pace≤200):Mt (n:Int) E pace=some (tb (Yl E pace)):=by
 obtain⟨g,z,q,rfl,d⟩:=Ast l I o
 have K:FwQ n E pace 0 0 0 q:=by
  refine⟨fun a b=>?_,fun τ L a b F=>?_,fun e c=>?_,?_⟩
  ·rcases d.src a b with h | ⟨e,c,_,_,h⟩
   ·rw[h];unfold nev;omega
   ·have:=Ajn (l e c) o;rw[h];unfold nev;omega
  ·rcases d.src a b with h | ⟨e,c,B,C,h⟩
   ·omega
   ·have:=L e c
    rw[B,C] at this;simp only[I9] at this;omega
  ·obtain⟨i,hi,rfl⟩:=Qv c
   exact d.has i hi
  ·by_cases y:∃ a,a<n∧q a a>0
   ·exact .inl y
   ·refine .inr ⟨q,⟨fun a r=>Int.not_lt.1 fun h=>y ⟨a,r,h⟩,fun a b r x=>?_,fun a b r x F=>?_,fun m J=>absurd J (Rn _)⟩,fun a b r x=>by rw[Bg Aa]⟩
    ·rcases d.src a b with h | ⟨e,c,_,_,h⟩
     ·rw[h];unfold nev;simp
     ·have:=Ajn (l e c) o;rw[h];simp;omega
    ·rcases d.src a b with h | ⟨e,c,_,_,h⟩
     ·omega
     ·have:=Ajn (l e c) o;rw[h];simp;omega
 obtain⟨f,A,t⟩:=A6m s (FwQ n E pace) (fun k i j f h=>h.bd) (fun k i j f w hi H h=>h.step s w hi H) (fun k i f _ _ h=>h.ej) (fun k f w h=>h.ei s w) q K;unfold Mt;simp only[I9];rw[Ax Aa,Ax (A11 Aa),Awq s,bd_ret,Out.on_go];simp only;rw[z,bd_ret,Out.on_go];simp only;rw[A,bd_ret,Out.on_go];simp only;have bd:=t.bd
 rcases V3 (f:=Ie (n:Int) (No n f)) (n:=n) (p:=fun i=>f i i≤0) (fun i hi _=>by
   unfold Ie;rw[Ck Aa,A8 Aa (by rw[Pt];omega),A8 Aa (by rw[Mz hi];omega),Yr hi hi]
   exact⟨fun h=>by rw[Cn Aa,Ay Aa Aa],fun h=>by rw[Ck Aa]⟩) (by unfold Ie;exact Cn Aa) with ⟨v,u⟩ | ⟨v,u⟩
 ·rw[u,bd_ret,Out.on_go,Dz (p:=Yl E pace) ⟨_,A6n l o t v⟩]
 ·rw[u,bd_ret,Out.on_ret,C3 fun G:Yl E pace=>v fun i hi=>Az9 t G i]
def P0 (l:Lp) (t:Tgt):Nat→Int
 | 0=>0
 | k+1=>P0 l t k+Fb t (ele l.body (k:Int)).op
def Ph (l:Lp) (t:Tgt):Int:=P0 l t l.body.length
theorem Ym {t:Tgt} (a:Df t=true) (op:Int):1≤Fb t op∧Fb t op≤6:=by
 unfold Fb;rw[Bj a];rw[F0] at a;exact Afs Aa Aa Aa
theorem Vc {l : Lp} {t : Tgt} (a : Df t = true) {i j : Nat} (h : i ≤ j) : P0 l t i + ((j : Int) - i) ≤ P0 l t j := by
  induction j with
  | zero => have : i = 0 := by omega
            subst this; omega
  | succ j b =>
    by_cases e : i = j + 1
    · subst e; omega
    · have := b Aa
      have c := (Ym a (ele l.body (j : Int)).op).1;show _ ≤ P0 l t j + Fb t (ele l.body (j : Int)).op;omega
theorem R5 {l:Lp}{t:Tgt} (a:Df t=true):∀ k:Nat,(k:Int)≤P0 l t k∧P0 l t k≤6 * k
 | 0=>by show _≤(0:Int)∧(0:Int)≤_;omega
 | k+1=>by
  have:=R5 (l:=l) a k;have b:=Ym a (ele l.body (k:Int)).op;show _≤P0 l t k+Fb t (ele l.body (k:Int)).op∧P0 l t k+Fb t (ele l.body (k:Int)).op≤_;omega
theorem Awu {l:Lp}{t:Tgt} (c:Df t=true) {e:Edg} (h:EdgeP l t e):e.wt≤Fb t (ele l.body e.fr).op:=by
 obtain⟨tO,d,a | ⟨fr,a,b⟩⟩:=h
 ·obtain⟨r,f,rfl⟩:=a
  exact Fo _
 ·have:=b.wt
  have g:=(Ym c (ele l.body e.fr).op).1;split at this <;> omega
theorem Aac {l:Lp} (c:LoopOk l) {t:Tgt} (a:Df t=true) {pace:Int} (d:Ph l t≤pace) {e:Edg} (h:EdgeP l t e):P0 l t e.fr.toNat+(e.wt - pace * e.bk)≤P0 l t e.tO.toNat:=by
 have f:=h.in c;have m:=Awu a h;obtain⟨g,a2,a3,a4,a5⟩:=f;have k:=c.2.2.1;have b1:=R5 (l:=l) a e.tO.toNat
 have hs:P0 l t (e.fr.toNat+1)=P0 l t e.fr.toNat+Fb t (ele l.body e.fr).op:=by
  show P0 l t e.fr.toNat+Fb t (ele l.body (e.fr.toNat:Int)).op=_;rw[show ((e.fr.toNat:Nat):Int)=e.fr from Aa]
 by_cases b:e.bk=0
 ·have i:=a5 b
  have:=Vc (l:=l) a (show e.fr.toNat+1≤e.tO.toNat from Aa);rw[b];omega
 ·have:=Vc (l:=l) a (show e.fr.toNat+1≤l.body.length from Aa)
  have j:pace * 1≤pace * e.bk:=Aet Aa (by have:=R5 (l:=l) a l.body.length;unfold Ph at d;omega);unfold Ph at d;omega
theorem Anp {l:Lp} (c:LoopOk l) {t:Tgt} (f:Df t=true) {E:List Edg} (a:∀ e,e∈E↔EdgeP l t e) {pace:Int} (d:Ph l t≤pace):Yl E pace :=
 ⟨P0 l t,fun e b=>Aac c f d ((a e).1 b)⟩
theorem Ahy {ρ:Type}{f:Int→Option (Stp Int ρ)}{p:Nat→Prop}{m lo:Nat} (step:∀ i:Nat,lo≤i→i≤m→(p i→f i=some (.brk i))∧(¬p i→f i=some (.next ((i:Int)+1)))) (c:p m):∀ (d s:Nat),lo≤s→s+d=m→∃ k:Nat,s≤k∧k≤m∧p k∧(∀ j,s≤j→j<k→¬p j)∧lp f s=some (.go (k:Int))
 | 0,s,hs,h=>by
  have:s=m:=Aa;subst this;exact⟨s,Co _,Co _,c,fun j g b=>Aa,Db ((step s hs (Co _)).1 c)⟩
 | d+1,s,hs,h=>by
  by_cases a:p s
  ·exact⟨s,Co _,Aa,a,fun j g b=>Aa,Db ((step s hs Aa).1 a)⟩
  ·obtain⟨k,g,b,l,n,o⟩:=Ahy step c d (s+1) Aa Aa
   refine⟨k,Aa,b,l,fun j r q=>?_,B4 ((step s hs Aa).2 a) o⟩;by_cases e:j=s
   ·subst e;exact a
   ·exact n j Aa q
theorem Avq {a b:Int} (c:0≤a) (d:1≤b):0≤Int.tmod a b∧Int.tmod a b<b:=by
 rw[Ajm c];exact⟨Ro _ Aa,Rq _ Aa⟩
def Lq (l:Lp) (k:Nat) (c:Int):Nat:=(List.range k).countP fun j:Nat=>Ap (Kn (ele l.body (j:Int)).op=c)
theorem Qf (l:Lp) (k:Nat) (c:Int):Lq l (k+1) c=Lq l k c+if Kn (ele l.body (k:Int)).op=c then 1 else 0:=by
 unfold Lq;rw[Vx,Alv,Ard];by_cases h:Kn (ele l.body (k:Int)).op=c <;> simp[h]
theorem Zi (l:Lp) (c:Int):∀ k,Lq l k c≤k
 | 0=>Co _
 | k+1=>by rw[Qf];have:=Zi l c k;split <;> omega
def cdV (n u:Int):Int:=Int.tdiv (n+u - 1) u
theorem A6r {n u p:Int} (a:0≤n) (b:1≤u) (c:u≤4):cdV n u≤p↔n≤p * u:=by
 unfold cdV;rw[Agf Aa];obtain h | h | h | h:u=1∨u=2∨u=3∨u=4:=Aa
 all_goals subst h;omega
theorem Azb {n u:Int} (a:0≤n) (b:n≤16) (c:1≤u) (d:u≤4):0≤cdV n u∧cdV n u≤16:=by
 unfold cdV;rw[Agf Aa];obtain h | h | h | h:u=1∨u=2∨u=3∨u=4:=Aa
 all_goals subst h;omega
def uB (l:Lp) (t:Tgt):Nat→Int
 | 0=>1
 | c+1=>max (uB l t c) (cdV (Lq l l.body.length c) (F6 t c))
theorem Axr {l:Lp}{t:Tgt} (d:l.body.length≤16) (b:Df t=true):∀ c,1≤uB l t c∧uB l t c≤16
 | 0=>by show 1≤(1:Int)∧(1:Int)≤16;omega
 | c+1=>by
  have:=Axr (l:=l) d b c;have e:=Zi l c l.body.length;have a:=Ut b c;have f:=Azb (n:=(Lq l l.body.length c:Int)) Aa Aa a.1 a.2;show 1≤max (uB l t c) _∧max (uB l t c) _≤16;omega
theorem Awg {l:Lp} (c:l.body.length≤16):lp (I2 l) (([0,0,0]:List Int),0)=some (.go ([(Lq l l.body.length 0:Int),Lq l l.body.length 1,Lq l l.body.length 2],(l.body.length:Int))):=by
 refine G8 (f:=I2 l) (fun k=>([(Lq l k 0:Int),Lq l k 1,Lq l k 2],(k:Int))) l.body.length (fun k b=>?_) (by unfold I2;exact Cn (by unfold ln;omega));have a:=Kw (ele l.body (k:Int)).op;have c0:=Zi l 0 k;have c1:=Zi l 1 k;have c2:=Zi l 2 k;unfold I2;simp only
 rw[Ck (by unfold ln;omega),A8 Aa (by unfold ln;omega),Pb,bd_ret,A8 Aa Aa,A8 Aa (by unfold ln;simp;omega),Ay (by
  obtain h | h | h:Kn (ele l.body (k:Int)).op=0∨Kn (ele l.body (k:Int)).op=1∨Kn (ele l.body (k:Int)).op=2:=Aa
  all_goals rw[h];simp[ele];omega) (by
  obtain h | h | h:Kn (ele l.body (k:Int)).op=0∨Kn (ele l.body (k:Int)).op=1∨Kn (ele l.body (k:Int)).op=2:=Aa
  all_goals rw[h];simp[ele];omega),A8 Aa Aa,A8 Aa (by unfold ln;simp;omega),Ay Aa Aa]
 rw[Qf,Qf,Qf];obtain h | h | h:Kn (ele l.body (k:Int)).op=0∨Kn (ele l.body (k:Int)).op=1∨Kn (ele l.body (k:Int)).op=2:=Aa
 all_goals rw[h];simp[ele,upd]
theorem Ar8 {l:Lp} (m:l.body.length≤16) {t:Tgt} (e:Df t=true):lp (I1 t [(Lq l l.body.length 0:Int),Lq l l.body.length 1,Lq l l.body.length 2]) (1,0)=some (.go (uB l t 3,3)):=by
 refine G8 (f:=I1 t [(Lq l l.body.length 0:Int),Lq l l.body.length 1,Lq l l.body.length 2]) (fun c=>(uB l t c,(c:Int))) 3 (fun c k=>?_) (by unfold I1;exact Cn Aa);have i:=Zi l c l.body.length;have a:=Ut e c;have j:=Azb (n:=(Lq l l.body.length c:Int)) Aa Aa a.1 a.2
 have d:ele [(Lq l l.body.length 0:Int),Lq l l.body.length 1,Lq l l.body.length 2] (c:Int)=(Lq l l.body.length c:Int):=by
  obtain h | h | h:c=0∨c=1∨c=2:=Aa
  all_goals subst h;rfl
 have g:Cv t.u0 t.u1 t.u2 (c:Int)=F6 t c:=rfl;have b:Int.tdiv ((Lq l l.body.length c:Int)+F6 t c - 1) (F6 t c)=cdV (Lq l l.body.length c) (F6 t c):=rfl;unfold I1;simp only;rw[Ck Aa,d,g,b,A8 Aa Aa,A8 Aa Aa,Ay Aa Aa,Ay Aa Aa,A8 Aa Aa,Ax Aa,Ay Aa Aa,Ay Aa Aa];rfl
theorem Au5 {l:Lp} (a:LoopOk l) {t:Tgt} (d:Df t=true) {E:List Edg} (b:Fi l t=some (E,0)) (g:∀ e,e∈E↔EdgeP l t e) (s:E.length≤60000) :
  ∃ L:Nat,1≤L∧(L:Int)≤Ph l t∧Yl E L∧(∀ j:Nat,1≤j→j<L→¬Yl E j)∧Kb l t=some (uB l t 3,(L:Int),0):=by
 have c:=a.2.2.1;have A:=a.2.1;have x:=R5 (l:=l) d l.body.length;obtain⟨m,k⟩:=Ik (show 0≤Ph l t by unfold Ph;omega)
 have y:1≤m:=by unfold Ph at k;omega
 have z:m≤96:=by unfold Ph at k;omega
 have u:∀ e∈E,EdgeIn l.body.length e:=fun e b=>((g e).1 b).in a
 obtain⟨L,n,w,o,q,r⟩:=Ahy (f:=Mu l (E,0)) (ρ:=Empty) (m:=m) (lo:=1) (p:=fun i=>Yl E (i:Int)) (fun i v hi=>by
  unfold Mu ln;rw[Az1 c u s Aa,bd_ret]
  exact⟨fun h=>by rw[Dz h];rfl,fun h=>by rw[C3 h,Kc,br_true,Ay Aa Aa]⟩) (Anp a d g Aa) (m - 1) 1 Aa Aa
 refine⟨L,n,Aa,o,q,?_⟩;unfold Kb;rw[b,bd_ret,show (((E,(0:Int)):List Edg×Int).2 != 0)=Az from rfl,br_false,Awg c,bd_ret,Out.on_go];simp only;rw[Ax (by rfl),Ar8 c d,bd_ret,Out.on_go];simp only;rw[show (1:Int)=((1:Nat):Int) from rfl,r,bd_ret,Out.on_go]
def Vn (g:Nat→Nat):Nat→Nat
 | 0=>0
 | n+1=>Vn g n+g n
theorem Aoy (g h:Nat→Nat):∀ n,Vn (fun s=>g s+h s) n=Vn g n+Vn h n
 | 0=>rfl
 | n+1=>by show Vn _ n+(g n+h n)=(Vn g n+g n)+(Vn h n+h n);rw[Aoy g h n];omega
theorem Zm:∀ n,Vn (fun _=>0) n=0
 | 0=>rfl
 | n+1=>by show Vn _ n+0=0;rw[Zm n]
theorem Wk {g h:Nat→Nat}:∀ {n},(∀ s,s<n→g s=h s)→Vn g n=Vn h n
 | 0,_=>rfl
 | n+1,e=>by show Vn g n+g n=Vn h n+h n;rw[Wk fun s hs=>e s Aa,e n Aa]
theorem Aox {k:Nat}:∀ {n},k<n→Vn (fun s=>if s=k then 1 else 0) n=1
 | n+1,h=>by
  show Vn _ n+(if n=k then 1 else 0)=1;by_cases e:n=k
  ·subst e
   rw[Bj rfl,Wk (h:=fun _=>0) fun s hs=>Bg Aa,Zm]
  ·rw[Bg e,Aox Aa]
theorem Aj5 {l:Lp}{p:Pln}{P:Nat} (i:p.pace=P) (g:1≤P) (c:Int):∀ k:Nat,(∀ j:Nat,j<k→0≤ele p.times (j:Int))→Vn (fun s=>N0 l p k ((s:Int),c)) P=Lq l k c
 | 0,_=>by
  show Vn (fun s=>0) P=0;exact Zm P
 | k+1,h=>by
  have r:=Aj5 (l:=l) i g c k fun j t=>h j Aa;have f:=h k Aa;rw[Qf,←r,show (fun s:Nat=>N0 l p (k+1) ((s:Int),c))=fun s:Nat=>N0 l p k ((s:Int),c)+(if Hv l p k=((s:Int),c) then 1 else 0) from funext fun s=>Lf l p k _,Aoy];congr 1;unfold Hv;by_cases e:Kn (ele l.body (k:Int)).op=c
  ·rw[Bj e]
   have m:=Avq (a:=ele p.times (k:Int)) f (show 1≤p.pace from Aa);obtain⟨d,o⟩:=Ik m.1;refine Eq.trans (Wk fun s hs=>?_) (Aox (k:=d) (n:=P) Aa);rw[o,e];by_cases q:s=d
   ·subst q;rw[Bj rfl,Bj rfl]
   ·rw[Bg q,Bg]
    intro b;simp only[T8] at b;exact q Aa
  ·rw[Bg e,Wk (h:=fun _=>0),Zm]
   intro s hs;exact Bg fun b=>e (Prod.mk.inj b).2
noncomputable def Kj (pace:Int) (b:List Edg) (c:List Int) (e:Int):(Int×Int)→Option (Stp (Int×Int) (Empty)):=fun (d,a) =>
 br (Ap (a<(ln b))) (
 ck (IX a (ln b)) <|
 br (((ele b a).tO==e)&&(Ap ((ele b a).fr<e))) (
 ck (IX ((ele b a).fr) (ln c)) <|
 ck (IR ((ele c ((ele b a).fr))+(ele b a).wt)) <|
 ck (IR (pace * (ele b a).bk)) <|
 ck (IR (((ele c ((ele b a).fr))+(ele b a).wt) - (pace * (ele b a).bk))) <|
 ck (IR (a+1)) <|
 some (.next ((max d (((ele c ((ele b a).fr))+(ele b a).wt) - (pace * (ele b a).bk))),(a+1)))) (
 ck (IR (a+1)) <|
 some (.next (d,(a+1))))) (
 some (.brk (d,a)))
noncomputable def Mo (t:Tgt) (pace:Int) (c:List ((Int×Int)×Int)) (b:Int):Int→Option (Stp (Int) (Empty)):=fun a =>
 ck (pace≠0) <|
 ck (IX b 3) <|
 br (Ap ((Fz c ((Int.tmod a pace),b) 0)≥(Cv t.u0 t.u1 t.u2 b))) (
 ck (IR (a+1)) <|
 some (.next (a+1))) (
 some (.brk a))
noncomputable def It (l:Lp) (t:Tgt) (pace:Int) (f:List Edg):((List Int)×(List ((Int×Int)×Int))×Int)→Option (Stp ((List Int)×(List ((Int×Int)×Int))×Int) (Empty)):=fun (d,b,a) =>
 br (Ap (a<(ln l.body))) (
 ck (IX a (ln l.body)) <|
 bd (lp (Kj pace f d a) (0,0)) fun g=>g.on (fun (i,j) =>
 bd (Fg ((ele l.body a).op)) fun e =>
 bd (lp (Mo t pace b e) i) fun h=>h.on (fun c =>
 ck (pace≠0) <|
 ck (IR ((Fz b ((Int.tmod c pace),e) 0)+1)) <|
 ck (AL (d++[c]).length 8) <|
 ck (IR (a+1)) <|
 some (.next ((d++[c]),(Oi b ((Int.tmod c pace),e) ((Fz b ((Int.tmod c pace),e) 0)+1)),(a+1)))) (fun r=>r.elim)) (fun r=>r.elim)) (
 some (.brk (d,b,a)))
noncomputable def H6 (l:Lp) (t:Tgt) (pace:Int) (a:List Edg):Option (Pln) :=
 bd (lp (It l t pace a) ([],([]:List ((Int×Int)×Int)),0)) fun b=>b.on (fun (c,d,e) =>
 some (Pln.mk pace c)) (fun r=>r.elim)
noncomputable def Gc (l:Lp) (t:Tgt):((List Int)×Int×Int)→Option (Stp ((List Int)×Int×Int) (Empty)):=fun (c,b,a) =>
 br (Ap (a<(ln l.body))) (
 ck (IX a (ln l.body)) <|
 ck (AL (c++[b]).length 8) <|
 bd (G1 t ((ele l.body a).op)) fun d =>
 ck (IR (b+d)) <|
 ck (IR (a+1)) <|
 some (.next ((c++[b]),(b+d),(a+1)))) (
 some (.brk (c,b,a)))
noncomputable def Ic (l:Lp) (t:Tgt) (pace:Int):Option (Pln×Int) :=
 bd (lp (Gc l t) ([],0,0)) fun a=>a.on (fun (c,b,d) =>
 some ((Pln.mk pace c),b)) (fun r=>r.elim)
noncomputable def Lg (l:Lp) (t:Tgt) (b:Int) (d:List Edg×Int) (e:Pln×Int):Int→Option (Stp (Int) (Pln×Int)):=fun a =>
 ck (IR (b+1)) <|
 br (Ap (a<(max (b+1) e.2))) (
 bd (H6 l t a d.1) fun c =>
 bd (Ky l t c d.1) fun f =>
 br f (
 some (.ret (c,0))) (
 ck (IR (a+1)) <|
 some (.next (a+1)))) (
 some (.brk a))
noncomputable def Pv (l:Lp) (t:Tgt) (a:Int):Option (Pln×Int) :=
 bd (Fi l t) fun b =>
 br (b.2 != 0) (
 some ((Pln.mk 0 []),b.2)) (
 br ((Ap (a<1)) || (Ap (a>200))) (
 some ((Pln.mk 0 []),3)) (
 bd (Kb l t) fun c =>
 bd (Ic l t 1) fun d =>
 bd (lp (Lg l t a b d) (max (max a c.1) c.2.1)) fun e=>e.on (fun g =>
 bd (Ic l t (max a d.2)) fun f =>
 some (f.1,0)) (fun r=>some r)))
def Rv (l:Lp) (t:Tgt) (pace:Int):Pln:=⟨pace,(List.range l.body.length).map (P0 l t)⟩
theorem Aih {l:Lp} (b:LoopOk l) {t:Tgt} (a:Df t=true) (pace:Int):Ic l t pace=some (Rv l t pace,Ph l t):=by
 have e:=b.2.2.1
 have:=G8 (f:=Gc l t) (ρ:=Empty) (fun k=>((List.range k).map (P0 l t),P0 l t k,(k:Int))) l.body.length (fun k d=>by
  have c:=R5 (l:=l) a k;have h:=Ym a (ele l.body (k:Int)).op;unfold Gc;simp only;rw[Ck (by unfold ln;omega),A8 Aa (by unfold ln;omega),Ax (AL8 (by simp;omega)),N9,bd_ret,Ay Aa Aa,Ay Aa Aa,rm_succ (g:=P0 l t)]
  rfl) (by unfold Gc;exact Cn (by unfold ln;omega))
 unfold Ic;rw[show lp (Gc l t) ([],0,0)=_ from this,bd_ret,Out.on_go];rfl
theorem Apy {l:Lp}{p:Pln}{n:Nat} (h:∀ i j,i<n→j<n→i≠j→Hv l p i≠Hv l p j) (κ:Int×Int):∀ k,k≤n→N0 l p k κ≤1
 | 0,_=>Aaq _
 | k+1,hk=>by
  rw[Lf];have d:=Apy h κ k Aa;by_cases e:Hv l p k=κ
  ·rw[Bj e]
   have:N0 l p k κ=0:=by
    unfold N0;rw[Arb];intro j b;have c:=Vw.1 b;simp only[Ij];exact fun a=>h j k Aa Aa Aa (a.trans e.symm)
   omega
  ·rw[Bg e];omega
theorem Af0 {l:Lp} (a:LoopOk l) {t:Tgt} (b:Df t=true):1≤Ph l t∧Ph l t≤96:=by
 have:=R5 (l:=l) b l.body.length;have c:=a.2.1;have d:=a.2.2.1;unfold Ph;omega
theorem Y7 {l:Lp} (f:LoopOk l) {t:Tgt} (b:Df t=true) {pace:Int} (u:Ph l t≤pace) (w:pace≤200):LegalP l t (Rv l t pace):=by
 have x:=Af0 f b
 have hat:∀ i:Nat,i<l.body.length→ele (Rv l t pace).times (i:Int)=P0 l t i∧0≤P0 l t i∧P0 l t i<pace:=fun i hi=>by
  have a:=R5 (l:=l) b i;have c:=Vc (l:=l) b (show i≤l.body.length from Aa);unfold Ph at u;exact⟨Il hi,Aa,Aa⟩
 have s:∀ i j:Nat,i<l.body.length→j<l.body.length→i<j→Hv l (Rv l t pace) i≠Hv l (Rv l t pace) j:=fun i j hi g q d=>by
  have a:=hat i hi;have c:=hat j g;unfold Hv at d;have v:=(Prod.mk.inj d).1;rw[a.1,c.1,show (Rv l t pace).pace=pace from rfl,Int.tmod_eq_of_lt a.2.1 a.2.2,Int.tmod_eq_of_lt c.2.1 c.2.2] at v;have:=Vc (l:=l) b (show i≤j from Aa);omega
 refine⟨f,b,⟨by show 1≤pace;omega,w⟩,by unfold Rv;simp,fun i hi=>?_,fun i hi=>?_,fun e o=>?_⟩
 ·have a:=hat i hi
  have y:=R5 (l:=l) b i;have A:=f.2.2.1;unfold Xn;rw[a.1];omega
 ·have a:=Apy (l:=l) (p:=Rv l t pace) (n:=l.body.length) (fun i j hi g q d=>by
   rcases Nat.lt_or_gt_of_ne q with h | h
   ·exact s i j hi g h d
   ·exact s j i g hi h d.symm) (Hv l (Rv l t pace) i) l.body.length (Co _)
  have c:=Ut b (Hv l (Rv l t pace) i).2;omega
 ·have r:=o.in f
  have z:=r.fr;have B:=r.tO;have a:=Aac f b u o;unfold Ae1;have k:=(hat e.fr.toNat Aa).1;have m:=(hat e.tO.toNat Aa).1;rw[show ((e.fr.toNat:Nat):Int)=e.fr from Aa] at k;rw[show ((e.tO.toNat:Nat):Int)=e.tO from Aa] at m;rw[k,m,show (Rv l t pace).pace=pace from rfl,Xz];omega
theorem Apt {α:Type} [Inhabited α] {v:List α}{x:α}{j:Nat} (h:j<v.length):ele (v++[x]) (j:Int)=ele v (j:Int):=by
 rw[Dj,Dj,Ec,Ec,Abx h]
theorem Apv {α:Type} [Inhabited α] {v:List α}{x:α}:ele (v++[x]) (v.length:Int)=x:=by
 rw[Dj,Ec];simp
theorem Awm {l:Lp}{pace:Int}{v:List Int}{x:Int}{j:Nat} (h:j<v.length):Hv l ⟨pace,v++[x]⟩ j=Hv l ⟨pace,v⟩ j:=by
 unfold Hv;rw[show (Pln.mk pace (v++[x])).times=v++[x] from rfl,Apt h]
theorem Akx {l:Lp}{pace:Int}{v:List Int}{x:Int} (κ:Int×Int):∀ k:Nat,k≤v.length→N0 l ⟨pace,v++[x]⟩ k κ=N0 l ⟨pace,v⟩ k κ
 | 0,_=>rfl
 | k+1,h=>by rw[Lf,Lf,Akx κ k Aa,Awm Aa]
theorem Avy {l : Lp} {t : Tgt} (y : LoopOk l) (G : Df t = true) {pace : Nat} (B : 1 ≤ pace) (U : uB l t 3 ≤ pace) {v : List Int} {k : Nat} (V : v.length = k) (O : k < l.body.length) (C : ∀ j : Nat, j < k → 0 ≤ ele v (j : Int)) (s : Nat) :
    ∃ m : Nat, s ≤ m ∧ m < s + pace ∧ ¬ ((N0 l ⟨pace, v⟩ k (Int.tmod (m : Int) pace, Kn (ele l.body (k : Int)).op) : Int) ≥ F6 t (Kn (ele l.body (k : Int)).op)) := by
  have M := Kw (ele l.body (k : Int)).op;generalize hcc : Kn (ele l.body (k : Int)).op = c at *;have w := Ut G c;have R := y.2.2.1
  have i : cdV (Lq l l.body.length c) (F6 t c) ≤ pace := by
    have a0 : uB l t 3 = max (max (max 1 (cdV (Lq l l.body.length (0 : Nat)) (F6 t (0 : Nat)))) (cdV (Lq l l.body.length (1 : Nat)) (F6 t (1 : Nat)))) (cdV (Lq l l.body.length (2 : Nat)) (F6 t (2 : Nat))) := rfl;obtain h | h | h : c = ((0 : Nat) : Int) ∨ c = ((1 : Nat) : Int) ∨ c = ((2 : Nat) : Int) := Aa
    all_goals rw[h]; omega
  rw[A6r Aa w.1 w.2] at i
  have I : Lq l k c + 1 ≤ Lq l l.body.length c := by
    have H : Lq l (k + 1) c = Lq l k c + 1 := by rw[Qf, Bj hcc]
    have mono : ∀ a b, a ≤ b → Lq l a c ≤ Lq l b c := fun a b L => by
      induction b with
      | zero => have : a = 0 := by omega
                subst this; exact Co _
      | succ b o =>
        by_cases e : a = b + 1
        · subst e; exact Co _
        · rw[Qf]; have := o Aa; omega
    have := mono (k + 1) l.body.length Aa;omega
  obtain⟨u, r⟩ := Ik (show 0 ≤ F6 t c from Aa);have F := Aj5 (l := l) (p := ⟨pace, v⟩) (P := pace) rfl B c k C;by_cases q : ∀ s, s < pace → u ≤ N0 l ⟨pace, v⟩ k ((s : Int), c)
  · exfalso
    have x : ∀ (g : Nat → Nat) n, (∀ s, s < n → u ≤ g s) → n * u ≤ Vn g n := fun g n => by
      induction n with
      | zero => intro _; show 0 * u ≤ 0; omega
      | succ n o =>
        intro h;have := o fun s hs => h s Aa;have J := h n Aa;show (n + 1) * u ≤ Vn g n + g n;rw[Xy]; omega
    have := x _ pace q;rw[F] at this;rw[r] at i
    have K : (Lq l l.body.length c) ≤ pace * u := by exact_mod_cast i
    omega
  · obtain⟨f, E⟩ := Classical.not_forall.1 q
    obtain⟨S, T⟩ := Classical.not_imp.1 E;have z := Ro ((f : Int) - s) (show (pace : Int) ≠ 0 from Aa);have Q := Rq ((f : Int) - s) (show (0 : Int) < pace from Aa)
    have A : ((s : Int) + ((f : Int) - s) % pace) % pace = f := by
      rw[Int.add_emod_emod, show (s : Int) + ((f : Int) - s) = f from Aa, Alq Aa Aa]
    obtain⟨d, N⟩ := Ik z;refine⟨s + d, Aa, Aa, ?_⟩;rw[Ajm Aa, show (((s + d : Nat) : Nat) : Int) = (s : Int) + ((f : Int) - s) % pace from Aa, A, r];omega
theorem A3l {l:Lp}{t:Tgt} (u:LoopOk l) (I:Df t=true) {E:List Edg} (B:∀ e∈E,EdgeIn l.body.length e) (O:E.length≤60000) {pace:Nat} (G:1≤pace) (S:pace≤200) (J:uB l t 3≤pace) :
  ∃ v,H6 l t pace E=some ⟨pace,v⟩∧v.length=l.body.length:=by
 have R:=u.2.2.1
 have X:=Am6 (ρ:=Empty) (f:=It l t pace E) (n:=l.body.length) (fun (g:List Int×List ((Int×Int)×Int)) i=>(g.1,g.2,i))
  (fun k g=>g.1.length=k∧(∀ j:Nat,j<k→0≤ele g.1 (j:Int)∧ele g.1 (j:Int)≤206 * k)∧∀ κ,Fz g.2 κ 0=(N0 l ⟨pace,g.1⟩ k κ:Int)) (fun k g C o=>?_) (fun g=>by
   unfold It;exact Cn (by unfold ln;omega)) ([],[]) ⟨rfl,fun j d=>absurd d (Rn _),fun κ=>rfl⟩
 ·obtain⟨g,e,a,_⟩:=X
  unfold H6;rw[show lp (It l t pace E) ([],[],0)=_ from e,bd_ret,Out.on_go];exact⟨_,rfl,a⟩
 ·obtain⟨v,m⟩:=g
  obtain⟨a,b,c⟩:=o;simp only at a b c;have r:=Kw (ele l.body (k:Int)).op
  have Y:=Pl (f:=Kj pace E v k) (ρ:=Empty) (n:=E.length) (fun _ g=>0≤g∧g≤206 * (k:Int)+6) (fun i g hi o=>by
   have q:=B _ (D9 hi);have T:=Ajn q (pace:=pace) Aa;have U:=q.wt;unfold Kj;simp only;rw[Ck (by unfold ln;omega),A8 Aa (by unfold ln;omega)];by_cases H:(ele E (i:Int)).tO=k∧(ele E (i:Int)).fr<k
   ·have Q:=q.fr
    have K:=b (ele E (i:Int)).fr.toNat Aa;rw[show (((ele E (i:Int)).fr.toNat:Nat):Int)=(ele E (i:Int)).fr from Aa] at K;rw[show ((ele E (i:Int)).tO==(k:Int)&&Ap ((ele E (i:Int)).fr<(k:Int)))=true from by simp[H],br_true,A8 Aa (by unfold ln;omega),Ay Aa Aa,Ay Aa Aa,Ay Aa Aa,Ay Aa Aa];exact⟨_,rfl,Aa⟩
   ·rw[show ((ele E (i:Int)).tO==(k:Int)&&Ap ((ele E (i:Int)).fr<(k:Int)))=Az from by
     rw[Z4,Xr,Hs];omega,br_false,Ay Aa Aa]
    exact⟨_,rfl,o⟩) (fun g=>by unfold Kj;exact Cn (by unfold ln;omega)) 0 Aa
  obtain⟨tm,y,z⟩:=Y;obtain⟨s,rfl⟩:=Ik z.1;obtain⟨w,L,M,f3⟩:=Avy u I G J a C (fun j d=>(b j d).1) s
  obtain⟨x,g1,N,g3,g4,A⟩:=Ahy (f:=Mo t pace m (Kn (ele l.body (k:Int)).op)) (ρ:=Empty) (m:=w) (lo:=0) (p:=fun i=>¬((N0 l ⟨pace,v⟩ k (Int.tmod (i:Int) pace,Kn (ele l.body (k:Int)).op):Int)≥F6 t (Kn (ele l.body (k:Int)).op))) (fun i _ hi=>by
   unfold Mo;rw[Ax Aa,A8 r.1 r.2,c]
   exact⟨fun h=>Cn h,fun h=>by rw[show Cv t.u0 t.u1 t.u2 (Kn (ele l.body (k:Int)).op)=F6 t (Kn (ele l.body (k:Int)).op) from rfl,Ck (P5.1 h),Ay Aa Aa]⟩) f3 (w - s) s Aa Aa
  have P:=Ang l ⟨pace,v⟩ (Int.tmod (x:Int) pace,Kn (ele l.body (k:Int)).op) k
  have F:Hv l ⟨pace,v++[(x:Int)]⟩ k=(Int.tmod (x:Int) pace,Kn (ele l.body (k:Int)).op):=by
   unfold Hv;rw[show (Pln.mk (pace:Int) (v++[(x:Int)])).times=v++[(x:Int)] from rfl,←a,Apv]
  unfold It;simp only;rw[Ck (by unfold ln;omega),A8 Aa (by unfold ln;omega),y,bd_ret,Out.on_go];simp only;rw[Pb,bd_ret,A,bd_ret,Out.on_go,Ax Aa,c,Ay Aa Aa,Ax (AL8 (by simp;omega)),Ay Aa Aa];refine⟨(v++[(x:Int)],_),rfl,by simp[a],fun j d=>?_,fun κ=>?_⟩
  ·by_cases e:j=k
   ·subst e
    show 0≤ele (v++[(x:Int)]) (j:Int)∧_;rw[show ele (v++[(x:Int)]) (j:Int)=x from by rw[←a];exact Apv];omega
   ·have:=b j Aa
    show 0≤ele (v++[(x:Int)]) (j:Int)∧_;rw[Apt Aa];omega
  ·show Fz (Oi _ _ _) κ 0=(N0 l ⟨pace,v++[(x:Int)]⟩ (k+1) κ:Int)
   rw[O2,Lf,F,Akx κ k Aa];by_cases e:(Int.tmod (x:Int) pace,Kn (ele l.body (k:Int)).op)=κ
   ·rw[Bj e,Bj e,e];rfl
   ·rw[Bg e,Bg e,c];rfl
theorem A6x {l:Lp} (x:l.Fine) (b:LoopOk l) {t:Tgt} (c:Df t=true) {a:Int} (J:1≤a) (K:a≤200):∃ p,Pv l t a=some (p,0)∧LegalP l t p∧a≤p.pace∧p.pace≤max a (Ph l t):=by
 obtain⟨E,k,H,I,d,g⟩:=S6 b x c;obtain⟨L,b1,b2,F,G,r⟩:=Au5 b c k d g;have z:=b.2.2.1;have P:=Axr (l:=l) z c 3;have O:=Af0 b c;have y:∀ e∈E,EdgeIn l.body.length e:=fun e w=>((d e).1 w).in b;unfold Pv;rw[k,bd_ret,show (((E,(0:Int)):List Edg×Int).2 != 0)=Az from rfl,br_false,show (Ap (a<1) || Ap (a>200))=Az from by simp;omega,br_false,r,bd_ret,Aih b c,bd_ret];obtain⟨M,s⟩:=Ik (show 0≤max (max a (uB l t 3)) (L:Int) from Aa);obtain⟨B,N⟩:=Ik (show 0≤max (a+1) (Ph l t) from Aa)
 have m:∀ i:Nat,M≤i→(i:Int)<max (a+1) (Ph l t)→∃ v:List Int,H6 l t (i:Int) E=some ⟨i,v⟩∧v.length=l.body.length∧Ky l t ⟨i,v⟩ E=some (tb (Avi l t ⟨i,v⟩)):=fun i hi u=>by
  obtain⟨v,c1,c2⟩:=A3l b c y g (pace:=i) Aa Aa Aa;exact⟨v,c1,c2,Ay1 b c ⟨by show (1:Int)≤i;omega,by show (i:Int)≤200;omega⟩ c2 d g⟩
 simp only;rw[s]
 rcases Tl (f:=Lg l t a (E,0) (Rv l t 1,Ph l t)) (n:=max M B) (p:=fun i=>¬Avi l t ((H6 l t (i:Int) E).getD default)) (fun i=>((H6 l t (i:Int) E).getD default,(0:Int))) (max M B - M) M Aa (fun i hi u=>by
   obtain⟨v,c1,c2,c3⟩:=m i hi Aa;unfold Lg;rw[Ay Aa Aa,Ck (by simp only;omega)];simp only;rw[c1,bd_ret,c3,bd_ret]
   exact⟨fun h=>by rw[C3 (p:=Avi l t ⟨i,v⟩) h,br_false,Ay Aa Aa],fun h=>by rw[Dz (p:=Avi l t ⟨i,v⟩) (P5.1 h),br_true];rfl⟩) (by
   unfold Lg
   rw[Ay Aa Aa,Cn (by simp only;omega)]) with ⟨o,q⟩ | ⟨i,o,q,A,_,C⟩
 ·rw[q,bd_ret,Out.on_go]
  rw[Aih b c,bd_ret];exact⟨_,rfl,Y7 b c Aa Aa,by show a≤max a _;omega,Fo _⟩
 ·rw[C,bd_ret,Out.on_ret]
  obtain⟨v,c1,c2,c3⟩:=m i o Aa;refine⟨_,rfl,?_⟩;have j:=P5.1 A;rw[c1] at j ⊢;simp only[Option.getD_some] at j ⊢;exact⟨Ad7.2 ⟨⟨b,c⟩,⟨by show (1:Int)≤i;omega,by show (i:Int)≤200;omega⟩,c2,j⟩,by show a≤(i:Int);omega,by show (i:Int)≤_;omega⟩
noncomputable def K3 (l:Lp):((List Int)×Int)→Option (Stp ((List Int)×Int) (Empty)):=fun (b,a) =>
 br (Ap (a<(ln l.body))) (
 ck (AL (b++[a]).length 8) <|
 ck (IR (a+1)) <|
 some (.next ((b++[a]),(a+1)))) (
 some (.brk (b,a)))
noncomputable def Mk (l:Lp) (t:Tgt) (p:Pln):Option (Krn×List Int×Bool) :=
 bd (O9 l t p) fun x5 =>
 br (x5.2 != 0) (
 some ((Krn.mk 0 0 []),[],Az)) (
 bd (Q7 l t p x5.1) fun a =>
 bd (lp (K3 l) ([],0)) fun c=>c.on (fun (b,e) =>
 bdG (a.2==0) (Oe l t a.1 b) fun d =>
 some (a.1,b,((a.2==0)&&d))) (fun r=>r.elim))
noncomputable def Ge (l:Lp) (t:Tgt):((List Int)×Int×Int)→Option (Stp ((List Int)×Int×Int) (Empty)):=fun (c,b,a) =>
 br (Ap (a<(ln l.body))) (
 ck (IX a (ln l.body)) <|
 ck (AL (c++[b]).length 8) <|
 bd (G1 t ((ele l.body a).op)) fun d =>
 ck (IR (b+d)) <|
 ck (IR (a+1)) <|
 some (.next ((c++[b]),(b+d),(a+1)))) (
 some (.brk (c,b,a)))
noncomputable def Km (l:Lp) (t:Tgt):Option (Pln) :=
 bd (lp (Ge l t) ([],0,0)) fun b=>b.on (fun (c,a,d) =>
 some (Pln.mk a c)) (fun r=>r.elim)
noncomputable def Ms (l:Lp) (t:Tgt) (d:Pln):Int→Option (Stp (Int) (Krn×List Int×Int)):=fun b =>
 br (Ap (b≤d.pace)) (
 bd (Pv l t b) fun a =>
 bd (Mk l t a.1) fun c =>
 br c.2.2 (
 some (.ret (c.1,c.2.1,0))) (
 ck (IR (a.1.pace+1)) <|
 ck (IR (a.1.pace * 5)) <|
 ck (IR (Int.tdiv (a.1.pace * 5) 4)) <|
 some (.next (max (a.1.pace+1) (Int.tdiv (a.1.pace * 5) 4))))) (
 some (.brk b))
noncomputable def Dp (l:Lp) (t:Tgt):Option (Krn×List Int×Int) :=
 bd (Is l) fun c =>
 bdG (!(!c)) (Gy t) fun e =>
 br ((!c) || (!e)) (
 some ((Krn.mk 0 0 []),[],2)) (
 bd (Km l t) fun b =>
 bd (lp (Ms l t b) 1) fun d=>d.on (fun f =>
 bd (Mk l t b) fun a =>
 br a.2.2 (
 some (a.1,a.2.1,0)) (
 some ((Krn.mk 0 0 []),[],1))) (fun r=>some r))
theorem Aqk {l:Lp} (b:LoopOk l) {t:Tgt} (a:Df t=true):Km l t=some (Rv l t (Ph l t)):=by
 have e:=b.2.2.1
 have:=G8 (f:=Ge l t) (ρ:=Empty) (fun k=>((List.range k).map (P0 l t),P0 l t k,(k:Int))) l.body.length (fun k d=>by
  have c:=R5 (l:=l) a k;have h:=Ym a (ele l.body (k:Int)).op;unfold Ge;simp only;rw[Ck (by unfold ln;omega),A8 Aa (by unfold ln;omega),Ax (AL8 (by simp;omega)),N9,bd_ret,Ay Aa Aa,Ay Aa Aa,rm_succ (g:=P0 l t)]
  rfl) (by unfold Ge;exact Cn (by unfold ln;omega))
 unfold Km;rw[show lp (Ge l t) ([],0,0)=_ from this,bd_ret,Out.on_go];rfl
theorem A4a {l:Lp} (c:l.Fine) {t:Tgt}{p:Pln} (h:LegalP l t p) :
  (∃ v,Mk l t p=some (Nr l t p v,Hh l.body.length,true)∧TakesP l t (Nr l t p v) (Hh l.body.length)) ∨
  (Mk l t p=some (⟨0,0,[]⟩,[],Az)∧¬∀ k,k<l.body.length→Xf ((L4 l t p).wp (spV l.body.length)) k):=by
 have m:=h.loop.2.2.1;unfold Mk;rcases Asc c h with ⟨v,a,b,d⟩ | ⟨a,b⟩
 ·refine .inl ⟨v,?_,Aki h a b⟩
  have e:=Aum h (v:=v);have j:Ae0 l (Nr l t p v):=Akj c
  have X:=G8 (f:=K3 l) (ρ:=Empty) (fun i=>(Hh i,(i:Int))) l.body.length (fun i hi=>by
   unfold K3;simp only;rw[Ck (by unfold ln;omega),Ax (AL8 (by rw[Ca,Ps];simp;omega)),Ay Aa Aa,show Hh i++[(i:Int)]=Hh (i+1) from rm_succ (g:=fun i:Nat=>(i:Int))]
   rfl) (by unfold K3;exact Cn (by unfold ln;omega))
  rw[d,bd_ret,show (((Sn t p l.body.length v,(0:Int)):List Int×Int).2 != 0)=Az from rfl,br_false,A60 c t p (by unfold Sn;simp;omega),Dz e,Bj rfl,bd_ret,
   show lp (K3 l) ([],0)=_ from X,bd_ret,Out.on_go]
  simp only[beq_self_eq_true,bdG_t,Rl];rw[show Aqv l t p (Sn t p l.body.length v)=Nr l t p v from rfl,Av8 c j (by rw[Ps];omega),bd_ret,Dz (Aki h a b)]
 ·refine .inr ⟨?_,b⟩
  rw[a,bd_ret];rfl
theorem Ai8 {l:Lp}{t:Tgt} (a:Df t=true):A48 l t (Rv l t (Ph l t)):=fun i hi=>by
 rw[show ele (Rv l t (Ph l t)).times (i:Int)=P0 l t i from Il hi];have b:=Vc (l:=l) a (show i+1≤l.body.length from Aa);have e:P0 l t (i+1)=P0 l t i+Fb t (ele l.body (i:Int)).op:=rfl;show _≤Ph l t;unfold Ph;omega
def A5a (l:Lp) (t:Tgt) (p:Pln) (v:List Int):Prop:=LegalP l t p∧p.pace≤Ph l t∧TakesP l t (Nr l t p v) (Hh l.body.length)
theorem A36 {l:Lp} (j:l.Fine) (h:LoopOk l) {t:Tgt} (d:Df t=true) :
  (∃ p v,Dp l t=some (Nr l t p v,Hh l.body.length,0)∧A5a l t p v)∨(Dp l t=some (⟨0,0,[]⟩,[],1)∧t.regs<5 * (l.body.length:Int)):=by
 have z:=Af0 h d;have m:=Y7 h d (Fo (Ph l t)) Aa;unfold Dp;rw[Agr l j,bd_ret,Jr,Dz h,d];simp only[F9,Kc,bdG_t,bd_ret,Si,br_false];rw[Aqk h d,bd_ret]
 obtain⟨o,e,q⟩:=A2t (f:=Ms l t (Rv l t (Ph l t))) (fun g=>1≤g) (fun g=>(Ph l t+1 - g).toNat) (fun o=>match o with
   | .go _=>True
   | .ret r=>∃ p v,r=(Nr l t p v,Hh l.body.length,(0:Int))∧A5a l t p v) (fun g w=>by
   unfold Ms;show ∃ s,br (Ap (g≤Ph l t)) _ _=some s∧_;by_cases c:g≤Ph l t
   ·rw[Ck c]
    obtain⟨p,n,k,x,y⟩:=A6x j h d w Aa;have A:=k.pace;rw[n,bd_ret];rcases A4a j k with ⟨v,a,i⟩ | ⟨a,_⟩
    ·refine⟨_,by simp only;rw[a,bd_ret];rfl,?_⟩
     exact⟨p,v,rfl,k,Aa,i⟩
    ·refine⟨_,by simp only;rw[a,bd_ret];simp only;rw[br_false,Ay Aa Aa,Ay Aa Aa,Ay (by have:=Agf (show 0≤p.pace * 5 from Aa) (b:=4);omega) (by have:=Agf (show 0≤p.pace * 5 from Aa) (b:=4);omega)],?_⟩
     simp only;omega
   ·rw[Cn c]
    exact⟨_,rfl,trivial⟩) 1 Aa
 rw[e,bd_ret]
 cases o with
 | ret r =>
  obtain⟨p,v,rfl,u⟩:=q;exact .inl ⟨p,v,rfl,u⟩
 | go g =>
  rw[Out.on_go];rcases A4a j m with ⟨v,a,i⟩ | ⟨a,i⟩
  ·refine .inl ⟨_,v,by rw[a,bd_ret];rfl,m,Fo _,i⟩
  ·refine .inr ⟨by rw[a,bd_ret];rfl,?_⟩
   by_cases c:t.regs<5 * (l.body.length:Int)
   ·exact c
   ·exact absurd (Ap6 m Aa (Ai8 d)) i
def Xo (l:Lp) (b:List (List Int)):Prop:=b.length=l.body.length∧∀ i:Nat,i<b.length→(ele b (i:Int)).length=3
section
variable {l : Lp} {t : Tgt} {k : Krn} {order : List Int} {b : List (List Int)}
def Avd (y:LayD) (b:List (List Int)) (s:Nat) (R:List Int):Nat→List Int
 | 0=>R
 | q+1=>upd (Avd y b s R q) (Sf y s q) (ele (ele b (s:Int)) (q:Int))
def Af9 (y:LayD) (b:List (List Int)) (n:Nat):Nat→List Int
 | 0=>List.replicate n 0
 | s+1=>Avd y b s (Af9 y b n s) (Uj y.body s).toNat
theorem Ah2 {y:LayD}{s:Nat}{R:List Int}:∀ q,(Avd y b s R q).length=R.length
 | 0=>rfl
 | q+1=>by show (upd _ _ _).length=_;rw[Amu,Ah2 q]
theorem Ah1 {y:LayD}{n:Nat}:∀ s,(Af9 y b n s).length=n
 | 0=>by show (List.replicate n 0).length=n;simp
 | s+1=>by show (Avd _ _ _ _ _).length=n;rw[Ah2,Ah1 s]
theorem reg_bd {y:LayD} (a:y.Ok) (s:Int) (q:Nat):0≤Sf y s q∧Sf y s q<y.regs:=by
 have c:=a.regs;exact⟨Ro _ Aa,Rq _ Aa⟩
def Aa5 (l:Lp) (t:Tgt) (y:LayD) (b:List (List Int)) (regs:List Int) (a:Int) (i:Nat):Int :=
 if a=0 then ele (ele b (ele l.outs (i:Int))) 0 else ele regs ((ele y.places (ele l.outs (i:Int))+a - 1) % t.regs)
end
noncomputable def H7 (b:List (List Int)):Int→Option (Stp (Int) (Bool)):=fun a =>
 br (Ap (a<(ln b))) (
 ck (IX a (ln b)) <|
 br ((ln (ele b a)) != 3) (
 some (.ret Az)) (
 ck (IR (a+1)) <|
 some (.next (a+1)))) (
 some (.brk a))
noncomputable def Jx (l:Lp) (a:List (List Int)):Option (Bool) :=
 bd (lp (H7 a) 0) fun b=>b.on (fun c =>
 some ((ln a)==(ln l.body))) (fun r=>some r)
noncomputable def Iz (t:Tgt) (d:List (List Int)) (c:Q9) (b g:Int):((List Int)×Int)→Option (Stp ((List Int)×Int) (Empty)):=fun (e,a) =>
 br (Ap (a<g)) (
 ck (IX b (ln c.2.2.2.2.2.2.2)) <|
 ck (IR ((ele c.2.2.2.2.2.2.2 b) - a)) <|
 ck (IR (((ele c.2.2.2.2.2.2.2 b) - a) - 1)) <|
 bd (Jo (((ele c.2.2.2.2.2.2.2 b) - a) - 1) t.regs) fun f =>
 ck (IX b (ln d)) <|
 ck (IX a (ln (ele d b))) <|
 ck (IX f (ln e)) <|
 ck (IR (a+1)) <|
 some (.next ((upd e f (ele (ele d b) a)),(a+1)))) (
 some (.brk (e,a)))
noncomputable def I0 (l:Lp) (t:Tgt) (c:List (List Int)) (g:Q9):((List Int)×Int)→Option (Stp ((List Int)×Int) (Empty)):=fun (b,a) =>
 br (Ap (a<(ln l.body))) (
 bd (Qn l a) fun f =>
 bd (lp (Iz t c g a f) (b,0)) fun d=>d.on (fun (e,h) =>
 ck (IR (a+1)) <|
 some (.next (e,(a+1)))) (fun r=>r.elim)) (
 some (.brk (b,a)))
noncomputable def H9 (l:Lp) (t:Tgt) (c:Krn) (order:List Int) (b:List (List Int)):Option (List Int×Int) :=
 bd (Ka l t c order) fun a =>
 Abq a.1 (
 ck (a.2=Az) <|
 bdG (!(!Az)) (Jx l b) fun h =>
 some ([],2)) fun g =>
 bdG (!(!a.2)) (Jx l b) fun f =>
 br ((!a.2) || (!f)) (
 some ([],2)) (
 ck (0≤t.regs) <|
 ck (AL t.regs.toNat 8) <|
 bd (lp (I0 l t b g) ((List.replicate t.regs.toNat (0:Int)),0)) fun d=>d.on (fun (e,i) =>
 some (e,0)) (fun r=>r.elim))
noncomputable def Iy (l:Lp) (t:Tgt) (c:List (List Int)) (regs:List Int) (d:Int) (e:Q9):((List Int)×Int)→Option (Stp ((List Int)×Int) (Empty)):=fun (b,a) =>
 br (Ap (a<(ln l.outs))) (
 ck (IX a (ln l.outs)) <|
 br (d==0) (
 ck (IX (ele l.outs a) (ln c)) <|
 ck (IX 0 (ln (ele c (ele l.outs a)))) <|
 ck (AL (b++[(ele (ele c (ele l.outs a)) 0)]).length 8) <|
 ck (IR (a+1)) <|
 some (.next ((b++[(ele (ele c (ele l.outs a)) 0)]),(a+1)))) (
 ck (IX (ele l.outs a) (ln e.2.2.2.2.2.2.2)) <|
 ck (IR ((ele e.2.2.2.2.2.2.2 (ele l.outs a))+d)) <|
 ck (IR (((ele e.2.2.2.2.2.2.2 (ele l.outs a))+d) - 1)) <|
 bd (Jo (((ele e.2.2.2.2.2.2.2 (ele l.outs a))+d) - 1) t.regs) fun f =>
 ck (IX f (ln regs)) <|
 ck (AL (b++[(ele regs f)]).length 8) <|
 ck (IR (a+1)) <|
 some (.next ((b++[(ele regs f)]),(a+1))))) (
 some (.brk (b,a)))
noncomputable def H8 (l:Lp) (t:Tgt) (d:Krn) (order:List Int) (b:List (List Int)) (regs:List Int) (c:Int):Option (List Int×Int) :=
 bd (Ka l t d order) fun a =>
 Abq a.1 (
 ck (a.2=Az) <|
 bdG (!(!Az)) (Jx l b) fun i =>
 some ([],2)) fun h =>
 bdG (!(!a.2)) (Jx l b) fun g =>
 br (((!a.2) || (!g)) || ((ln regs) != t.regs)) (
 some ([],2)) (
 br ((Ap (c<0)) || (Ap (c>200))) (
 some ([],3)) (
 bd (lp (Iy l t b regs c h) ([],0)) fun e=>e.on (fun (f,j) =>
 some (f,0)) (fun r=>r.elim)))
theorem Ay2 {l:Lp}{b:List (List Int)} (d:b.length≤9223372036854775807):Jx l b=some (tb (Xo l b)):=by
 unfold Jx
 rcases Lz (f:=H7 b) (ρ:=Bool) (fun i=>(i:Int)) b.length (fun i=>(ele b (i:Int)).length=3) (fun _=>Az) (fun i hi _=>by
   unfold H7;rw[Ck (by unfold ln;omega),A8 Aa (by unfold ln;omega)]
   exact⟨fun h=>by rw[show (ln (ele b (i:Int)) != 3)=Az from by unfold ln;rw[h];rfl,br_false,Ay Aa Aa];rfl,fun h=>by rw[show (ln (ele b (i:Int)) != 3)=true from by unfold ln;simp;omega,br_true]⟩) (by unfold H7;exact Cn (by unfold ln;omega)) with ⟨a,e⟩ | ⟨i,a,c,_,e⟩
 ·rw[show lp (H7 b) 0=_ from e,bd_ret,Out.on_go]
  congr 1;refine L6 ?_;unfold Xo ln;simp only[Dk];exact⟨fun h=>⟨Aa,a⟩,fun h=>by have:=h.1;omega⟩
 ·rw[show lp (H7 b) 0=_ from e,bd_ret,Out.on_ret,C3 fun h:Xo l b=>c (h.2 i a)]
section
variable {l : Lp} {t : Tgt} {k : Krn} {order : List Int} {b : List (List Int)}
theorem A3h (h:LayP l t k order) (c:Xo l b):lp (I0 l t b (Ke (Ct l t k order))) (List.replicate t.regs.toNat 0,0)=some (.go (Af9 (Ct l t k order) b t.regs.toNat l.body.length,(l.body.length:Int))):=by
 have a:=Wc h;have d:=h.loop.2.2.1;have g:=a.regs;have z:(Ct l t k order).regs=t.regs:=rfl;have v:=a.lp;have i:(Ct l t k order).body.length=l.body.length:=rfl;refine G8 (f:=I0 l t b (Ke (Ct l t k order))) (fun s=>(Af9 (Ct l t k order) b t.regs.toNat s,(s:Int))) l.body.length (fun s hs=>?_) (by unfold I0;exact Cn (by unfold ln;omega));have p:=Amj a (s:Int);have r:Uj (Ct l t k order).body (s:Int)=Uj l.body s:=rfl;have w:=a.pl s hs;have m:=c.2 s (by have:=c.1;omega);have o:=Ah1 (b:=b) (y:=Ct l t k order) (n:=t.regs.toNat) s
 have Y:=G8 (f:=Iz t b (Ke (Ct l t k order)) s (Uj l.body s)) (ρ:=Empty) (fun q=>(Avd (Ct l t k order) b s (Af9 (Ct l t k order) b t.regs.toNat s) q,(q:Int))) (Uj l.body s).toNat (fun q x=>by
  have e:=reg_bd a (s:Int) q;have u:=Ah2 (b:=b) (y:=Ct l t k order) (s:=s) (R:=Af9 (Ct l t k order) b t.regs.toNat s) q;have j:=c.1;unfold Iz;simp only;rw[show (Ke (Ct l t k order)).2.2.2.2.2.2.2=(Ct l t k order).places from rfl];rw[Ck Aa,A8 Aa (by unfold ln;omega),Ay Aa Aa,Ay Aa Aa,Acd Aa Aa,bd_ret,show (ele (Ct l t k order).places (s:Int) - (q:Int) - 1) % t.regs=Sf (Ct l t k order) s q from rfl,A8 Aa (by unfold ln;omega),A8 Aa (by unfold ln;omega),A8 e.1 (by unfold ln;omega),Ay Aa Aa]
  rfl) (by unfold Iz;exact Cn Aa)
 unfold I0;simp only;rw[Ck (by unfold ln;omega),A4p d a.bk,bd_ret,show lp (Iz t b (Ke (Ct l t k order)) s (Uj l.body s)) (Af9 (Ct l t k order) b t.regs.toNat s,0)=_ from Y,bd_ret,Out.on_go,Ay Aa Aa];rfl
theorem A21 (h:LayP l t k order) (g:Xo l b) {regs:List Int} (A:(regs.length:Int)=t.regs) {d:Int} (C:0≤d∧d≤200):lp (Iy l t b regs d (Ke (Ct l t k order))) ([],0)=some (.go ((List.range l.outs.length).map (Aa5 l t (Ct l t k order) b regs d),(l.outs.length:Int))):=by
 have j:=Wc h;have x:=h.loop.2.2.1;have r:=j.regs;have B:(Ct l t k order).regs=t.regs:=rfl;have w:=j.lp;have s:(Ct l t k order).body.length=l.body.length:=rfl;have y:=Uy h.loop;refine G8 (f:=Iy l t b regs d (Ke (Ct l t k order))) (fun i=>((List.range i).map (Aa5 l t (Ct l t k order) b regs d),(i:Int))) l.outs.length (fun i hi=>?_) (by unfold Iy;exact Cn (by unfold ln;omega));have n:=h.loop.out i hi;rw[show l.outs.getD i 0=ele l.outs (i:Int) from rfl] at n;obtain⟨a,m⟩:=Ik n.1;have p:a<l.body.length:=Aa;have z:=j.pl a p;have v:=g.2 a (by have:=g.1;omega);have u:=g.1;have o:=Ro (ele (Ct l t k order).places (a:Int)+d - 1) (show t.regs≠0 from Aa);have q:=Rq (ele (Ct l t k order).places (a:Int)+d - 1) (show 0<t.regs from Aa)
 have e:Aa5 l t (Ct l t k order) b regs d i=if d=0 then ele (ele b (a:Int)) 0 else ele regs ((ele (Ct l t k order).places (a:Int)+d - 1) % t.regs):=by unfold Aa5;rw[m]
 unfold Iy;simp only;rw[Ck (by unfold ln;omega),A8 Aa (by unfold ln;omega),m];by_cases c:d=0
 ·rw[show (d==0)=true from by simpa using c,br_true,A8 Aa (by unfold ln;omega),A8 Aa (by unfold ln;omega),Ax (AL8 (by simp;omega)),Ay Aa Aa]
  rw[Bj c] at e;rw[←e,rm_succ];rfl
 ·rw[show (d==0)=Az from by simpa using c,br_false]
  rw[show (Ke (Ct l t k order)).2.2.2.2.2.2.2=(Ct l t k order).places from rfl];rw[A8 Aa (by unfold ln;omega),Ay Aa Aa,Ay Aa Aa,Acd Aa Aa,bd_ret,A8 o (by unfold ln;omega),Ax (AL8 (by simp;omega)),Ay Aa Aa];rw[Bg c] at e;rw[←e,rm_succ];rfl
theorem A3g (f:l.Fine) (g:Ae0 l k) (i:order.length≤9223372036854775807) (d:b.length≤9223372036854775807):H9 l t k order b=some (if tb (TakesP l t k order∧Xo l b)=true then (Af9 (Ct l t k order) b t.regs.toNat l.body.length,0) else ([],2)):=by
 obtain⟨r,e,j⟩:=Ahv (t:=t) f g i;unfold H9;rw[e,bd_ret];by_cases h:TakesP l t k order
 ·rw[j h,Dz h]
  have m:=(Wc h.lay).regs;have n:(Ct l t k order).regs=t.regs:=rfl;unfold Abq;simp only;rw[show (!(!true))=true from rfl,bdG_t,Ay2 d,bd_ret];by_cases a:Xo l b
  ·rw[Dz a,Dz (p:=TakesP l t k order∧Xo l b) ⟨h,a⟩,Bj rfl,show ((!true) || (!true))=Az from rfl,br_false,Ax Aa,Ax (AL8 Aa),A3h h.lay a,bd_ret,Out.on_go]
  ·rw[C3 a,C3 fun c:TakesP l t k order∧Xo l b=>a c.2];rfl
 ·rw[C3 h,C3 fun c:TakesP l t k order∧Xo l b=>h c.1]
  unfold Abq
  cases r with
  | none=>simp only;rw[Ax trivial];rfl
  | some y=>rfl
theorem A20 (m:l.Fine) (n:Ae0 l k) (o:order.length≤9223372036854775807) (i:b.length≤9223372036854775807) {regs:List Int}{a:Int}:H8 l t k order b regs a=some (if tb (TakesP l t k order∧Xo l b∧(regs.length:Int)=t.regs)=true then (if (Ap (a<0) || Ap (a>200))=true then ([],3) else ((List.range l.outs.length).map (Aa5 l t (Ct l t k order) b regs a),0)) else ([],2)):=by
 obtain⟨r,e,q⟩:=Ahv (t:=t) m n o;unfold H8;rw[e,bd_ret];by_cases h:TakesP l t k order
 ·rw[q h,Dz h]
  unfold Abq;simp only;rw[show (!(!true))=true from rfl,bdG_t,Ay2 i,bd_ret];by_cases c:Xo l b
  ·by_cases d:(regs.length:Int)=t.regs
   ·rw[Dz c,Dz (p:=TakesP l t k order∧Xo l b∧(regs.length:Int)=t.regs) ⟨h,c,d⟩,Bj rfl,show (((!true) || (!true)) || (ln regs != t.regs))=Az from by unfold ln;simp[d],br_false]
    by_cases g:0≤a∧a≤200
    ·rw[show (Ap (a<0) || Ap (a>200))=Az from by simp;omega,br_false,A21 h.lay c d g,bd_ret,Out.on_go]
     rfl
    ·have j:(Ap (a<0) || Ap (a>200))=true:=by rw[W8,Ij,Ij];omega
     rw[j];rfl
   ·rw[Dz c,C3 fun f:TakesP l t k order∧Xo l b∧(regs.length:Int)=t.regs=>d f.2.2,show (((!true) || (!true)) || (ln regs != t.regs))=true from by unfold ln;simpa using d]
    rfl
  ·rw[C3 c,C3 fun f:TakesP l t k order∧Xo l b∧(regs.length:Int)=t.regs=>c f.2.1];rfl
 ·rw[C3 h,C3 fun f:TakesP l t k order∧Xo l b∧(regs.length:Int)=t.regs=>h f.1]
  unfold Abq
  cases r with
  | none=>simp only;rw[Ax trivial];rfl
  | some y=>rfl
end
def rowV (l:Lp) (s:Sta) (t:Nat):List Int:=(Xt l (Pg l s t).1 (Pg l s t).2 t).1
section
variable {t : Tgt} {k : Krn} {M : List (List Int)}
end
end Go.Rd
end
section
namespace Go.Rd
structure Pipe where
 (n N:Nat)
 (pace regs:Int)
 (T R P:Nat→Int)
 (val:Nat→Nat→Int)
namespace Pipe
def cyc (y:Pipe) (m σ:Nat):Int:=y.T m+σ * y.pace
def due (y:Pipe) (m σ:Nat):Int:=y.R m+σ * y.pace
def reg (y:Pipe) (m σ:Nat):Int:=(y.P m+σ) % y.regs
def In (y:Pipe) (m σ:Nat):Prop:=m<y.n∧σ<y.N
def ent (y:Pipe) (m σ:Nat):Due:=⟨y.due m σ,y.reg m σ,y.val σ m⟩
structure Regs (y:Pipe) (r0 r:List Int) (c:Int):Prop where
 len:(r.length:Int)=y.regs
 put:∀ m σ,y.In m σ→y.due m σ≤c→(∀ m' σ',y.In m' σ'→y.due m σ≤y.due m' σ'→y.due m' σ'≤c→y.reg m' σ'=y.reg m σ→m'=m∧σ'=σ)→ele r (y.reg m σ)=y.val σ m
 old:∀ x:Int,0≤x→x<y.regs→(∀ m σ,y.In m σ→y.due m σ≤c→y.reg m σ≠x)→ele r x=ele r0 x
structure Dues (y:Pipe) (D:Nat→Nat→Prop) (c:Int) (q:List Due):Prop where
 src:∀ d∈q,∃ m σ,y.In m σ∧D m σ∧c≤y.due m σ∧d=y.ent m σ
 all:∀ m σ,y.In m σ→D m σ→c≤y.due m σ→y.ent m σ∈q
theorem Dues.congr {y:Pipe}{D D':Nat→Nat→Prop}{c:Int}{q:List Due} (h:y.Dues D c q) (e:∀ m σ,y.In m σ→(D m σ↔D' m σ)):y.Dues D' c q :=
 ⟨fun d f=>by obtain⟨m,σ,a,b,x⟩:=h.src d f;exact⟨m,σ,a,(e m σ a).1 b,x⟩,fun m σ a b x=>h.all m σ a ((e m σ a).2 b) x⟩
theorem Dues.add {y:Pipe}{D:Nat→Nat→Prop}{c:Int}{q:List Due} (h:y.Dues D c q) {f g:Nat} (hi:y.In f g) (i:c≤y.due f g):y.Dues (fun m σ=>D m σ∨(m=f∧σ=g)) c (q++[y.ent f g]) :=
  ⟨fun d e=>by
    rcases F8.1 e with e | e
    · obtain⟨m,σ,a,b,x⟩:=h.src d e;exact⟨m,σ,a,.inl b,x⟩
    · exact⟨f,g,hi,.inr ⟨rfl,rfl⟩,i,G7.1 e⟩,
   fun m σ a b x=>by
    rcases b with b | ⟨rfl,rfl⟩
    · exact F8.2 (.inl (h.all m σ a b x))
    · exact F8.2 (.inr (G7.2 rfl))⟩
structure Ok (y:Pipe):Prop where
 regs:1≤y.regs
 pace:1≤y.pace
 wait:∀ m,m<y.n→y.T m<y.R m
theorem reg_bd {y:Pipe} (h:y.Ok) (m σ:Nat):0≤y.reg m σ∧y.reg m σ<y.regs:=⟨Ro _ (by have:=h.regs;omega),Rq _ (by have:=h.regs;omega)⟩
theorem Dues.left {y:Pipe}{D:Nat→Nat→Prop}{c:Int}{q:List Due} (b:y.Dues D c q):y.Dues D (c+1) (q.filter fun d=>Ap (d.due≠c)) :=
  ⟨fun d h=>by
    obtain⟨e,f⟩:=Ul.1 h;obtain⟨m,σ,hi,a,g,rfl⟩:=b.src d e;have i:y.due m σ≠c:=Ag3 f
    exact⟨m,σ,hi,a,Aa,rfl⟩,
   fun m σ hi a g=>Ul.2 ⟨b.all m σ hi a Aa,by
    have:y.due m σ≠c:=Aa
    exact Ls this⟩⟩
end Pipe
def Avc (m σ m' σ':Nat):Prop:=σ<σ'∨(σ=σ'∧m<m')
theorem A2y {m σ m' σ':Nat} (a:¬Avc m σ m' σ') (b:¬Avc m' σ' m σ):m=m'∧σ=σ':=by unfold Avc at *;omega
def wd (M:List (List Int)) (a x:Nat):Int:=ele (ele M (a:Int)) (x:Int)
def Words (hits:Nat→Nat→Nat→Nat→Prop) (val:Nat→Nat→Int) (D:Nat→Nat→Prop) (M0 M:List (List Int)):Prop :=
 ∀ a x,(∃ m σ,D m σ∧hits m σ a x∧(∀ m' σ',D m' σ'→hits m' σ' a x→¬Avc m σ m' σ')∧wd M a x=val σ m)∨((∀ m σ,D m σ→¬hits m σ a x)∧wd M a x=wd M0 a x)
section
variable {hits : Nat → Nat → Nat → Nat → Prop} {val : Nat → Nat → Int} {M0 : List (List Int)}
theorem Words.same {D D':Nat→Nat→Prop}{M M':List (List Int)} (h:Words hits val D M0 M) (j:Words hits val D' M0 M') {a x:Nat} (e:∀ m σ,hits m σ a x→(D m σ↔D' m σ)):wd M a x=wd M' a x:=by
 rcases h a x with ⟨m,σ,d,b,k,f⟩ | ⟨n,f⟩ <;> rcases j a x with ⟨m',σ',i,c,l,g⟩ | ⟨o,g⟩
 ·obtain⟨rfl,rfl⟩:=A2y (k m' σ' ((e m' σ' c).2 i) c) (l m σ ((e m σ b).1 d) b)
  rw[f,g]
 ·exact absurd b (o m σ ((e m σ b).1 d))
 ·exact absurd c (n m' σ' ((e m' σ' c).2 i))
 ·rw[f,g]
theorem Words.congr {D D':Nat→Nat→Prop}{M:List (List Int)} (h:Words hits val D M0 M) (e:∀ m σ a x,hits m σ a x→(D m σ↔D' m σ)):Words hits val D' M0 M:=fun a x=>by
 rcases h a x with ⟨m,σ,d,b,i,c⟩ | ⟨j,c⟩
 ·exact .inl ⟨m,σ,(e m σ a x b).1 d,b,fun m' σ' g f=>i m' σ' ((e m' σ' a x f).2 g) f,c⟩
 ·exact .inr ⟨fun m σ d b=>j m σ ((e m σ a x b).2 d) b,c⟩
theorem Words.skip {D:Nat→Nat→Prop}{M:List (List Int)} (h:Words hits val D M0 M) {b c:Nat} (f:∀ a x,¬hits b c a x):Words hits val (fun m σ=>D m σ∨(m=b∧σ=c)) M0 M :=
 h.congr fun m σ a x e=>⟨.inl,fun d=>by
  rcases d with d | ⟨rfl,rfl⟩
  ·exact d
  ·exact absurd e (f a x)⟩
theorem Words.put {D:Nat→Nat→Prop}{M M':List (List Int)} (h:Words hits val D M0 M) {c e a0 x0:Nat} (j:∀ a x,hits c e a x↔a=a0∧x=x0) (n:∀ m σ,D m σ→hits m σ a0 x0→¬Avc c e m σ)
  (s:wd M' a0 x0=val e c) (r:∀ a x,¬(a=a0∧x=x0)→wd M' a x=wd M a x):Words hits val (fun m σ=>D m σ∨(m=c∧σ=e)) M0 M':=fun a x=>by
 by_cases g:a=a0∧x=x0
 ·obtain⟨rfl,rfl⟩:=g
  refine .inl ⟨c,e,.inr ⟨rfl,rfl⟩,(j _ _).2 ⟨rfl,rfl⟩,fun m σ d b=>?_,s⟩;rcases d with d | ⟨rfl,rfl⟩
  ·exact n m σ d b
  ·unfold Avc;omega
 ·have l:¬hits c e a x:=fun q=>g ((j a x).1 q)
  rw[r a x g];rcases h a x with ⟨m,σ,d,b,o,i⟩ | ⟨p,i⟩
  ·refine .inl ⟨m,σ,.inl d,b,fun m' σ' f k=>?_,i⟩
   rcases f with f | ⟨rfl,rfl⟩
   ·exact o m' σ' f k
   ·exact absurd k l
  ·refine .inr ⟨fun m σ d b=>?_,i⟩
   rcases d with d | ⟨rfl,rfl⟩
   ·exact p m σ d b
   ·exact l b
end
end Go.Rd
end
section
namespace Go.Rd
def A1m (l:Lp) (s:Sta) (σ m:Nat):Int:=ele (rowV l s σ) (m:Int)
section
variable {l : Lp} {s : Sta}
def A4o (l:Lp) (m σ a x:Nat):Prop:=(ele l.body (m:Int)).op=4∧(ele l.body (m:Int)).ar=a∧idx (ele l.body (m:Int)).sp (ele l.body (m:Int)).pl σ (ele l.logs (ele l.body (m:Int)).ar)=x
end
section
variable {l : Lp} {t : Tgt} {k : Krn} {order : List Int}
def Ab0 (l:Lp) (t:Tgt) (k:Krn) (order:List Int) (s:Sta) (N:Nat):Pipe :=
 ⟨l.body.length,N,k.pace,t.regs,fun m=>ele (Ct l t k order).time (m:Int),fun m=>ele (Ct l t k order).ready (m:Int),fun m=>ele (Ct l t k order).places (m:Int),A1m l s⟩
end
theorem A0m {α:Type} [Inhabited α] {a b:List α} (c:a.length=b.length) (d:∀ i:Nat,i<a.length→ele a (i:Int)=ele b (i:Int)):a=b:=by
 apply List.ext_getElem c;intro i hi e;have:=d i hi;simpa[Dj,Ec,hi,e] using this
section
variable {l : Lp} {t : Tgt} {k : Krn} {order : List Int} {s : Sta}
def A43 (l:Lp) (t:Tgt) (k:Krn) (order:List Int) (s:Sta) (N:Nat) (c i:Int) (m σ:Nat):Prop:=(Ab0 l t k order s N).cyc m σ<c∨((Ab0 l t k order s N).cyc m σ=c∧ele order (m:Int)<i)
structure OpsI (l:Lp) (t:Tgt) (k:Krn) (order:List Int) (s:Sta) (N:Nat) (c i:Nat) (q:List Due) (M:List (List Int)):Prop where
 due:(Ab0 l t k order s N).Dues (A43 l t k order s N c i) (c+1) q
 wds:Words (A4o l) (A1m l s) (fun m σ=>(Ab0 l t k order s N).In m σ∧A43 l t k order s N c i m σ) s.mem M
 ok:MemOk l M
 len:q.length≤16 * c+i
structure PlayI (l:Lp) (t:Tgt) (k:Krn) (order:List Int) (s:Sta) (r0:List Int) (N c:Nat) (q:List Due) (r:List Int) (M:List (List Int)):Prop where
 due:(Ab0 l t k order s N).Dues (fun m σ=>(Ab0 l t k order s N).cyc m σ<c) c q
 regs:(Ab0 l t k order s N).Regs r0 r ((c:Int) - 1)
 wds:Words (A4o l) (A1m l s) (fun m σ=>(Ab0 l t k order s N).In m σ∧(Ab0 l t k order s N).cyc m σ<c) s.mem M
 ok:MemOk l M
 len:q.length≤16 * c
structure EndK (l:Lp) (t:Tgt) (k:Krn) (order:List Int) (s:Sta) (r0:List Int) (N:Nat) (r:List Int) (M:List (List Int)):Prop where
 len:(r.length:Int)=t.regs
 zero:N=0→r=r0
 outs:1≤N→∀ a:Nat,a<l.body.length→(a:Int)∈l.outs→ele r ((ele (Ct l t k order).places (a:Int)+N - 1) % t.regs)=A1m l s (N - 1) a
 mem:M=(Pg l s N).2
end
section
variable {l : Lp} {t : Tgt} {k : Krn} {order : List Int} {s : Sta}
end
theorem A1f (l:Lp) (s:Sta) (t:Int) (b:l.Fine) (a:RowsOk s.bef) (c:RowsOk s.mem) (h:FitsP l s) (d:t<0∨t>200):Lb l s t=some (⟨[],[]⟩,3):=by
 unfold Lb;rw[Azh l s b a c,bd_ret,Dz h,F9,br_false,show (Ap (t<0) || Ap (t>200))=true from by simpa using d];rfl
theorem Apr {y:LayD}{b:List (List Int)} (d:∀ r∈b,∀ x∈r,InR x) {s:Nat}{R:List Int} (c:∀ v∈R,InR v):∀ q:Nat,∀ v∈Avd y b s R q,InR v
 | 0=>c
 | q+1=>fun v a=>by
  rcases Apd a with rfl | a
  ·exact U4 d _ _
  ·exact Apr d c q v a
theorem Apq {y:LayD}{b:List (List Int)} (a:∀ r∈b,∀ x∈r,InR x) {m:Nat}:∀ n:Nat,∀ v∈Af9 y b m n,InR v
 | 0=>fun v c=>by
  obtain rfl:=Arj c;constructor <;> omega
 | n+1=>Apr a (Apq a n) _
theorem Asn {l:Lp} (j:LoopOk l) {M:List (List Int)} (c:MemOk l M):Atq M∧Aoi M=l.logs:=by
 have k:=c.len
 have key:∀ i:Nat,i<M.length→∃ L:Nat,L≤5∧ele l.logs (i:Int)=L∧lgN (ele M (i:Int)).length=L:=fun i hi=>by
  have d:=j.log i Aa;have a:=c.row i hi;rw[show l.logs.getD i 0=ele l.logs (i:Int) from rfl] at d a;rw[show M.getD i []=ele M (i:Int) from rfl] at a;obtain⟨L,b⟩:=Ik d.1;rw[b,I9] at a;have m:=Axw (show L≤5 from Aa);exact⟨L,Aa,b,(Aub Aa).2 Aa⟩
 refine⟨fun i hi=>?_,A0m (by unfold Aoi;simp;omega) fun i hi=>?_⟩
 ·obtain⟨L,h,_,e⟩:=key i hi;omega
 ·have hi:i<M.length:=by unfold Aoi at hi;simpa using hi
  obtain⟨L,h,f,g⟩:=key i hi;rw[show ele (Aoi M) (i:Int)=(lgN (ele M (i:Int)).length:Int) from Il hi,f,g]
section
variable {t : Tgt} {k : Krn} {logs : List Int}
theorem A6i (b:KMayP t k logs) (l:∀ i:Nat,i<k.ops.length→InR (ele k.ops (i:Int)).n) {N:Nat} (G:N≤200) {r:List Int} (q:RegsG t r) {M:List (List Int)} (x:MemG logs M)
  (J:Lm M=some (logs,true)) (K:K2 t k logs=some true) :
  ∃ s M',Jt t k r M N=some (s,M',0)∧RegsG t s:=by
 have y:=Aso b x;have Q:=q.len;have a0:=b.pace;have a4:=b.stages;have W:=F0.1 b.tgt;have a1:r.length≤1000:=Aa;unfold Jt
 rw[J,bd_ret,show (!!((logs,true):List Int×Bool).2)=true from rfl,bdG_t,K,bd_ret,
  show (ln r != t.regs)=Az from by unfold ln;rw[Aq9];exact Q,F9,Si,Si,br_false,
  show (Ap ((N:Int)<0) || Ap ((N:Int)>200))=Az from by rw[Th,Hs,Hs];omega,br_false,
  show Acg r=some r from Ax (Ayc Aa Aa),bd_ret,Azi y.1 y.2,bd_ret]
 by_cases T:N=0
 ·subst T
  exact⟨r,M,rfl,q⟩
 have F:1≤N:=Aa;obtain⟨P,R,H,X,U,V,a5,a6,z,a7⟩:=lastK b G F;have h:InvS t logs 0 ([],r,M):=⟨q,x,fun d a=>(by cases a),fun j _=>Aaq _⟩;rw[Ck Aa,Ay Aa Aa,Ay Aa Aa]
 obtain⟨g,e,p⟩:=Am6 (f:=J8 t k N) (ρ:=Empty) (n:=R) (fun (g:List Due×List (List Int)×List Int) i=>(g.1,g.2.1,g.2.2,i)) (fun pa g=>KInv t k logs N ([],r,M) (R * P) (pa * P) g) (fun pa g O p=>by
   obtain⟨g',e',E⟩:=A27 b l h H ⟨U,V⟩ Aa O z p;refine⟨g',?_,E⟩;unfold J8;simp only;rw[Ck Aa,e',bd_ret,Out.on_go];simp only
   rw[Ay Aa Aa]) (fun g=>by unfold J8;exact Cn Aa) ([],M,r) ⟨by rw[Nat.zero_mul];exact Jn _,by rw[Nat.zero_mul];rfl,by rw[Nat.zero_mul];rfl⟩
 rw[show lp (J8 t k N) ([],M,r,0)=_ from e,bd_ret,Out.on_go];obtain⟨D,M',s⟩:=g;obtain⟨c,a2,a3⟩:=p;simp only at c a2 a3;subst a2 a3;have o:=Adu b l (N:=N) h (last:=R * P) (R * P) Aa;have w:=Adu b l (N:=N) h (last:=R * P) (R * P+7) Aa;have Y:=o.len;have u:∀ d∈D,((R * P:Nat):Int)≤d.due∧d.due≤((R * P:Nat):Int)+5∧0≤d.reg∧d.reg<t.regs∧InR d.v:=fun d a=>o.due d (c.mem.1 a);obtain⟨S,B,C,m⟩:=Acw (D:=D) (fun d a=>by have:=u d a;exact⟨Aa,Aa⟩) (by rw[c.1];omega);obtain⟨S',b0,t2,t3,t4,t5⟩:=Aow b l (N:=N) h z C (m.symm.trans c) 7 Aa
 have L:S'=[]:=by
  cases I:S' with
  | nil=>rfl
  | cons d S'' =>
   have a:d∈(stS t k logs N ([],r,M) (R * P) (R * P+7)).1:=t2.mem.1 (by rw[I];exact Aav ..);have a8:=(w.due d a).1;have a9:=t5 d a;omega
 refine⟨(stS t k logs N ([],r,M) (R * P) (R * P+7)).2.1,(stS t k logs N ([],r,M) (R * P) (R * P+7)).2.2,?_,w.regs⟩;simp only;rw[Ayz (A:=S) (Z:=[]) B (N2 _).symm (fun d a=>by have:=u d (m.mem.2 a);have:=o.regs.len;omega) (fun d a=>by cases a) (by rw[←m.1,c.1];omega),bd_ret,t3,L,t4];rfl
end
noncomputable def Gh (a:Tgt) (c:List UInt8) (l:List Int):Option (List UInt8×Tgt) :=
 ck (SX 0 3 (ln l)) <|
 ck (3≤ln (sub l 0 3)) <|
 ck (SX 3 6 (ln l)) <|
 ck (3≤ln (sub l 3 6)) <|
 ck (IX 6 (ln l)) <|
 bd (Gy (Tgt.mk (ele (sub l 0 3) 0) (ele (sub l 0 3) 1) (ele (sub l 0 3) 2) (ele (sub l 3 6) 0) (ele (sub l 3 6) 1) (ele (sub l 3 6) 2) (ele l 6))) fun b =>
 br (!b) (
 some ([63],a)) (
 some ([111,107],(Tgt.mk (ele (sub l 0 3) 0) (ele (sub l 0 3) 1) (ele (sub l 0 3) 2) (ele (sub l 3 6) 0) (ele (sub l 3 6) 1) (ele (sub l 3 6) 2) (ele l 6))))
noncomputable def Dy (b:Tgt) (m:List UInt8) (l:Lp) (d:Int):Option (List UInt8) :=
 bd (Oc l) fun c =>
 bd (Lb l c d) fun f =>
 br (f.2 != 0) (
 some [63]) (
 bd (Dp l b) fun a =>
 br (a.2.2 != 0) (
 some [110,111,110,101]) (
 bd (H9 l b a.1 a.2.1 c.bef) fun g =>
 bd (Jt b a.1 g.1 c.mem d) fun h =>
 bd (H8 l b a.1 a.2.1 c.bef h.1 d) fun i =>
 bd (I6 [] f.1.outs) fun e =>
 ck (SL (e++[32,58])) <|
 bd (I6 (e++[32,58]) i.1) fun j =>
 bd (Jy j [32]) fun k =>
 some k))
noncomputable def Et (b:Krn×List Int×Int):((List UInt8)×Int)→Option (Stp ((List UInt8)×Int) (Empty)):=fun (c,a) =>
 br (Ap (a<(ln b.1.ops))) (
 ck (IX a (ln b.1.ops)) <|
 bd (F3 c [(ele b.1.ops a).slot,(ele b.1.ops a).stage,(ele b.1.ops a).dest]) fun d =>
 ck (IR (a+1)) <|
 some (.next (d,(a+1)))) (
 some (.brk (c,a)))
noncomputable def Hg (c:Tgt) (f:List UInt8) (l:Lp):Option (List UInt8) :=
 bd (Dp l c) fun a =>
 br (a.2.2 != 0) (
 some [110,111,110,101]) (
 bd (Fx [a.1.pace,a.1.stages]) fun e =>
 bd (lp (Et a) (e,0)) fun b=>b.on (fun (d,g) =>
 some d) (fun r=>r.elim))
noncomputable def Cd (b:Tgt) (c:List UInt8) (words:List (List UInt8)) (d:List Int):Option (List UInt8) :=
 bd (M5 c) fun a =>
 br (a.2.code != 0) (
 bd (F3 [98,97,100] [a.2.at']) fun f =>
 some f) (
 ck (IX 0 (ln words)) <|
 br ((ele words 0)==[101,100,103,101,115]) (
 bd (Fi a.1 b) fun g =>
 bd (Fx [(ln g.1)]) fun h =>
 some h) (
 br ((ele words 0)==[98,111,117,110,100]) (
 bd (Kb a.1 b) fun e =>
 bd (Fx [e.1,e.2.1]) fun i =>
 some i) (
 br ((ele words 0)==[98,117,105,108,100]) (
 bd (Hg b c a.1) fun j =>
 some j) (
 ck (IX 0 (ln d)) <|
 bd (Dy b c a.1 (ele d 0)) fun k =>
 some k))))
noncomputable def Ep (b:Tgt) (a s:List UInt8):Option (List UInt8×Tgt×List UInt8) :=
 bd (Pf s [61,32]) fun e =>
 br e.2 (
 ck (SL (e.1++[10])) <|
 ck (SL (a++(e.1++[10]))) <|
 bd (F3 [111,107] [(ln (a++(e.1++[10])))]) fun g =>
 some (g,b,(a++(e.1++[10])))) (
 br (s==[102,114,101,115,104]) (
 some ([111,107],b,[])) (
 bd (Tn s [32]) fun c =>
 ck (SX 1 (ln c) (ln c)) <|
 bd (K9 (sub c 1 (ln c))) fun d =>
 br (!d.2) (
 some ([63],b,a)) (
 ck (IX 0 (ln c)) <|
 br (((ele c 0)==[109,97,99,104,105,110,101])&&((ln d.1)==7)) (
 bd (Gh b a d.1) fun f =>
 some (f.1,f.2,a)) (
 br (s==[101,100,103,101,115]) (
 br (s==[101,100,103,101,115]) (
 bd (Cd b a c d.1) fun h =>
 some (h,b,a)) (
 some ([63],b,a))) (
 br (s==[98,111,117,110,100]) (
 br (s==[98,111,117,110,100]) (
 bd (Cd b a c d.1) fun i =>
 some (i,b,a)) (
 some ([63],b,a))) (
 br (s==[98,117,105,108,100]) (
 br (s==[98,117,105,108,100]) (
 bd (Cd b a c d.1) fun j =>
 some (j,b,a)) (
 some ([63],b,a))) (
 ck (IX 0 (ln c)) <|
 br (((ele c 0)==[116,117,114,110,115])&&((ln d.1)==1)) (
 bd (Cd b a c d.1) fun k =>
 some (k,b,a)) (
 some ([63],b,a)))))))))
noncomputable def J9 (b:List (List UInt8)):(Int×Int×Int×Int×Int×Int×Int×(List UInt8)×(List UInt8)×Int)→Option (Stp (Int×Int×Int×Int×Int×Int×Int×(List UInt8)×(List UInt8)×Int) (Empty)):=fun (e,f,g,h,i,j,k,l,d,c) =>
 br (Ap (c<(ln (sub b 0 (min (ln b) 60))))) (
 ck (IX c (ln (sub b 0 (min (ln b) 60)))) <|
 bd (Ep (Tgt.mk e f g h i j k) l (ele (sub b 0 (min (ln b) 60)) c)) fun a =>
 ck (SL (a.1++[10])) <|
 ck (SL (d++(a.1++[10]))) <|
 ck (IR (c+1)) <|
 some (.next (a.2.1.u0,a.2.1.u1,a.2.1.u2,a.2.1.w0,a.2.1.w1,a.2.1.w2,a.2.1.regs,a.2.2,(d++(a.1++[10])),(c+1)))) (
 some (.brk (e,f,g,h,i,j,k,l,d,c)))
noncomputable def Px (f:List UInt8):Option (List UInt8) :=
 bd (Tn f [10]) fun a =>
 ck (IR ((ln a) - 1)) <|
 ck (IX ((ln a) - 1) (ln a)) <|
 bd (show Option (Out ((List (List UInt8))) (Empty)) from br ((ele a ((ln a) - 1))==[]) (
 ck (IR ((ln a) - 1)) <|
 ck (SX 0 ((ln a) - 1) (ln a)) <|
 some (.go (sub a 0 ((ln a) - 1)))) (
 some (.go a))) fun c=>c.on (fun b =>
 ck (SX 0 (min (ln b) 60) (ln b)) <|
 bd (lp (J9 b) (2,1,1,1,3,2,32,[],[],0)) fun d=>d.on (fun (g,h,i,j,k,l,m,n,e,o) =>
 some e) (fun r=>r.elim)) (fun r=>r.elim)
noncomputable def Fk (l:Lp):((List (List Int))×Int)→Option (Stp ((List (List Int))×Int) (Empty)):=fun (b,a) =>
 br (Ap (a<(ln l.body))) (
 ck (0≤(3:Int)) <|
 ck (AL (3:Int).toNat 8) <|
 ck (AL (b++[(List.replicate (3:Int).toNat (0:Int))]).length 24) <|
 ck (IR (a+1)) <|
 some (.next ((b++[(List.replicate (3:Int).toNat (0:Int))]),(a+1)))) (
 some (.brk (b,a)))
noncomputable def C1 (l:Lp):((List (List Int))×Int)→Option (Stp ((List (List Int))×Int) (Empty)):=fun (c,a) =>
 br (Ap (a<(ln l.logs))) (
 ck (IX a (ln l.logs)) <|
 bd (Sc (ele l.logs a)) fun b =>
 ck (0≤b) <|
 ck (AL b.toNat 8) <|
 ck (AL (c++[(List.replicate b.toNat (0:Int))]).length 24) <|
 ck (IR (a+1)) <|
 some (.next ((c++[(List.replicate b.toNat (0:Int))]),(a+1)))) (
 some (.brk (c,a)))
noncomputable def Du (c:Tgt) (s:List UInt8) (l:Lp) (d:Int):Option (List UInt8) :=
 bd (lp (Fk l) ([],0)) fun j=>j.on (fun (e,p) =>
 bd (lp (C1 l) ([],0)) fun i=>i.on (fun (f,q) =>
 bd (Lb l (Sta.mk e f) d) fun g =>
 br (g.2 != 0) (
 some [63]) (
 bd (Dp l c) fun a =>
 br (a.2.2 != 0) (
 some [110,111,110,101]) (
 bd (H9 l c a.1 a.2.1 e) fun k =>
 bd (Jt c a.1 k.1 f d) fun m =>
 bd (H8 l c a.1 a.2.1 e m.1 d) fun h =>
 bd (B1 [] g.1.outs) fun b =>
 br (b != []) (
 ck (SL (b++[32])) <|
 ck (SL ((b++[32])++[58])) <|
 bd (B1 ((b++[32])++[58]) h.1) fun n =>
 some n) (
 ck (SL (b++[58])) <|
 bd (B1 (b++[58]) h.1) fun o =>
 some o)))) (fun r=>r.elim)) (fun r=>r.elim)
noncomputable def C2 (b:Krn×List Int×Int):((List UInt8)×Int)→Option (Stp ((List UInt8)×Int) (Empty)):=fun (c,a) =>
 br (Ap (a<(ln b.1.ops))) (
 ck (IX a (ln b.1.ops)) <|
 ck (IX a (ln b.1.ops)) <|
 ck (IX a (ln b.1.ops)) <|
 bd (B1 c [(ele b.1.ops a).slot,(ele b.1.ops a).stage,(ele b.1.ops a).dest]) fun d =>
 ck (IR (a+1)) <|
 some (.next (d,(a+1)))) (
 some (.brk (c,a)))
noncomputable def Bo (b:Tgt) (d word:List UInt8) (f:Int):Option (List UInt8) :=
 bd (M5 d) fun a =>
 br (a.2.code != 0) (
 bd (B1 [98,97,100] [a.2.at']) fun i =>
 some i) (
 br (word==[101,100,103,101,115]) (
 bd (Fi a.1 b) fun j =>
 bd (B1 [] [(ln j.1)]) fun k =>
 some k) (
 br (word==[98,111,117,110,100]) (
 bd (Kb a.1 b) fun e =>
 bd (B1 [] [e.1,e.2.1]) fun l =>
 some l) (
 br (word==[98,117,105,108,100]) (
 bd (Dp a.1 b) fun c =>
 br (c.2.2 != 0) (
 some [110,111,110,101]) (
 bd (B1 [] [c.1.pace,c.1.stages]) fun m =>
 bd (lp (C2 c) (m,0)) fun g=>g.on (fun (h,o) =>
 some h) (fun r=>r.elim))) (
 bd (Du b d a.1 f) fun n =>
 some n))))
noncomputable def Cu (e:Tgt) (f:List UInt8) (c:List (List UInt8)):((List Int)×Int)→Option (Stp ((List Int)×Int) (List UInt8×Tgt×List UInt8)):=fun (b,a) =>
 br (Ap (a<(ln c))) (
 ck (IX a (ln c)) <|
 bd (Gf (ele c a)) fun d =>
 br (!d.2) (
 some (.ret ([63],e,f))) (
 ck (AL (b++[d.1]).length 8) <|
 ck (IR (a+1)) <|
 some (.next ((b++[d.1]),(a+1))))) (
 some (.brk (b,a)))
noncomputable def C9 (b:List Int):((List Int)×Int)→Option (Stp ((List Int)×Int) (Empty)):=fun (c,a) =>
 br (Ap (a<3)) (
 ck (IX a (ln b)) <|
 ck (IX a 3) <|
 ck (IX a (ln c)) <|
 ck (IR (3+a)) <|
 ck (IX (3+a) (ln b)) <|
 ck (IX a 3) <|
 ck (IX (3+a) (ln (upd c a (ele b a)))) <|
 ck (IR (a+1)) <|
 some (.next ((upd (upd c a (ele b a)) (3+a) (ele b (3+a))),(a+1)))) (
 some (.brk (c,a)))
noncomputable def Dc (b:Tgt) (a s:List UInt8):Option (List UInt8×Tgt×List UInt8) :=
 ck ((Ap ((ln s)≥2))=true→SX 0 2 (ln s)) <|
 br ((Ap ((ln s)≥2))&&((sub s 0 2)==[61,32])) (
 ck (SX 2 (ln s) (ln s)) <|
 ck (SL (a++(sub s 2 (ln s)))) <|
 ck (SL ((a++(sub s 2 (ln s)))++[10])) <|
 bd (B1 [111,107] [(ln ((a++(sub s 2 (ln s)))++[10]))]) fun i =>
 some (i,b,((a++(sub s 2 (ln s)))++[10]))) (
 br (s==[102,114,101,115,104]) (
 some ([111,107],b,[])) (
 bd (Gt s (32:UInt8)) fun d =>
 bd (lp (Cu b a d) ([],1)) fun f=>f.on (fun (c,m) =>
 ck (IX 0 (ln d)) <|
 br (((ele d 0)==[109,97,99,104,105,110,101])&&((ln c)==7)) (
 ck (IX 6 (ln c)) <|
 bd (lp (C9 c) (([0,0,0,0,0,0,(ele c 6)]:List Int),0)) fun g=>g.on (fun (e,l) =>
 ck (e.length=7) <|
 bd (Gy (Xb e)) fun j =>
 br (!j) (
 some ([63],b,a)) (
 ck (e.length=7) <|
 some ([111,107],(Xb e),a))) (fun r=>r.elim)) (
 br (((s==[101,100,103,101,115]) || (s==[98,111,117,110,100])) || (s==[98,117,105,108,100])) (
 bd (Bo b a s 0) fun k =>
 some (k,b,a)) (
 ck (IX 0 (ln d)) <|
 br (((ele d 0)==[116,117,114,110,115])&&((ln c)==1)) (
 ck (IX 0 (ln c)) <|
 bd (Bo b a [116,117,114,110,115] (ele c 0)) fun h =>
 some (h,b,a)) (
 some ([63],b,a))))) (fun r=>some r)))
def Ku (l:Lp):Sta:=⟨(List.range l.body.length).map fun _=>List.replicate 3 (0:Int),(List.range l.logs.length).map fun i:Nat=>List.replicate ((2:Int) ^ (ele l.logs (i:Int)).toNat).toNat (0:Int)⟩
theorem Avz {g:Int} (a:0≤g) (b:g≤5):shlD 1 g=2 ^ g.toNat:=by
 obtain⟨k,rfl⟩:=Ik a;have:∀ k:Nat,k≤5→shlD 1 (k:Int)=2 ^ k:=Ah;rw[I9];exact this k Aa
theorem Zn {g:Int} (a:0≤g) (b:g≤5):1≤(2:Int) ^ g.toNat∧(2:Int) ^ g.toNat≤32:=by
 obtain⟨k,rfl⟩:=Ik a;have:∀ k:Nat,k≤5→1≤(2:Int) ^ k∧(2:Int) ^ k≤32:=Ah;rw[I9];exact this k Aa
theorem Att {l:Lp} (a:LoopOk l):lp (Ix l) ([],0)=some (.go ((Ku l).bef,(l.body.length:Int))):=by
 have b:=a.2.2.1
 have key:=G8 (f:=Ix l) (fun i=>((List.range i).map fun _=>List.replicate 3 (0:Int),(i:Int))) l.body.length (fun i hi=>by
  unfold Ix;simp only;rw[Ck (by rw[Ao];omega),Ax Ah,Z9 Ah Ah,Z9 (by simp;omega) (by simp;omega),Ay Aa Aa,show (3:Int).toNat=3 from rfl,Vx,Q0]
  rfl) (by
  unfold Ix;simp only;rw[Cn (by rw[Ao];omega)])
 exact key
theorem A12 {l:Lp} (b:LoopOk l):lp (Iw l) ([],0)=some (.go ((Ku l).mem,(l.logs.length:Int))):=by
 have c:=b.1
 have key:=G8 (f:=Iw l) (fun i=>((List.range i).map fun i:Nat=>List.replicate ((2:Int) ^ (ele l.logs (i:Int)).toNat).toNat (0:Int),(i:Int))) l.logs.length (fun i hi=>by
  have a:=b.log i hi;rw[←Acb] at a;have d:=Zn a.1 a.2;unfold Iw;simp only;rw[Ck (by rw[Ao];omega),A8 Aa (by rw[Ao];omega),Ax a.1,Avz a.1 a.2,Ax Aa,Z9 Aa Aa,Z9 (by simp;omega) (by simp;omega),Ay Aa Aa,Vx,Q0]
  rfl) (by
  unfold Iw;simp only;rw[Cn (by rw[Ao];omega)])
 exact key
theorem Azj {l:Lp} (b:LoopOk l):lp (C1 l) ([],0)=some (.go ((Ku l).mem,(l.logs.length:Int))):=by
 have c:=b.1
 have key:=G8 (f:=C1 l) (fun i=>((List.range i).map fun i:Nat=>List.replicate ((2:Int) ^ (ele l.logs (i:Int)).toNat).toNat (0:Int),(i:Int))) l.logs.length (fun i hi=>by
  have a:=b.log i hi;rw[←Acb] at a;have d:=Zn a.1 a.2;unfold C1;simp only;rw[Ck (by rw[Ao];omega),A8 Aa (by rw[Ao];omega),Azd _ a.2,bd_ret,Ax Aa,Z9 Aa Aa,Z9 (by simp;omega) (by simp;omega),Ay Aa Aa,Vx,Q0]
  rfl) (by
  unfold C1;simp only;rw[Cn (by rw[Ao];omega)])
 exact key
theorem Amr {l:Lp} (a:LoopOk l):Oc l=some (Ku l):=by
 unfold Oc;rw[Att a,bd_ret,Out.on_go];simp only;rw[A12 a,bd_ret,Out.on_go]
theorem Ar2 {n:Nat}{f:Nat→Nat} (h:∀ i,f i≤100) (c:n≤100):RowsOk ((List.range n).map fun i=>List.replicate (f i) (0:Int)):=by
 refine⟨fun xs a x b=>?_,fun xs a=>?_,by rw[Ev];simp;omega⟩
 ·obtain⟨i,_,rfl⟩:=I7.1 a
  obtain rfl:=Arj b;exact .z
 ·obtain⟨i,_,rfl⟩:=I7.1 a
  rw[Ev,Ado];have:=h i;omega
theorem Avj {l:Lp} (b:LoopOk l):FitsP l (Ku l)∧RowsOk (Ku l).bef∧RowsOk (Ku l).mem:=by
 have k:=b.2.2.1;have m:=b.1;have d:∀ i:Nat,i<l.body.length→(Ku l).bef.getD i []=List.replicate 3 0:=fun i hi=>Il (g:=fun _=>List.replicate 3 (0:Int)) hi;have e:∀ i:Nat,i<l.logs.length→(Ku l).mem.getD i []=List.replicate ((2:Int) ^ (ele l.logs (i:Int)).toNat).toNat (0:Int):=fun i hi=>Il (g:=fun i:Nat=>List.replicate ((2:Int) ^ (ele l.logs (i:Int)).toNat).toNat (0:Int)) hi;refine⟨⟨b,by simp[Ku],by simp[Ku],fun i hi=>?_,fun i hi=>?_⟩,Ar2 (f:=fun _=>3) (fun _=>Aa) Aa,?_⟩
 ·rw[d i (by simpa[Ku] using hi)];rfl
 ·have hi:i<l.logs.length:=by simpa[Ku] using hi
  have a:=b.log i hi;have h:=Zn a.1 a.2;rw[e i hi,Ado,Acb,Aep Aa]
 ·refine⟨fun xs c x j=>?_,fun xs c=>?_,by rw[Ev];simp[Ku];omega⟩
  ·obtain⟨i,_,rfl⟩:=I7.1 c
   obtain rfl:=Arj j;exact .z
  ·obtain⟨i,hi,rfl⟩:=I7.1 c
   have a:=b.log i (Vw.1 hi);rw[←Acb] at a;have h:=Zn a.1 a.2;rw[Ev,Ado];omega
theorem Au4 {l:Lp} (a:l.Fine) (c:LoopOk l) {t:Tgt} (d:Df t=true) :
  (∃ p v,Dp l t=some (Nr l t p v,Hh l.body.length,0)∧TakesP l t (Nr l t p v) (Hh l.body.length))∨Dp l t=some (⟨0,0,[]⟩,[],1):=by
 rcases A36 a c d with ⟨p,v,e,_,_,b⟩ | ⟨e,_⟩
 ·exact .inl ⟨p,v,e,b⟩
 ·exact .inr e
theorem A0d {l:Lp} (a:l.Fine) {s:Sta} (h:StaOk l s) {n:Nat} (e:n≤200):(∀ v∈Ajs l s n,InR v)∧(Ajs l s n).length≤16:=by
 have b:=Uy h.loop;refine⟨fun v d=>?_,by unfold Ajs;rw[Gl];exact b⟩;obtain⟨k,_,rfl⟩:=I7.1 d;exact U4 (fun r c=>((Amb a h n Aa).1 r c).rng) 0 k
theorem Awj {l:Lp}{t:Tgt}{y:LayD}{b:List (List Int)} (a:∀ r∈b,∀ x∈r,InR x) {r:List Int} (c:∀ x∈r,InR x) {n:Int}{m:Nat}:∀ v∈(List.range m).map (Aa5 l t y b r n),InR v:=fun v d=>by
 obtain⟨i,_,rfl⟩:=I7.1 d;unfold Aa5;split
 ·exact U4 a _ _
 ·exact Afy c _
theorem Avn {l:Lp} (a:l.Fine) (d:LoopOk l) {t:Tgt} (C:Df t=true) {s:Sta} (c2:FitsP l s) (b:RowsOk s.bef) (j:RowsOk s.mem) {N:Nat} (h:N≤200) :
  ∃ O M0,(∀ v∈O,InR v)∧O.length≤16∧Lb l s N=some (⟨O,M0⟩,0) ∧
   ((∃ k order regs x M O',(∀ v∈O',InR v)∧O'.length≤16∧Dp l t=some (k,order,0)∧H9 l t k order s.bef=some (regs,0)∧Jt t k regs s.mem N=some (x,M,0)∧H8 l t k order s.bef x N=some (O',0))∨Dp l t=some (⟨0,0,[]⟩,[],1)):=by
 have hs:=c2.ok b j;obtain⟨F,G⟩:=A0d a hs h;refine⟨Ajs l s N,(Pg l s N).2,F,G,Run_s a hs (by rw[Azh l s a b j,Dz c2]) N h,?_⟩;have I:1≤l.body.length∧l.body.length≤16:=⟨d.2.1,d.2.2.1⟩;have B:=Uy d;rcases Au4 a d C with ⟨p,v,e,f⟩ | e
 ·left
  have c:Ae0 l (Nr l t p v):=Akj a
  have w:(Hh l.body.length).length≤9223372036854775807:=by rw[Ps];omega
  have g:=f.lay;have o:Xo l s.bef:=⟨hs.len,fun i hi=>hs.bef i hi⟩;have q:s.bef.length≤9223372036854775807:=b.len;have H:=(Wc g).regs;have J:(Ct l t (Nr l t p v) (Hh l.body.length)).regs=t.regs:=rfl;have u:=Asn hs.loop hs.mem;have K:=hs.mem.small hs.loop
  have A:((Af9 (Ct l t (Nr l t p v) (Hh l.body.length)) s.bef t.regs.toNat l.body.length).length:Int)=t.regs:=by rw[Ah1];omega
  obtain⟨L,M',E,z⟩:=A6i (r:=Af9 (Ct l t (Nr l t p v) (Hh l.body.length)) s.bef t.regs.toNat l.body.length) (M:=s.mem) g.may (fun i hi=>((c i hi).rbody (G5 (ele (Nr l t p v).ops (i:Int))) (Z3 _ (Aav ..))).2.2.2.2.2.2.2.2) h ⟨A,Apq b.rng _⟩ ⟨hs.mem.len,hs.mem.row,hs.mem.rng⟩
   (by rw[Av9 Aa j.lens,Dz u.1,u.2];rfl) (by rw[Ayp c,Dz g.may])
  refine⟨_,_,_,_,_,_,Awj (l:=l) (t:=t) (y:=Ct l t (Nr l t p v) (Hh l.body.length)) (n:=(N:Int)) (m:=l.outs.length) b.rng z.rng,by rw[Gl,List.length_range];exact B,e,?_,E,?_⟩
  ·rw[A3g a c w q,Dz ⟨f,o⟩,Bj rfl]
  ·rw[A20 a c w q,Dz ⟨f,o,z.len⟩,Bj rfl,show (Ap ((N:Int)<0) || Ap ((N:Int)>200))=Az from by rw[Th,Hs,Hs];omega,Bg Ah]
 ·exact .inr e
theorem Ar9 {l:Lp} (s:l.Fine) (b:LoopOk l) {t:Tgt} (H:Df t=true) {n:Int} (z:0≤n):∃ r,(∀ x,Dy t x l n=some r)∧(∀ x,Du t x l n=some r)∧r.length≤2000:=by
 obtain⟨c2,q,u⟩:=Avj b
 have two:∀ r,(∀ x,Dy t x l n=some r)→(bd (Lb l (Ku l) n) fun v =>
   br (v.2 != 0) (some [63]) (bd (Dp l t) fun c=>br (c.2.2 != 0) (some [110,111,110,101]) (
   bd (H9 l t c.1 c.2.1 (Ku l).bef) fun I=>bd (Jt t c.1 I.1 (Ku l).mem n) fun J=>bd (H8 l t c.1 c.2.1 (Ku l).bef J.1 n) fun w =>
   bd (B1 [] v.1.outs) fun d=>br (d != []) (ck (SL (d++[32]))<|ck (SL ((d++[32])++[58]))<|bd (B1 ((d++[32])++[58]) w.1) fun K=>some K) (
   ck (SL (d++[58]))<|bd (B1 (d++[58]) w.1) fun L=>some L))))=some r→r.length≤2000→∃ r,(∀ x,Dy t x l n=some r)∧(∀ x,Du t x l n=some r)∧r.length≤2000:=fun r A B C=>⟨r,A,fun x=>by
  unfold Du;rw[show lp (Fk l) ([],0)=_ from Att b,bd_ret,Out.on_go];simp only;rw[Azj b,bd_ret,Out.on_go];simp only
  exact B,C⟩
 by_cases c1:n>200
 ·have e:=A1f l (Ku l) n s q u c2 (.inr c1)
  refine two [63] (fun x=>?_) ?_ Bf
  ·unfold Dy
   rw[Amr b,bd_ret,e,bd_ret];rfl
  ·rw[e,bd_ret];rfl
 obtain⟨N,rfl⟩:=Ik z;obtain⟨O,M0,h,S,g,E⟩:=Avn s b H c2 q u (N:=N) Aa;rcases E with ⟨k,order,regs,x,M,O',i,T,f,m,o,p⟩ | f
 ·have a:=Lc h
  have P:=Lc i
  have Q:(Ew O++[32,58]++Ew O').length≤1000:=by simp only[Ca,Ef,E6];omega
  refine two ((Ew O++[32,58]++Ew O').drop 1) (fun y=>?_) ?_ (by rw[Nn];omega)
  ·unfold Dy Jy
   rw[Amr b,bd_ret,g,bd_ret,show (((⟨O,M0⟩:Rst),(0:Int)).2 != 0)=Az from rfl,br_false,f,bd_ret,show ((k,order,(0:Int)).2.2 != 0)=Az from rfl,br_false];simp only;rw[m,bd_ret,o,bd_ret,p,bd_ret,At2 h Aa Bf,bd_ret,Ua,Ax (Qz (by simp only[Ca,Ef,E6];omega)),At2 i Aa (by simp only[Ca,Ef,E6];omega),bd_ret,bd_ret];congr 1
   cases O with
   | nil=>rfl
   | cons n r=>rw[Ql];simp only[Vz];rw[Aie];rfl
  ·rw[g,bd_ret,show (((⟨O,M0⟩:Rst),(0:Int)).2 != 0)=Az from rfl,br_false,f,bd_ret,show ((k,order,(0:Int)).2.2 != 0)=Az from rfl,br_false]
   simp only;rw[m,bd_ret,o,bd_ret,p,bd_ret,V1 h Aa Bf,bd_ret,Ux];by_cases j:O=[]
   ·subst j
    rw[show (((Ew ([]:List Int)).drop 1) != [])=Az from rfl,br_false,Ax (Qz (by simp[Ew])),V1 i Aa (by simp[Ew]),bd_ret];rfl
   ·have G:=Wv h j
    have F:=At1 j
    have R:((Ew O).drop 1).length≤500:=by rw[Nn];omega
    rw[show (((Ew O).drop 1) != [])=true by rw[T4];exact G,br_true,Ax (Qz (by simp only[Ca,Ef,E6];omega)),Ax (Qz (by simp only[Ca,Ef,E6];omega)),
     V1 i Aa (by simp only[Ca,Ef,E6];omega),bd_ret,Wb _ Bf]
    congr 1;rw[G6 (Ew O),List.drop_append_of_le_length F];simp
 ·refine two [110,111,110,101] (fun x=>?_) ?_ Bf
  ·unfold Dy
   rw[Amr b,bd_ret,g,bd_ret,show (((⟨O,M0⟩:Rst),(0:Int)).2 != 0)=Az from rfl,br_false,f,bd_ret];rfl
  ·rw[g,bd_ret,show (((⟨O,M0⟩:Rst),(0:Int)).2 != 0)=Az from rfl,br_false,f,bd_ret];rfl
def Lx (k:Krn) (i:Nat):List UInt8:=((List.range i).map fun j:Nat=>Ew [(ele k.ops (j:Int)).slot,(ele k.ops (j:Int)).stage,(ele k.ops (j:Int)).dest]).flatten
theorem Wx (k:Krn) (i:Nat):Lx k (i+1)=Lx k i++Ew [(ele k.ops (i:Int)).slot,(ele k.ops (i:Int)).stage,(ele k.ops (i:Int)).dest]:=by
 unfold Lx;rw[Vx,Q0,Aeo];simp
def Atp (k:Krn):Prop:=k.ops.length≤16∧InR k.pace∧InR k.stages∧∀ i:Nat,i<k.ops.length→InR (ele k.ops (i:Int)).slot∧InR (ele k.ops (i:Int)).stage∧InR (ele k.ops (i:Int)).dest
theorem Ahn {a b c:Int} (h:InR a∧InR b∧InR c):∀ v∈[a,b,c],InR v:=fun v d=>by
 simp only[Gw,Agz,or_false] at d;rcases d with rfl | rfl | rfl
 ·exact h.1
 ·exact h.2.1
 ·exact h.2.2
theorem Aaz {a b:Int} (h:InR a∧InR b):∀ v∈[a,b],InR v:=fun v c=>by
 simp only[Gw,Agz,or_false] at c;rcases c with rfl | rfl
 ·exact h.1
 ·exact h.2
theorem V2 {a:Int} (h:InR a):∀ v∈[a],InR v:=fun v b=>by rw[G7] at b;subst b;exact h
theorem Tp {k:Krn} (h:Atp k):∀ i,i≤k.ops.length→(Lx k i).length≤i * 63
 | 0,_=>by simp[Lx]
 | i+1,hi=>by
  have a:=Tp h i Aa;have b:=Lc (Ahn (h.2.2.2 i Aa));rw[Wx,Ca];simp only[Ef,E6] at b;omega
theorem A05 {k:Krn}{order:List Int}{e:Int} (h:Atp k) {s:List UInt8} (hs:s.length≤1000):lp (Et (k,order,e)) (s,0)=some (.go (s++Lx k k.ops.length,(k.ops.length:Int))):=by
 have d:=h.1
 have key:=G8 (f:=Et (k,order,e)) (fun i=>(s++Lx k i,(i:Int))) k.ops.length (fun i hi=>by
  have a:=Tp h i Aa;have b:IX (i:Int) (ln k.ops):=⟨Aa,by rw[Ao];omega⟩;unfold Et;simp only;rw[Ck b.2,Ax b,Aoe (Ahn (h.2.2.2 i hi)) Bf (by rw[Ca];omega),bd_ret,Ay Aa Aa,Wx,G6]
  rfl) (by
  unfold Et;simp only;rw[Cn (by rw[Ao];omega)])
 have c:s++Lx k 0=s:=by simp[Lx]
 simp only[c] at key;exact key
theorem Awn {k:Krn}{order:List Int}{e:Int} (h:Atp k) {s:List UInt8} (d:s≠[]) (hs:s.length≤1000):lp (C2 (k,order,e)) (s,0)=some (.go (s++Lx k k.ops.length,(k.ops.length:Int))):=by
 have g:=h.1
 have key:=G8 (f:=C2 (k,order,e)) (fun i=>(s++Lx k i,(i:Int))) k.ops.length (fun i hi=>by
  have a:=Tp h i Aa;have b:IX (i:Int) (ln k.ops):=⟨Aa,by rw[Ao];omega⟩;unfold C2;simp only;rw[Ck b.2,Ax b,Ax b,Ax b,V1 (Ahn (h.2.2.2 i hi)) Bf (by rw[Ca];omega),bd_ret,Ay Aa Aa,Wx,Wb _ (by simp[d]),G6]
  rfl) (by
  unfold C2;simp only;rw[Cn (by rw[Ao];omega)])
 have c:s++Lx k 0=s:=by simp[Lx]
 simp only[c] at key;exact key
theorem A07 {l:Lp} (f:l.Fine) (g:LoopOk l) {t:Tgt} (h:Df t=true):(∃ k order,Dp l t=some (k,order,0)∧Atp k)∨Dp l t=some (⟨0,0,[]⟩,[],1):=by
 rcases Au4 f g h with ⟨p,v,e,c⟩ | e
 ·left
  have a:=c.lay.may;have m:=a.pace;have hs:=a.stages;refine⟨_,_,e,a.n.2,⟨Aa,Aa⟩,⟨Aa,Aa⟩,fun i hi=>?_⟩;have b:=a.one i hi;have j:=Aa4 a b;have d:=b.1;unfold Aya at d;exact⟨⟨Aa,Aa⟩,⟨Aa,Aa⟩,⟨Aa,Aa⟩⟩
 ·exact .inr e
def edW:List UInt8:=[101,100,103,101,115]
def boW:List UInt8:=[98,111,117,110,100]
def buW:List UInt8:=[98,117,105,108,100]
def tuW:List UInt8:=[116,117,114,110,115]
theorem Ait {t:Tgt} (o:Df t=true) {x:List UInt8} (a:x.length≤1048576) {word:List UInt8} (U:word=edW∨word=boW∨word=buW∨word=tuW) {m:Int} (R:0≤m) :
  ∃ r,Bo t x word m=some r∧r.length≤2000∧∀ words n,0<ln words→ele words 0=word→(word=tuW→0<ln n∧ele n 0=m)→Cd t x words n=some r:=by
 have z:=Asi a
 have hat:InR (On x).2.at':=by
  obtain⟨n,u,a4,a5,N,a6,a7⟩:=U2 a
  have key:∀ (V:List (List UInt8)) (l:Lp) (i:Nat),(Q2 l i V).2≤i+V.length:=by
   intro V
   induction V with
   | nil=>intro l i;simp[Q2]
   | cons s r W =>
    intro l i
    cases P:Rw l s with
    | none=>rw[Wm P];simp
    | some q=>rw[Wl P];have:=W q (i+1);simp only[Ef];omega
  have j:=key (spl 10 x).dropLast ⟨[],[],[]⟩ 0;unfold On Aqy;split
  ·split
   ·exact .z
   ·exact⟨by simp only;omega,by simp only;omega⟩
  ·exact⟨by simp only;omega,by simp only;omega⟩
 by_cases C:(On x).2.code=0
 case neg =>
  have b:((On x).2.code != 0)=true:=by rw[T4];exact C
  have e:=Aoe (word:=[98,97,100]) (V2 hat) Bf Bf;have h:=Lc (V2 hat);refine⟨[98,97,100]++Ew [(On x).2.at'],?_,by rw[Ca];simp only[Ef,E6] at h ⊢;omega,fun words n f g p=>?_⟩
  ·unfold Bo
   rw[K8 a,bd_ret,b,br_true,V1 (V2 hat) Bf Bf,bd_ret,Wb _ Bf]
  ·unfold Cd
   rw[K8 a,bd_ret,b,br_true,e,bd_ret]
 have b:((On x).2.code != 0)=Az:=by rw[C];rfl
 obtain⟨h,_⟩:=Asj C;have v:=z.fine Aa;obtain⟨l,d⟩:∃ l,(On x).1=l:=⟨_,rfl⟩;rw[d] at h v;have S:=h.2.2.1;have G:(edW==[101,100,103,101,115])=true:=rfl;have H:(boW==[101,100,103,101,115])=Az:=rfl;have I:(boW==[98,111,117,110,100])=true:=rfl;have y:(buW==[101,100,103,101,115])=Az:=rfl;have A:(buW==[98,111,117,110,100])=Az:=rfl;have B:(buW==[98,117,105,108,100])=true:=rfl;have J:(tuW==[101,100,103,101,115])=Az:=rfl;have K:(tuW==[98,111,117,110,100])=Az:=rfl;have M:(tuW==[98,117,105,108,100])=Az:=rfl;rcases U with rfl | rfl | rfl | rfl
 ·obtain⟨E,u,_,_,_,O⟩:=S6 h v o
  have c:InR (ln E):=⟨by rw[Ao];omega,by rw[Ao];omega⟩;have w:=Lc (V2 c);simp only[Ef,E6] at w;refine⟨(Ew [ln E]).drop 1,?_,by rw[Nn];omega,fun words n f g p=>?_⟩
  ·unfold Bo
   rw[K8 a,bd_ret,b,br_false,G,br_true,d,u,bd_ret,V1 (V2 c) Bf Bf,bd_ret,Ux]
  ·unfold Cd
   rw[K8 a,bd_ret,b,br_false,Ax ⟨Fo _,f⟩,g,G,br_true,d,u,bd_ret,Am2 (V2 c) Bf,bd_ret]
 ·obtain⟨E,u,_,_,N,O⟩:=S6 h v o
  obtain⟨L,b1,b2,a2,a3,F⟩:=Au5 h o u N O;have b4:=Axr S o 3;have a8:=Af0 h o;have c:InR (uB l t 3:Int)∧InR (L:Int):=⟨⟨Aa,Aa⟩,⟨Aa,Aa⟩⟩;have w:=Lc (Aaz c);simp only[Ef,E6] at w;refine⟨(Ew [(uB l t 3:Int),(L:Int)]).drop 1,?_,by rw[Nn];omega,fun words n f g p=>?_⟩
  ·unfold Bo
   rw[K8 a,bd_ret,b,br_false,H,br_false,I,br_true,d,F,bd_ret,V1 (Aaz c) Bf Bf,bd_ret,Ux]
  ·unfold Cd
   rw[K8 a,bd_ret,b,br_false,Ax ⟨Fo _,f⟩,g,H,br_false,I,br_true,d,F,bd_ret,Am2 (Aaz c) Bf,bd_ret]
 ·rcases A07 v h o with ⟨k,order,e,j⟩ | e
  ·have c:InR k.pace∧InR k.stages:=⟨j.2.1,j.2.2.1⟩
   have w:=Lc (Aaz c);simp only[Ef,E6] at w;have b3:=Tp j k.ops.length (Co _);have b0:=j.1;have T:=Wv (Aaz c) Bf
   have a9:((Ew [k.pace,k.stages]).drop 1).length≤100:=by rw[Nn];omega
   have Q:((k,order,(0:Int)).2.2 != 0)=Az:=rfl;refine⟨(Ew [k.pace,k.stages]).drop 1++Lx k k.ops.length,?_,by rw[Ca];omega,fun words n f g p=>?_⟩
   ·unfold Bo
    rw[K8 a,bd_ret,b,br_false,y,br_false,A,br_false,B,br_true,d,e,bd_ret,Q,br_false];simp only;rw[V1 (Aaz c) Bf Bf,bd_ret,Ux,Awn j T Aa,bd_ret,Out.on_go]
   ·unfold Cd Hg
    rw[K8 a,bd_ret,b,br_false,Ax ⟨Fo _,f⟩,g,y,br_false,A,br_false,B,br_true,d,e,bd_ret,Q,br_false];simp only;rw[Am2 (Aaz c) Bf,bd_ret,A05 j Aa,bd_ret,Out.on_go,bd_ret]
  ·refine⟨[110,111,110,101],?_,Bf,fun words n f g p=>?_⟩
   ·unfold Bo
    rw[K8 a,bd_ret,b,br_false,y,br_false,A,br_false,B,br_true,d,e,bd_ret];rfl
   ·unfold Cd Hg
    rw[K8 a,bd_ret,b,br_false,Ax ⟨Fo _,f⟩,g,y,br_false,A,br_false,B,br_true,d,e,bd_ret];rfl
 ·obtain⟨r,r1,a0,a1⟩:=Ar9 v h o R
  refine⟨r,?_,a1,fun words n f g p=>?_⟩
  ·unfold Bo
   rw[K8 a,bd_ret,b,br_false,J,br_false,K,br_false,M,br_false,d,a0,bd_ret]
  ·obtain⟨X,Y⟩:=p rfl
   unfold Cd;rw[K8 a,bd_ret,b,br_false,Ax ⟨Fo _,f⟩,g,J,br_false,K,br_false,M,br_false,Ax ⟨Fo _,X⟩,Y,d,r1,bd_ret]
def maW:List UInt8:=[109,97,99,104,105,110,101]
def frW:List UInt8:=[102,114,101,115,104]
theorem Akf {t:Tgt}{x:List UInt8}{l:List Int} (i:l.length=7):Gh t x l=some (if Df (Xb l)=true then ([111,107],Xb l) else ([63],t)):=by
 match l,i with
 | [a,b,c,d,e,f,g],_ =>
  unfold Gh
  rw[Ax ⟨Ah,Ah,by simp[ln]⟩,Ax (by rw[show sub [a,b,c,d,e,f,g] 0 3=[a,b,c] from rfl];simp[ln]),Ax ⟨Ah,Ah,by simp[ln]⟩,Ax (by rw[show sub [a,b,c,d,e,f,g] 3 6=[d,e,f] from rfl];simp[ln]),Ax ⟨Ah,by simp[ln]⟩,
   show (Tgt.mk (ele (sub [a,b,c,d,e,f,g] 0 3) 0) (ele (sub [a,b,c,d,e,f,g] 0 3) 1) (ele (sub [a,b,c,d,e,f,g] 0 3) 2) (ele (sub [a,b,c,d,e,f,g] 3 6) 0) (ele (sub [a,b,c,d,e,f,g] 3 6) 1) (ele (sub [a,b,c,d,e,f,g] 3 6) 2) (ele [a,b,c,d,e,f,g] 6))=Xb [a,b,c,d,e,f,g] from rfl,Jr,bd_ret]
  cases h:Df (Xb [a,b,c,d,e,f,g]) with
  | true=>rw[F9,br_false,Bj rfl]
  | false=>rw[Kc,br_true,Bg Ah]
theorem A2x {l:List Int}{i v:Int}:ln (upd l i v)=ln l:=by unfold ln upd;simp
theorem Am9 {l B:List Int} (d:l.length=7) (b:B.length=7) {i:Nat} (hi:i<3):C9 l (B,(i:Int))=some (.next (upd (upd B (i:Int) (ele l (i:Int))) (3+(i:Int)) (ele l (3+(i:Int))),((i+1:Nat):Int))):=by
 have a:ln l=7:=by rw[Ao];omega
 have c:ln B=7:=by rw[Ao];omega
 unfold C9;simp only;rw[Ck Aa,A8 Aa Aa,A8 Aa Aa,A8 Aa Aa,Ay Aa Aa,A8 Aa Aa,A8 Aa Aa,A8 Aa (by rw[A2x];omega),Ay Aa Aa];rfl
theorem A4m {l:List Int} (h:l.length=7):lp (C9 l) (([0,0,0,0,0,0,ele l 6]:List Int),0)=some (.go (l,3)):=by
 match l,h with
 | [a,b,c,d,e,f,g],_ =>
  have j:=Am9 (l:=[a,b,c,d,e,f,g]) (B:=[0,0,0,0,0,0,g]) rfl rfl (i:=0) Aa;have k:=Am9 (l:=[a,b,c,d,e,f,g]) (B:=[a,0,0,d,0,0,g]) rfl rfl (i:=1) Aa;have m:=Am9 (l:=[a,b,c,d,e,f,g]) (B:=[a,b,0,d,e,0,g]) rfl rfl (i:=2) Aa;have n:C9 [a,b,c,d,e,f,g] ([a,b,c,d,e,f,g],3)=some (.brk ([a,b,c,d,e,f,g],3)):=rfl;exact B4 j (B4 k (B4 m (Db n)))
theorem Asr {t:Tgt}{x:List UInt8}{W:List (List UInt8)}{v:List Int}{i:Nat} (hi:i<W.length) (d:W.length≤4000000) (f:v.length≤i) :
  Cu t x W (v,(i:Int))=some (Ahk (Zu (ele W (i:Int))) (fun n=>(v++[n],((i+1:Nat):Int))) ([63],t,x)):=by
 have c:IX (i:Int) (ln W):=⟨Aa,by rw[Ao];omega⟩;obtain⟨n,b,e,h⟩:=(Awd (s:=ele W (i:Int))).val;unfold Cu;simp only;rw[Ck c.2,Ax c,e,bd_ret]
 cases a:Zu (ele W (i:Int)) with
 | none=>rw[a] at h;rw[show b=Az from h];rfl
 | some m =>
  rw[a] at h;obtain⟨rfl,rfl⟩:=h;rw[F9,br_false,Z9 (by simp;omega) (by simp;omega),Ay Aa Aa];rfl
theorem Awl {t:Tgt}{x k:List UInt8}{a:List (List UInt8)} (c:a.length≤3000000):lp (Cu t x (k::a)) ([],1)=some (Sv (Xd a) (fun l=>(l,(((k::a).length:Nat):Int))) ([63],t,x)):=by
 have key:=Aor (F:=Cu t x (k::a)) (f:=fun v i=>(v,(i:Int))) (bad:=(([63]:List UInt8),t,x)) (k::a) 0 (fun i v hi b=>Asr hi (by simp only[Ef];omega) b) (fun v=>by
  unfold Cu;simp only;rw[Cn (by rw[Ao];omega)]) a 1 [] rfl (by simp only[Ef];omega) Bf
 exact key
theorem Awi {t:Tgt} (f:Df t=true) {x s:List UInt8} (W:x.length+s.length≤1048576) :
  ∃ r,Ep t x s=some r∧Dc t x s=some r∧r.1.length≤2000∧Df r.2.1=true∧r.2.2.length≤x.length+s.length:=by
 unfold Ep Dc Pf;rw[bd_ret];by_cases w:∃ q,s=61::32::q
 ·obtain⟨q,rfl⟩:=w
  simp only[Ef] at W
  have U:Sj (61::32::q) [61,32]=q:=by simp[Sj,P4,List.isPrefixOf]
  have V:P4 (61::32::q) [61,32]=true:=by simp[P4,List.isPrefixOf]
  have J:ln (61::32::q)=(q.length:Int)+2:=by rw[Ao];simp only[Ef];omega
  have es:sub (61::32::q) 2 (ln (61::32::q))=q:=by unfold Rd.sub;rw[J];simp
  have A:InR (ln (x++(q++[10]))):=⟨by rw[Ao];omega,by rw[Ao];simp only[Ca,Ef,E6];omega⟩;have T:=Lc (V2 A);simp only[Ef,E6] at T;refine⟨([111,107]++Ew [ln (x++(q++[10]))],t,x++(q++[10])),?_,?_,by rw[Ca];simp only[Ef,E6];omega,f,by simp only[Ca,Ef,E6];omega⟩
  ·rw[U,V]
   simp only;rw[br_true,Ax (Qz (by simp only[Ca,Ef,E6];omega)),Ax (Qz (by simp only[Ca,Ef,E6];omega)),Aoe (V2 A) Bf Bf,bd_ret]
  ·rw[Fv (fun _=>⟨Fo _,Aa,Aa⟩),Ls (show ln (61::32::q)≥2 from Aa),show (sub (61::32::q) 0 2==[61,32])=true from rfl,Adf,br_true,Ax ⟨Aa,Aa,Fo _⟩,es,
    Ax (Qz (by simp only[Ca];omega)),Ax (Qz (by simp only[Ca,Ef,E6];omega)),G6,V1 (V2 A) Bf Bf,bd_ret,Wb _ Bf]
 have S:P4 s [61,32]=Az:=by
  cases h:P4 s [61,32] with
  | false=>rfl
  | true =>
   exfalso
   match s with
   | []=>simp[P4,List.isPrefixOf] at h
   | [a]=>simp[P4,List.isPrefixOf] at h
   | a::b::q =>
    simp only[P4,List.isPrefixOf,Bool.and_true,Fa,Dk] at h;exact w ⟨q,by rw[←h.1,←h.2]⟩
 have P:((Ap ((ln s)≥2))&&((sub s 0 2)==[61,32]))=Az:=by
  cases h:((Ap ((ln s)≥2))&&((sub s 0 2)==[61,32])) with
  | false=>rfl
  | true =>
   exfalso;rw[Fa,Dk] at h
   match s with
   | []=>exact absurd h.2 Ah
   | [a]=>have:=congrArg List.length h.2;simp[Rd.sub] at this
   | a::b::q =>
    have N:[a,b]=[61,32]:=h.2
    injection N with O z
    injection z with z _
    exact w ⟨q,by rw[O,z]⟩
 rw[S,Fv (fun h=>⟨Fo _,Aa,Ag3 h⟩),P];simp only;rw[br_false,br_false];by_cases H:s=frW
 ·have e:(s==[102,114,101,115,104])=true:=Dk.2 H
  rw[e,br_true,br_true];exact⟨_,rfl,rfl,Bf,f,Bf⟩
 have M:(s==[102,114,101,115,104])=Az:=Xe H;obtain⟨k,a,e,a0,X,a1⟩:=Ao1 (c:=32) (s:=s)
 have J:ln (k::a)=(a.length:Int)+1:=by rw[Ao];simp
 have c0:IX 0 (ln (k::a)):=⟨Fo _,Aa⟩;have d:ele (k::a) 0=k:=rfl;rw[M,br_false,br_false,Af3 _ Aa,bd_ret,Aph _ Aa,bd_ret,e,Ax ⟨Aa,Aa,Fo _⟩,Ex,Awc Aa (fun p w=>by have:=X p w;omega),bd_ret,Awl Aa,bd_ret];have bad:∃ r:List UInt8×Tgt×List UInt8,(some (([63]:List UInt8),t,x):Option _)=some r∧(some (([63]:List UInt8),t,x):Option _)=some r∧r.1.length≤2000∧Df r.2.1=true∧r.2.2.length≤x.length+s.length:=⟨_,rfl,rfl,Bf,f,Bf⟩
 cases R:Xd a with
 | none =>
  simp only[Sv,Out.on_ret,Kc];rw[br_true];exact bad
 | some l =>
  obtain⟨Y,a2⟩:=Ao7 R;simp only[Sv,Out.on_go,F9];rw[br_false];by_cases K:k=maW∧l.length=7
  ·obtain⟨u,n⟩:=K
   have c1:((k==[109,97,99,104,105,110,101])&&(ln l==7))=true:=by rw[Fa];exact⟨Dk.2 u,by rw[Dk,Ao];omega⟩
   have G:IX 6 (ln l):=⟨Aa,by rw[Ao];omega⟩
   cases v:Df (Xb l) with
   | true =>
    refine⟨([111,107],Xb l,x),?_,?_,Bf,v,Bf⟩
    ·rw[Ax c0,d,c1,br_true,Akf n,bd_ret,v,Bj rfl]
    ·rw[Ax c0,d,c1,br_true,Ax G,A4m n,bd_ret,Out.on_go]
     simp only;rw[Ax n,Jr,bd_ret,v,F9,br_false,Ax n]
   | false =>
    refine⟨([63],t,x),?_,?_,Bf,f,Bf⟩
    ·rw[Ax c0,d,c1,br_true,Akf n,bd_ret,v,Bg Ah]
    ·rw[Ax c0,d,c1,br_true,Ax G,A4m n,bd_ret,Out.on_go]
     simp only;rw[Ax n,Jr,bd_ret,v,Kc,br_true]
  have c1:((k==[109,97,99,104,105,110,101])&&(ln l==7))=Az:=by
   rw[Ag5];intro h;rw[Fa,Dk,Dk,Ao] at h;exact K ⟨h.1,by have:=h.2;omega⟩
  have ask:∀ (word:List UInt8),(word=edW∨word=boW∨word=buW)→s=word→∃ r:List UInt8,Cd t x (k::a) l=some r∧Bo t x s 0=some r∧r.length≤2000:=fun word y hs=>by
   have u:k=word:=by
    have:spl 32 s=[s]:=Uv (by rw[hs];rcases y with rfl | rfl | rfl <;> decide);rw[e] at this
    injection this with F _
    rw[F,hs]
   obtain⟨r,r1,g,j⟩:=Ait f (x:=x) Aa (word:=word) (by rcases y with h | h | h <;> simp[h]) (m:=0) (Fo _);exact⟨r,j _ _ c0.2 (by rw[d,u]) (fun h=>by rw[h] at y;exact absurd y Ah),by rw[hs];exact r1,g⟩
  by_cases B:s=edW
  ·obtain⟨r,r1,g,j⟩:=ask edW (.inl rfl) B
   have w1:(s==[101,100,103,101,115])=true:=Dk.2 B;refine⟨(r,t,x),?_,?_,j,f,Bf⟩
   ·rw[Ax c0,d,c1,br_false,w1,br_true,br_true,r1,bd_ret]
   ·rw[Ax c0,d,c1,br_false,w1,Vu,Vu,br_true,g,bd_ret]
  have w1:(s==[101,100,103,101,115])=Az:=Xe B;by_cases C:s=boW
  ·obtain⟨r,r1,g,j⟩:=ask boW (.inr (.inl rfl)) C
   have w2:(s==[98,111,117,110,100])=true:=Dk.2 C;refine⟨(r,t,x),?_,?_,j,f,Bf⟩
   ·rw[Ax c0,d,c1,br_false,w1,br_false,w2,br_true,br_true,r1,bd_ret]
   ·rw[Ax c0,d,c1,br_false,w1,w2,W6,Vu,br_true,g,bd_ret]
  have w2:(s==[98,111,117,110,100])=Az:=Xe C;by_cases E:s=buW
  ·obtain⟨r,r1,g,j⟩:=ask buW (.inr (.inr rfl)) E
   have o:(s==[98,117,105,108,100])=true:=Dk.2 E;refine⟨(r,t,x),?_,?_,j,f,Bf⟩
   ·rw[Ax c0,d,c1,br_false,w1,br_false,w2,br_false,o,br_true,br_true,r1,bd_ret]
   ·rw[Ax c0,d,c1,br_false,w1,w2,o,W6,W6,br_true,g,bd_ret]
  have o:(s==[98,117,105,108,100])=Az:=Xe E;by_cases L:k=tuW∧l.length=1
  ·obtain⟨u,F⟩:=L
   have c2:((k==[116,117,114,110,115])&&(ln l==1))=true:=by rw[Fa];exact⟨Dk.2 u,by rw[Dk,Ao];omega⟩
   have I:0<ln l:=by rw[Ao];omega
   have Q:ele l 0∈l:=D9 (l:=l) (i:=0) Aa;obtain⟨r,r1,g,j⟩:=Ait f (x:=x) Aa (word:=tuW) (.inr (.inr (.inr rfl))) (m:=ele l 0) (Y _ Q).1;refine⟨(r,t,x),?_,?_,g,f,Bf⟩
   ·rw[Ax c0,d,c1,br_false,w1,br_false,w2,br_false,o,br_false,Ax c0,c2,br_true,j (k::a) l c0.2 (by rw[d];exact u) (fun _=>⟨I,rfl⟩),bd_ret]
   ·rw[Ax c0,d,c1,br_false,w1,w2,o,Si,Si,br_false,Ax c0,c2,br_true,Ax ⟨Fo _,I⟩,show Bo t x [116,117,114,110,115] (ele l 0)=some r from r1,bd_ret]
  ·have c2:((k==[116,117,114,110,115])&&(ln l==1))=Az:=by
    rw[Ag5];intro h;rw[Fa,Dk,Dk,Ao] at h;exact L ⟨h.1,by have:=h.2;omega⟩
   refine⟨([63],t,x),?_,?_,Bf,f,Bf⟩
   ·rw[Ax c0,d,c1,br_false,w1,br_false,w2,br_false,o,br_false,Ax c0,c2,br_false]
   ·rw[Ax c0,d,c1,br_false,w1,w2,o,Si,Si,br_false,Ax c0,c2,br_false]
end Go.Rd
end