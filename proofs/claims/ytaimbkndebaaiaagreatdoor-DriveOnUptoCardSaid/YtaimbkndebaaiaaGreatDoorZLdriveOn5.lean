/- Texts for the law, 5. -/
import Derived.Test.YtaimbkndebaaiaaGreatDoorZLdriveOn4
set_option linter.unusedVariables false
set_option linter.unusedSimpArgs false
set_option maxRecDepth 8000
set_option linter.defProp false
open Decidable renaming decide→Ao
open Bool renaming false→Ay
open Go.Lib renaming hasPrefix→Og,trimPrefix→Ru
section
namespace Go.Rd
noncomputable def Ih (l:Lp) (t:Tgt) (p:Pln):((List Int)×Int)→Option (Stp ((List Int)×Int) (Empty)):=fun (b,a) =>
 br (Ao (a<(ln l.body))) (
 ck (IX a (ln l.body)) <|
 ck (IX a (ln p.times)) <|
 bd (Gr t ((ele l.body a).op)) fun c =>
 ck (IR ((ele p.times a)+c)) <|
 ck (AL (b++[((ele p.times a)+c)]).length 8) <|
 ck (IR (a+1)) <|
 some (.next ((b++[((ele p.times a)+c)]),(a+1)))) (
 some (.brk (b,a)))
noncomputable def Nw (l:Lp) (t:Tgt) (p:Pln):Option ((List Int×List Stm×List Int×Int×Int×List Int×List Int×List Int)) :=
 ck (0≤(ln l.body)) <|
 ck (AL (ln l.body).toNat 8) <|
 bd (lp (Ih l t p) ([],0)) fun a=>a.on (fun (b,c) =>
 some (l.logs,l.body,l.outs,p.pace,t.regs,p.times,b,(List.replicate (ln l.body).toNat (0:Int)))) (fun r=>r.elim)
noncomputable def Je (e:List Stm) (f:List Int) (g j:Int) (k i h:List Int) (b:Int):((List Int)×Int)→Option (Stp ((List Int)×Int) (Bool)):=fun (c,a) =>
 br (Ao (a<(b+1))) (
 ck (AL (c++[a]).length 8) <|
 bd (Lz e f g j k i h b a) fun d =>
 bdG (!(!d)) (Lz e f g j k i h a b) fun l =>
 br ((!d) || (!l)) (
 some (.ret Ay)) (
 ck (IR (a+1)) <|
 some (.next ((c++[a]),(a+1))))) (
 some (.brk (c,a)))
noncomputable def Kc (j:List Int) (b:List Stm) (c:List Int) (d f:Int) (l k e:List Int) (a:Int):Option (Bool) :=
 ck (IR (a+1)) <|
 bd (lp (Je b c d f l k e a) ([],0)) fun g=>g.on (fun (h,m) =>
 bd (L9 j b c d f e h) fun i =>
 some i) (fun r=>some r)
noncomputable def Js (b g:Int) (d c:List Int):((List Int)×Int)→Option (Stp ((List Int)×Int) (Empty)):=fun (e,a) =>
 br (Ao (a<(ln c))) (
 ck (IX a (ln c)) <|
 ck (IX a (ln d)) <|
 ck (b≠0) <|
 ck (IR (Int.tdiv (ele d a) b)) <|
 ck (IR ((ele c a) - (Int.tdiv (ele d a) b))) <|
 bd (Ja ((ele c a) - (Int.tdiv (ele d a) b)) g) fun f =>
 ck (AL (e++[f]).length 8) <|
 ck (IR (a+1)) <|
 some (.next ((e++[f]),(a+1)))) (
 some (.brk (e,a)))
noncomputable def Ms (c e:Int) (f d:List Int):Option (List Int) :=
 bd (lp (Js c e f d) ([],0)) fun a=>a.on (fun (b,g) =>
 some b) (fun r=>r.elim)
noncomputable def Ff (f:List Int) (e:List Stm) (g:List Int) (h c:Int) (j i:List Int) (b:Int):(List Int)→Option (Stp ((List Int)) (Bool×List Int)):=fun a =>
 bd (Kc f e g h c j i a b) fun d =>
 br (!d) (
 ck (IX b (ln a)) <|
 ck (IR ((ele a b)+1)) <|
 br (Ao (((ele a b)+1)≥c)) (
 some (.ret (Ay,a))) (
 ck (IX b (ln a)) <|
 ck (IR ((ele a b)+1)) <|
 ck (IX b (ln a)) <|
 some (.next (upd a b ((ele a b)+1))))) (
 some (.brk a))
noncomputable def K5 (f:List Int) (c:List Stm) (g:List Int) (h j:Int) (k i:List Int):((List Int)×Int)→Option (Stp ((List Int)×Int) (Bool×List Int)):=fun (b,a) =>
 br (Ao (a<(ln c))) (
 ck (IX a (ln b)) <|
 bd (lp (Ff f c g h j k i a) (upd b a 0)) fun d=>d.on (fun e =>
 ck (IR (a+1)) <|
 some (.next (e,(a+1)))) (fun r=>some (.ret r))) (
 some (.brk (b,a)))
noncomputable def Mr (d:List Int) (c:List Stm) (e:List Int) (f i:Int) (j h g:List Int):Option (Bool×List Int) :=
 bd (lp (K5 d c e f i j h) (g,0)) fun a=>a.on (fun (b,k) =>
 some (true,b)) (fun r=>some r)
noncomputable def Ig (c:List Stm):((List Int)×Int)→Option (Stp ((List Int)×Int) (Empty)):=fun (b,a) =>
 br (Ao (a<(ln c))) (
 ck (IR (5 * a)) <|
 ck (IX a (ln b)) <|
 ck (IR (a+1)) <|
 some (.next ((upd b a (5 * a)),(a+1)))) (
 some (.brk (b,a)))
noncomputable def G0 (e:List Int) (c:List Stm) (f:List Int) (g i:Int) (j h b:List Int):Int→Option (Stp (Int) (Bool×List Int)):=fun a =>
 br (Ao (a<(ln c))) (
 bd (Kc e c f g i j h b a) fun d =>
 br (!d) (
 some (.ret (Ay,b))) (
 ck (IR (a+1)) <|
 some (.next (a+1)))) (
 some (.brk a))
noncomputable def K4 (e:List Int) (b:List Stm) (f:List Int) (g j:Int) (k i h:List Int):Option (Bool×List Int) :=
 bd (lp (Ig b) (h,0)) fun c=>c.on (fun (a,l) =>
 bd (lp (G0 e b f g j k i a) 0) fun d=>d.on (fun m =>
 some (true,a)) (fun r=>some r)) (fun r=>r.elim)
noncomputable def Ot (l:Lp) (t:Tgt) (p:Pln):Option (List Int×Int) :=
 bd (K3 l t p) fun e =>
 br (!e) (
 some ([],2)) (
 bd (Nw l t p) fun a =>
 bd (Mr a.1 a.2.1 a.2.2.1 a.2.2.2.1 a.2.2.2.2.1 a.2.2.2.2.2.1 a.2.2.2.2.2.2.1 a.2.2.2.2.2.2.2) fun b =>
 br (!b.1) (
 bd (K4 a.1 a.2.1 a.2.2.1 a.2.2.2.1 a.2.2.2.2.1 a.2.2.2.2.2.1 a.2.2.2.2.2.2.1 b.2) fun c =>
 br (b.1 || c.1) (
 bd (Ms a.2.2.2.1 a.2.2.2.2.1 a.2.2.2.2.2.1 c.2) fun d =>
 some (d,0)) (
 some ([],1))) (
 br (b.1 || false) (
 bd (Ms a.2.2.2.1 a.2.2.2.2.1 a.2.2.2.2.2.1 b.2) fun f =>
 some (f,0)) (
 some ([],1))))
def G7 (n:Nat):List Int:=(List.range n).map fun i:Nat=>(i:Int)
theorem Abz {n:Nat}{x:Int} (h:x∈G7 n):0≤x∧x<n:=by
 unfold G7 at h;rw[Iv] at h;obtain⟨i,hi,rfl⟩:=h;have:=Ux.1 hi;omega
theorem O9 (n:Nat):(G7 n).length=n:=by unfold G7;simp
def LayD.wp (y:LayD) (v:List Int):LayD:={ y with places:=v }
def Wl (y:LayD) (k:Nat):Prop:=(∀ m:Nat,m<k+1→Oa y k m∧Oa y m k)∧O7 y (G7 (k+1))
def Afc (y:LayD):Prop:=(∀ a m:Nat,a<y.body.length→m<y.body.length→Oa y a m)∧O7 y (G7 y.body.length)
theorem Ayg {y:LayD} (c:y.Ok) {k:Nat} (d:k<y.body.length):Kc y.logs y.body y.outs y.pace y.regs y.time y.ready y.places k=some (tb (Wl y k)):=by
 have l:=c.n;unfold Kc;rw[Av Aa Aa]
 have X:=Ll (f:=Je y.body y.outs y.pace y.regs y.time y.ready y.places k) (ρ:=Bool) (fun i=>(G7 i,(i:Int))) (k+1) (fun m=>Oa y k m∧Oa y m k) (fun _=>Ay) (fun i hi _=>by
  unfold Je;simp only;have e:G7 i++[(i:Int)]=G7 (i+1):=rm_succ (g:=fun i:Nat=>(i:Int));rw[Ce Aa,e,Au (AL8 (by rw[O9];omega)),Ams c d (show i<y.body.length from Aa),bd_ret,Ams c (show i<y.body.length from Aa) d,On];by_cases a:Oa y k i <;> by_cases b:Oa y i k
  ·rw[Dm a,Dm b]
   exact⟨fun _=>by rw[show ((!true) || (!(if (!(!true))=true then true else Ay)))=Ay from rfl,br_false,Av Aa Aa];rfl,fun h=>absurd ⟨a,b⟩ h⟩
  ·rw[Dm a,Cw b]
   exact⟨fun h=>absurd h.2 b,fun _=>rfl⟩
  ·rw[Cw a]
   exact⟨fun h=>absurd h.1 a,fun _=>rfl⟩
  ·rw[Cw a]
   exact⟨fun h=>absurd h.1 a,fun _=>rfl⟩) (by unfold Je;exact Ch Aa)
 rcases X with ⟨a,e⟩ | ⟨i,a,b,_,e⟩
 ·rw[show lp (Je y.body y.outs y.pace y.regs y.time y.ready y.places k) ([],0)=_ from e,bd_ret,Out.on_go]
  simp only;rw[Aoy c (fun x j=>by have:=Abz j;omega) (by rw[O9];omega),bd_ret];congr 1;exact Hh ⟨fun h=>⟨a,h⟩,fun h=>h.2⟩
 ·rw[show lp (Je y.body y.outs y.pace y.regs y.time y.ready y.places k) ([],0)=_ from e,bd_ret,Out.on_ret,Cw fun h:Wl y k=>b (h.1 i a)]
structure PlOk (y:LayD) (v:List Int):Prop where
 len:v.length=y.body.length
 bd:∀ i:Nat,i<y.body.length→0≤ele v (i:Int)∧ele v (i:Int)≤128
theorem LayD.Ok.wp {y:LayD} (a:y.Ok) {v:List Int} (b:PlOk y v):(y.wp v).Ok :=
 ⟨a.n,a.lt,a.lr,b.len,a.lo,a.pace,a.regs,a.tm,a.rd,fun i hi=>by have:=b.bd i hi;exact⟨by show -100000≤ele v _;omega,by show ele v _≤100000;omega⟩,a.us⟩
theorem A6a {y:LayD}{v w:List Int}{a m j:Int} (h:Akm (y.wp v) a m j):Akm (y.wp w) a m j:=by
 rcases h with ⟨k,r,b,c,d,e⟩ | h
 ·exact .inl ⟨k,r,b,c,d,e⟩
 ·exact .inr h
theorem Apy {y:LayD}{v w:List Int}{a m:Nat} (b:ele v (a:Int)=ele w (a:Int)) (c:ele v (m:Int)=ele w (m:Int)) (h:Oa (y.wp v) a m):Oa (y.wp w) a m:=fun j e f d =>
 h j e (by show (ele v (m:Int)+j - ele v (a:Int)) % y.regs=0;rw[b,c];exact f) (A6a d)
theorem Ax0 {y:LayD}{v:List Int} (a:PlOk y v) {k:Nat} (f:k<y.body.length) {c:Int} (b:0≤c) (d:c≤128):PlOk y (upd v k c):=by
 refine⟨by rw[Al1];exact a.len,fun i hi=>?_⟩;by_cases e:i=k
 ·subst e
  rw[Abl ⟨Aa,by unfold ln;have:=a.len;omega⟩];exact⟨b,d⟩
 ·rw[Vu Aa];exact a.bd i hi
theorem Ajv {y:LayD} (j:y.Ok) {v:List Int} (f:PlOk y v) {k:Nat} (i:k<y.body.length):∀ (d c:Nat),(c:Int)+d+1=y.regs →
  (∃ a:Nat,a≤128∧lp (Ff y.logs y.body y.outs y.pace y.regs y.time y.ready k) (upd v k (c:Int))=some (.go (upd v k (a:Int)))∧Wl (y.wp (upd v k (a:Int))) k)∨(∃ g,lp (Ff y.logs y.body y.outs y.pace y.regs y.time y.ready k) (upd v k (c:Int))=some (.ret (Ay,g))∧PlOk y g)
 | d,c,hd=>by
  have r:=j.regs;have o:=Ax0 f i (c:=c) Aa Aa;have n:IX (k:Int) (ln v):=⟨Aa,by unfold ln;have:=f.len;omega⟩;have e:IX (k:Int) (ln (upd v k (c:Int))):=⟨Aa,by unfold ln;rw[Al1];have:=f.len;omega⟩;have h:Kc y.logs y.body y.outs y.pace y.regs y.time y.ready (upd v k (c:Int)) k=some (tb (Wl (y.wp (upd v k (c:Int))) k)):=Ayg (j.wp o) i;by_cases b:Wl (y.wp (upd v k (c:Int))) k
  ·refine .inl ⟨c,Aa,C2 ?_,b⟩
   unfold Ff;rw[h,bd_ret,Dm b];rfl
  ·match d,hd with
   | 0,hd =>
    refine .inr ⟨upd v k (c:Int),Hk ?_,o⟩;unfold Ff;rw[h,bd_ret,Cw b,Jz,br_true,Au e,Abl n,Av Aa Aa,Ce Aa]
   | d+1,hd =>
    have p:Ff y.logs y.body y.outs y.pace y.regs y.time y.ready k (upd v k (c:Int))=some (.next (upd v k ((c+1:Nat):Int))):=by
     unfold Ff;rw[h,bd_ret,Cw b,Jz,br_true,Au e,Abl n,Av Aa Aa,Ch Aa,Au e,Av Aa Aa,Au e,A1m];rfl
    rcases Ajv j f i d (c+1) Aa with ⟨a,l,m,q⟩ | ⟨g,l,m⟩
    ·exact .inl ⟨a,l,Bz p m,q⟩
    ·exact .inr ⟨g,Bz p l,m⟩
theorem A2p {y:LayD} (j:y.Ok) (x:PlOk y y.places):∃ b v,Mr y.logs y.body y.outs y.pace y.regs y.time y.ready y.places=some (b,v)∧PlOk y v∧(b=true→Afc (y.wp v)):=by
 have C:=j.n;have B:=j.regs
 have X:=A16 (f:=K5 y.logs y.body y.outs y.pace y.regs y.time y.ready) (n:=y.body.length) (fun i v=>PlOk y v∧(∀ a m:Nat,a<i→m<i→Oa (y.wp v) a m)∧O7 (y.wp v) (G7 i)) (fun r=>r.1=Ay∧PlOk y r.2) (fun i v hi t=>by
  obtain⟨c,d,l⟩:=t;have u:IX (i:Int) (ln v):=⟨Aa,by unfold ln;have:=c.len;omega⟩;unfold K5;simp only;rw[Ce (by unfold ln;omega),Au u];rcases Ajv j c hi (y.regs - 1).toNat 0 Aa with ⟨o,w1,w2,k⟩ | ⟨A,w1,w2⟩
  ·refine .inl ⟨upd v i (o:Int),?_,Ax0 c hi Aa Aa,fun a m s w=>?_,k.2⟩
   ·rw[show lp (Ff y.logs y.body y.outs y.pace y.regs y.time y.ready i) (upd v i 0)=_ from w2,bd_ret,Out.on_go,Av Aa Aa]
   ·by_cases p:a=i
    ·subst p;exact(k.1 m w).1
    ·by_cases q:m=i
     ·subst q;exact(k.1 a s).2
     ·exact Apy (Vu Aa).symm (Vu Aa).symm (d a m Aa Aa)
  ·exact .inr ⟨(Ay,A),by rw[show lp (Ff y.logs y.body y.outs y.pace y.regs y.time y.ready i) (upd v i 0)=_ from w1,bd_ret,Out.on_ret],rfl,w2⟩) (fun g=>by unfold K5;exact Ch (by unfold ln;omega)) y.places ⟨x,fun a m h=>absurd h (Q2 _),by unfold O7 G7 Q9;simp⟩
 unfold Mr;rcases X with ⟨v,e,c,d,l⟩ | ⟨⟨b,v⟩,e,c,d⟩
 ·exact⟨true,v,by rw[e,bd_ret,Out.on_go],c,fun _=>⟨d,l⟩⟩
 ·exact⟨b,v,by rw[e,bd_ret,Out.on_ret],d,fun h=>by
   have z:b=Ay:=c
   rw[z] at h;cases h⟩
def spV (n:Nat):List Int:=(List.range n).map fun i:Nat=>5 * (i:Int)
theorem Anq {y:LayD} (a:y.Ok):PlOk y (spV y.body.length):=by
 have b:=a.n;exact⟨by unfold spV;simp,fun i hi=>by rw[show ele (spV y.body.length) (i:Int)=5 * (i:Int) from H7 hi];omega⟩
theorem Ay5 {y:LayD} (g:y.Ok) (r:PlOk y y.places):∃ b,K4 y.logs y.body y.outs y.pace y.regs y.time y.ready y.places=some (b,spV y.body.length)∧(b=true↔∀ k,k<y.body.length→Wl (y.wp (spV y.body.length)) k):=by
 have s:=g.n
 have l:y.places=(List.range y.body.length).map fun j:Nat=>if j<0 then 5 * (j:Int) else ele y.places (j:Int):=by
  conv=>lhs;rw[←Adh y.places,r.len]
  exact J4 fun j d=>by rw[Bb Aa]
 have m:spV y.body.length=(List.range y.body.length).map fun j:Nat=>if j<y.body.length then 5 * (j:Int) else ele y.places (j:Int):=J4 fun j d=>by rw[Bg d]
 have X:=Gy (f:=Ig y.body) (ρ:=Empty) (fun i=>((List.range y.body.length).map fun j:Nat=>if j<i then 5 * (j:Int) else ele y.places (j:Int),(i:Int))) y.body.length (fun i hi=>by
  unfold Ig;simp only;rw[Ce (by unfold ln;omega),Av Aa Aa,A7 Aa (by rw[Ad8];omega),Av Aa Aa,Z8 hi];refine congrArg some (congrArg Stp.next (Prod.ext (J4 fun j d=>?_) rfl));by_cases a:j=i
  ·subst a;rw[Bg rfl,Bg Aa]
  ·rw[Bb a]
   by_cases b:j<i
   ·rw[Bg b,Bg Aa]
   ·rw[Bb b,Bb Aa]) (by unfold Ig;exact Ch (by unfold ln;omega))
 unfold K4
 have X':lp (Ig y.body) (y.places,0)=some (.go (spV y.body.length,(y.body.length:Int))):=by
  rw[m]
  conv=>lhs;rw[l]
  exact X
 rw[X',bd_ret,Out.on_go];simp only
 have Y:=Ll (f:=G0 y.logs y.body y.outs y.pace y.regs y.time y.ready (spV y.body.length)) (fun i=>(i:Int)) y.body.length (fun k=>Wl (y.wp (spV y.body.length)) k) (fun _=>(Ay,spV y.body.length)) (fun k q _=>by
  have p:Kc y.logs y.body y.outs y.pace y.regs y.time y.ready (spV y.body.length) k=some (tb (Wl (y.wp (spV y.body.length)) k)):=Ayg (g.wp (Anq g)) q;unfold G0;rw[Ce (by unfold ln;omega),p,bd_ret]
  exact⟨fun h=>by rw[Dm h,F0,br_false,Av Aa Aa];rfl,fun h=>by rw[Cw h,Jz,br_true]⟩) (by unfold G0;exact Ch (by unfold ln;omega))
 rcases Y with ⟨c,e⟩ | ⟨k,c,o,_,e⟩
 ·exact⟨true,by rw[show lp (G0 y.logs y.body y.outs y.pace y.regs y.time y.ready (spV y.body.length)) 0=_ from e,bd_ret,Out.on_go],⟨fun _=>c,fun _=>rfl⟩⟩
 ·exact⟨Ay,by rw[show lp (G0 y.logs y.body y.outs y.pace y.regs y.time y.ready (spV y.body.length)) 0=_ from e,bd_ret,Out.on_ret],⟨fun h=>(by cases h),fun h=>absurd (h k c) o⟩⟩
theorem Ase {y:LayD} (e:y.Ok) (h:∀ k,k<y.body.length→Wl y k):Afc y:=by
 have f:=e.n;refine⟨fun a m b d=>?_,?_⟩
 ·by_cases c:m≤a
  ·exact((h a b).1 m Aa).1
  ·exact((h m d).1 a Aa).2
 ·have:=(h (y.body.length - 1) Aa).2
  rw[show y.body.length - 1+1=y.body.length from Aa] at this;exact this
def Ac3 (l:Lp) (t:Tgt) (p:Pln):List Int:=(List.range l.body.length).map fun i:Nat=>ele p.times (i:Int)+E4 t (ele l.body (i:Int)).op
def Lo (l:Lp) (t:Tgt) (p:Pln):LayD:=⟨l.logs,l.body,l.outs,p.pace,t.regs,p.times,Ac3 l t p,List.replicate l.body.length 0⟩
theorem A1z {n i:Nat} (hi:i<n):ele (List.replicate n (0:Int)) (i:Int)=0:=by rw[C7,Dy];simp[Aa5,hi]
theorem Amg {l:Lp}{t:Tgt}{p:Pln} (h:LegalP l t p):(Lo l t p).Ok∧PlOk (Lo l t p) (Lo l t p).places:=by
 have d:=h.tgt;rw[Fq] at d;have b:PlOk (Lo l t p) (Lo l t p).places:=⟨by show (List.replicate _ _).length=l.body.length;simp,fun i hi=>by rw[show ele (Lo l t p).places (i:Int)=0 from A1z hi];omega⟩;refine⟨⟨⟨h.loop.2.1,h.loop.2.2.1⟩,h.len,by show (Ac3 l t p).length=_;unfold Ac3;simp;rfl,b.len,by have:=T4 h.loop;show l.outs.length≤_;omega,h.pace,d.2.2.2,fun i hi=>h.rng i hi,fun i hi=>?_,fun i hi=>?_,fun i hi r f=>?_⟩,b⟩
 ·have a:=h.rng i hi
  have g:=Tx t (ele l.body (i:Int)).op;unfold Wt at a;rw[show ele (Lo l t p).ready (i:Int)=ele p.times (i:Int)+E4 t (ele l.body (i:Int)).op from H7 hi];omega
 ·have:=b.bd i hi;omega
 ·have e:i<l.body.length:=hi
  have a:=Abh h.loop e f;have c:=a.st Aa;exact⟨c.1,c.2,a.1,a.2.1⟩
def Rz (t:Tgt) (p:Pln) (n:Nat) (v:List Int):List Int:=(List.range n).map fun i:Nat=>(ele v (i:Int) - Fj p i) % t.regs
theorem At0 {l:Lp}{t:Tgt}{p:Pln} (h:LegalP l t p) {v:List Int} (a:PlOk (Lo l t p) v):Ms p.pace t.regs p.times v=some (Rz t p l.body.length v):=by
 have c:=h.tgt;rw[Fq] at c;have g:=h.loop.2.2.1;have e:=h.len;have j:v.length=l.body.length:=a.len;have b:=h.pace
 have X:=Gy (f:=Js p.pace t.regs p.times v) (ρ:=Empty) (fun i=>((List.range i).map fun i:Nat=>(ele v (i:Int) - Fj p i) % t.regs,(i:Int))) l.body.length (fun i hi=>by
  have hs:=Aab b (h.rng i hi);have d:=a.bd i hi;unfold Fj at hs;unfold Js;simp only;rw[Ce (by unfold ln;omega),A7 Aa (by unfold ln;omega),A7 Aa (by unfold ln;omega),Au Aa,Av Aa Aa,Av Aa Aa,Abn Aa Aa,bd_ret,Au (AL8 (by simp;omega)),Av Aa Aa,show (ele v (i:Int) - Int.tdiv (ele p.times (i:Int)) p.pace) % t.regs=(fun i:Nat=>(ele v (i:Int) - Fj p i) % t.regs) i from rfl,rm_succ]
  rfl) (by unfold Js;exact Ch (by unfold ln;omega))
 unfold Ms;rw[show lp (Js p.pace t.regs p.times v) ([],0)=_ from X,bd_ret,Out.on_go];rfl
theorem Az0 {l:Lp}{t:Tgt}{p:Pln} (h:LegalP l t p):Nw l t p=some (l.logs,l.body,l.outs,p.pace,t.regs,p.times,Ac3 l t p,List.replicate l.body.length 0):=by
 have c:=h.loop.2.2.1;have b:=h.len
 have X:=Gy (f:=Ih l t p) (ρ:=Empty) (fun i=>((List.range i).map fun i:Nat=>ele p.times (i:Int)+E4 t (ele l.body (i:Int)).op,(i:Int))) l.body.length (fun i hi=>by
  have a:=h.rng i hi;have d:=Tx t (ele l.body (i:Int)).op;unfold Wt at a;unfold Ih;simp only;rw[Ce (by unfold ln;omega),A7 Aa (by unfold ln;omega),A7 Aa (by unfold ln;omega),Nu,bd_ret,Av Aa Aa,Au (AL8 (by simp;omega)),Av Aa Aa,rm_succ (g:=fun i:Nat=>ele p.times (i:Int)+E4 t (ele l.body (i:Int)).op)]
  rfl) (by unfold Ih;exact Ch (by unfold ln;omega))
 unfold Nw;rw[Au (Avq _),Au (AL8 (by unfold ln;omega)),show lp (Ih l t p) ([],0)=_ from X,bd_ret,Out.on_go];simp only[ln,Iw];rfl
theorem Arl {l:Lp}{t:Tgt}{p:Pln} (n:l.Fine) (h:LegalP l t p):(∃ v,PlOk (Lo l t p) v∧Afc ((Lo l t p).wp v)∧Ot l t p=some (Rz t p l.body.length v,0))∨(Ot l t p=some ([],1)∧¬∀ k,k<l.body.length→Wl ((Lo l t p).wp (spV l.body.length)) k):=by
 obtain⟨a,q⟩:=Amg h;obtain⟨b,v,f,c,i⟩:=A2p a q;have g:Mr l.logs l.body l.outs p.pace t.regs p.times (Ac3 l t p) (List.replicate l.body.length 0)=some (b,v):=f;unfold Ot;rw[Auf n,bd_ret,Dm h,F0,br_false,Az0 h,bd_ret];simp only;rw[g,bd_ret];simp only
 cases b with
 | true=>exact .inl ⟨v,c,i rfl,by rw[F0,br_false,Uw,br_true,At0 h c,bd_ret]⟩
 | false =>
  have r:=a.wp c;obtain⟨d,j,e⟩:=Ay5 r ⟨c.len,c.bd⟩;have m:K4 l.logs l.body l.outs p.pace t.regs p.times (Ac3 l t p) v=some (d,spV l.body.length):=j;rw[Jz,br_true,m,bd_ret];simp only
  cases d with
  | true =>
   refine .inl ⟨spV l.body.length,Anq a,Ase (a.wp (Anq a)) (e.1 rfl),?_⟩;rw[Afw,br_true,At0 h (v:=spV l.body.length) (Anq a),bd_ret]
  | false =>
   refine .inr ⟨by rw[Rt,br_false],fun o=>?_⟩;have:=e.2 o
   cases this
def D5 (k:Krn) (order:List Int) (s:Nat):Opr:=ele k.ops (ele order (s:Int))
def Wg (k:Krn) (o:Opr):Int:=o.slot+k.pace * o.stage
def Qe (t:Tgt) (k:Krn) (order:List Int) (s:Nat):Off:=⟨Wg k (D5 k order s),Wg k (D5 k order s)+E4 t (D5 k order s).op,(D5 k order s).dest+(D5 k order s).stage⟩
def Co (l:Lp) (t:Tgt) (k:Krn) (order:List Int):LayD :=
 ⟨l.logs,l.body,l.outs,k.pace,t.regs,(List.range l.body.length).map fun s=>(Qe t k order s).time,(List.range l.body.length).map fun s=>(Qe t k order s).ready,(List.range l.body.length).map fun s=>(Qe t k order s).place⟩
def Afr (o:Opr) (x:Stm):Prop:=o.op=x.op∧o.ar=x.ar∧o.sp=x.sp∧o.pl=x.pl∧o.n=x.n
def Aw2 (l:Lp) (k:Krn) (order:List Int) (s:Nat):Prop:=(0≤ele order (s:Int)∧ele order (s:Int)<l.body.length)∧(∀ i,i<s→ele order (i:Int)≠ele order (s:Int))∧Afr (D5 k order s) (ele l.body (s:Int))
structure LayP (l:Lp) (t:Tgt) (k:Krn) (order:List Int):Prop where
 loop:LoopOk l
 tgt:C4 t=true
 may:KMayP t k l.logs
 n:k.ops.length=l.body.length
 no:order.length=l.body.length
 ord:∀ s,s<l.body.length→Aw2 l k order s
def Aeb (l:Lp) (k:Krn):Prop:=∀ i:Nat,i<k.ops.length→(lpO l.logs (ele k.ops (i:Int))).Fine
theorem Xs {l:Lp}{t:Tgt}{k:Krn}{order:List Int} (a:KMayP t k l.logs) (b:k.ops.length=l.body.length) {s:Nat} (h:0≤ele order (s:Int)∧ele order (s:Int)<l.body.length):Uq t k (D5 k order s) l.logs:=by
 obtain⟨i,hi⟩:=H6 h.1;unfold D5;rw[hi];exact a.one i Aa
theorem Aac {t:Tgt}{k:Krn}{o:Opr}{logs:List Int} (a:KMayP t k logs) (h:Uq t k o logs):(0≤Wg k o∧Wg k o≤1000)∧(0≤k.pace * o.stage∧k.pace * o.stage≤1000)∧(0≤o.dest∧o.dest<128)∧(0≤o.stage∧o.stage≤1000):=by
 obtain⟨⟨c,a2,a3,a4,a5⟩,⟨b1,b2,_⟩,_⟩:=h;have b:=a.tgt;rw[Fq] at b;have f:=a.pace;have hs:=a.stages;have d:=Afz (show 0≤k.pace from Aa) a3;have e:=W7 o.stage k.pace;unfold Wg;omega
theorem Vg {l:Lp}{t:Tgt}{k:Krn}{order:List Int} (h:LayP l t k order):(Co l t k order).Ok:=by
 have e:=h.tgt;rw[Fq] at e;refine⟨⟨h.loop.2.1,h.loop.2.2.1⟩,by unfold Co;simp,by unfold Co;simp,by unfold Co;simp,by have:=T4 h.loop;show l.outs.length≤_;omega,h.may.pace,e.2.2.2,fun i hi=>?_,fun i hi=>?_,fun i hi=>?_,fun i hi r f=>?_⟩
 all_goals have a:i<l.body.length:=hi
 ·have c:=Aac h.may (Xs h.may h.n (h.ord i a).1)
  rw[show ele (Co l t k order).time (i:Int)=(Qe t k order i).time from H7 a];exact c.1
 ·have c:=Aac h.may (Xs h.may h.n (h.ord i a).1)
  have g:=Tx t (D5 k order i).op;rw[show ele (Co l t k order).ready (i:Int)=(Qe t k order i).ready from H7 a];show 0≤Wg k (D5 k order i)+E4 t (D5 k order i).op∧Wg k (D5 k order i)+E4 t (D5 k order i).op≤1006;omega
 ·have c:=Aac h.may (Xs h.may h.n (h.ord i a).1)
  rw[show ele (Co l t k order).places (i:Int)=(Qe t k order i).place from H7 a];show -100000≤(D5 k order i).dest+(D5 k order i).stage∧(D5 k order i).dest+(D5 k order i).stage≤100000;omega
 ·have b:=Abh h.loop a f
  have d:=b.st Aa;exact⟨d.1,d.2,b.1,b.2.1⟩
section
variable {l : Lp} {t : Tgt} {k : Krn} {order : List Int}
end
def Axe (o:Opr) (i:Nat):Int:=if i=1 then o.b else o.a
def Aft (l:Lp) (t:Tgt) (k:Krn) (order:List Int) (s i:Nat):Prop:=Axe (D5 k order s) i=(ele (Co l t k order).places (ele (Bk (ele l.body (s:Int))) (i:Int)).st - (ele (Bk (ele l.body (s:Int))) (i:Int)).bk - (D5 k order s).stage) % t.regs
def Ada (y:LayD) (e:Edg):Prop:=ele y.time e.fr+e.wt≤ele y.time e.tO+e.bk * y.pace
structure TakesP (l:Lp) (t:Tgt) (k:Krn) (order:List Int):Prop where
 lay:LayP l t k order
 edge:∀ e,EdgeP l t e→Ada (Co l t k order) e
 name:∀ s,s<l.body.length→∀ i,i<(Bk (ele l.body (s:Int))).length→Aft l t k order s i
 apart:∀ a m:Nat,a<l.body.length→m<l.body.length→Oa (Co l t k order) a m
 firsts:O7 (Co l t k order) (G7 l.body.length)
theorem Atp {l:Lp}{t:Tgt}{k:Krn}{order:List Int} (h:LayP l t k order):∀ s:Nat,s<l.body.length→∀ r∈Bk (ele l.body (s:Int)),0≤r.st∧r.st<l.body.length∧0≤r.bk∧r.bk≤3:=fun s hs r a=>(Vg h).us s hs r a
theorem Adi {n i:Nat} (h:i≤n):(G7 n).take i=G7 i:=by
 unfold G7;rw[←Afx,List.take_range,Nat.min_eq_left h]
theorem T7 {n i:Nat} (h:i<n):ele (G7 n) (i:Int)=i:=H7 h
theorem Ar6 {y:LayD} (n:Nat):O7 y (G7 n)↔∀ s,s<n→∀ q,q<(Tp y.body s).toNat→Rq y s q∉Q9 y (G7 s)++frA y s q:=by
 have h:=Aal (y:=y) (L:=G7 n) n (by rw[O9];exact Cf _);rw[Adi (Cf _)] at h;unfold O7;rw[h];constructor
 ·intro a s hs
  have:=a s hs;rw[T7 hs,Adi Aa] at this;exact this
 ·intro a s hs
  rw[T7 hs,Adi Aa];exact a s hs
section
variable {l : Lp} {t : Tgt} {k : Krn} {order : List Int}
end
theorem Ay0 {a b:Int} (c:0≤a) (d:1≤b):0≤Int.tmod a b∧Int.tmod a b<b:=by
 rw[Ais c];exact⟨Q3 _ Aa,Q4 _ Aa⟩
theorem Ade {p:Pln}:∀ n i:Nat,i<n→Fj p i+1≤O5 p n
 | n+1,i,h=>by
  show Fj p i+1≤max (O5 p n) (Fj p n+1);by_cases e:i=n
  ·subst e;omega
  ·have:=Ade (p:=p) n i Aa;omega
theorem Ai8 {p:Pln}{n:Nat} (h:∀ i:Nat,i<n→Fj p i≤1000):∀ k,k≤n→0≤O5 p k∧O5 p k≤1001
 | 0,_=>by show 0≤(0:Int)∧(0:Int)≤1001;omega
 | k+1,hk=>by
  have:=Ai8 h k Aa;have:=h k Aa;show 0≤max (O5 p k) (Fj p k+1)∧max (O5 p k) (Fj p k+1)≤1001;omega
theorem Ag8 {t:Tgt}{p:Pln}{n:Nat}{v:List Int}{i:Nat} (hi:i<n):ele (Rz t p n v) (i:Int)=(ele v (i:Int) - Fj p i) % t.regs:=H7 hi
theorem Aty {l:Lp}{t:Tgt}{p:Pln} (h:LegalP l t p) {v:List Int}:Abg l t p (Rz t p l.body.length v):=by
 have a:=h.tgt;rw[Fq] at a;refine⟨h,by unfold Rz;simp,fun i hi=>?_⟩;unfold Adb;rw[Ag8 hi];exact⟨Q3 _ Aa,Q4 _ Aa⟩
section
variable {l : Lp} {t : Tgt} {p : Pln} {v : List Int}
def M9 (l:Lp) (t:Tgt) (p:Pln) (v:List Int):Krn:=Ap7 l t p (Rz t p l.body.length v)
theorem Anu {i:Nat} (hi:i<l.body.length):D5 (M9 l t p v) (G7 l.body.length) i=Ane l t p (Rz t p l.body.length v) i (Bk (ele l.body (i:Int))):=by
 unfold D5;rw[T7 hi];exact H7 hi
theorem Axc {i:Nat} (hi:i<l.body.length):ele (M9 l t p v).ops (i:Int)=Ane l t p (Rz t p l.body.length v) i (Bk (ele l.body (i:Int))):=H7 hi
theorem Axs (h:LegalP l t p) {i:Nat} (hi:i<l.body.length):Int.tmod (ele p.times (i:Int)) p.pace+p.pace * Fj p i=ele p.times (i:Int)∧Fj p i * p.pace+Int.tmod (ele p.times (i:Int)) p.pace=ele p.times (i:Int):=by
 have:=Ak7 (ele p.times (i:Int)) p.pace;unfold Fj;refine⟨this,?_⟩;rw[W7];omega
theorem ab_bd (h:LegalP l t p) {i:Nat} (us:List Rf) (c:List Int):0≤(abV t p c i us).1∧(abV t p c i us).1<t.regs∧0≤(abV t p c i us).2∧(abV t p c i us).2<t.regs:=by
 have e:=h.tgt;rw[Fq] at e;have d:∀ r,0≤Akg t p c i r∧Akg t p c i r<t.regs:=fun r=>⟨Q3 _ Aa,Q4 _ Aa⟩;unfold abV;split
 ·simp only;omega
 ·rename_i a
  have:=d a;simp only;omega
 ·rename_i a b _
  have:=d a;have:=d b;simp only;omega
theorem Are (s:Stm):(Rw s.op<1→Bk s=[])∧(Rw s.op<2→(Bk s).length<2):=by
 unfold Rw Bk;by_cases h:s.op=4
 ·simp[h]
 ·by_cases a:s.op>10
  ·simp[h,a]
  ·simp[h,a]
theorem A5a (d:LoopOk l) {i:Nat} (hi:i<l.body.length) {o:Opr} (m:Afr o (ele l.body (i:Int))):LoopOk (lpO l.logs o):=by
 have hs:=d.stm i hi;rw[show l.body.getD i Stm.zero=ele l.body (i:Int) from rfl] at hs;obtain⟨r,s,u,w,x⟩:=m
 refine⟨d.1,by show 1≤2;omega,by show 2≤16;omega,d.2.2.2.1,fun j f=>by
  have:(lpO l.logs o).outs.length=0:=rfl
  omega,fun j f=>?_⟩
 have g:j=0∨j=1:=by
  have:(lpO l.logs o).body.length=2:=rfl;omega
 have e:∀ k:Int,0<k→RefOk 2 k ⟨0,0⟩:=fun k h=>⟨by show (0:Int)≤0;omega,by show (0:Int)≤3;omega,by show (0:Int)≤0;omega,fun _=>h,fun b=>absurd rfl b⟩;have c:Rf.isZero ⟨0,0⟩:=⟨rfl,rfl⟩;rcases g with rfl | rfl
 ·show Vc _ _ _ Asr
  refine⟨fun b=>?_,fun b=>?_,.inr (.inl ⟨rfl,rfl,⟨rfl,rfl,rfl⟩,c,c⟩)⟩
  ·rcases b with b | b
   ·exact absurd b Ai
   ·exact absurd b Ai
  ·exact absurd b Ai
 ·show Vc l.logs.length 2 1 (Gv o)
  refine⟨fun _=>e _ Aa,fun _=>e _ Aa,?_⟩;have a:=hs.2.2;have q:(Gv o).op=(ele l.body (i:Int)).op∧(Gv o).ar=(ele l.body (i:Int)).ar∧(Gv o).sp=(ele l.body (i:Int)).sp∧(Gv o).pl=(ele l.body (i:Int)).pl∧(Gv o).n=(ele l.body (i:Int)).n:=⟨r,s,u,w,x⟩;obtain⟨y,z,A,B,C⟩:=q;unfold Mk Lc at *;rw[y,z,A,B,C];rcases a with a | a | a | a | a
  ·exact .inl ⟨a.1,a.2.1,c,c⟩
  ·exact .inr (.inl ⟨a.1,a.2.1,a.2.2.1,c,c⟩)
  ·exact .inr (.inr (.inl ⟨a.1,a.2.1,a.2.2.1,c,c⟩))
  ·exact .inr (.inr (.inr (.inl ⟨a.1,a.2.1,a.2.2.1,c⟩)))
  ·exact .inr (.inr (.inr (.inr a)))
theorem Axz {i:Nat}{a:List Int}{us:List Rf}:Afr (Ane l t p a i us) (ele l.body (i:Int)):=⟨rfl,rfl,rfl,rfl,rfl⟩
theorem A2i (h:LegalP l t p):KMayP t (M9 l t p v) l.logs:=by
 have z:=h.loop.2.2.1;have A:=h.loop.2.1;have b:=h.pace;have r:(M9 l t p v).ops.length=l.body.length:=Amh;have w:∀ i:Nat,i<l.body.length→Fj p i≤1000:=fun i hi=>(Aab b (h.rng i hi)).2;have u:=Ai8 w l.body.length (Cf _);have C:=Ade (p:=p) l.body.length 0 Aa;have s:=(Aab b (h.rng 0 Aa)).1;have o:=Aty h (v:=v);refine⟨h.tgt,b,⟨by show 1≤O5 p l.body.length;have B:0≤Fj p (0:Nat):=s;omega,u.2⟩,Aa,fun i hi=>?_,fun i hi=>?_⟩
 ·have a:i<l.body.length:=by omega
  rw[Axc a];have hs:=Aab b (h.rng i a);have m:=h.rng i a;unfold Wt at m;have k:=Ay0 m.1 b.1;have x:=Axs h a;have y:=Ade (p:=p) l.body.length i a;have d:=o.2.2 i a;unfold Adb at d;have c:=ab_bd h (i:=i) (Bk (ele l.body (i:Int))) (Rz t p l.body.length v);have n:=Are (ele l.body (i:Int));refine⟨⟨k.1,k.2,hs.1,by show Fj p i<O5 p l.body.length;omega,by show Fj p i * p.pace+Int.tmod (ele p.times (i:Int)) p.pace≤1000;rw[x.2];omega⟩,⟨d.1,d.2,c.1,c.2.1,c.2.2.1,c.2.2.2,fun e=>?_,fun e=>?_⟩,A5a h.loop a Axz⟩
  ·show (abV t p _ i (Bk (ele l.body (i:Int)))).1=0
   rw[n.1 e];rfl
  ·show (abV t p _ i (Bk (ele l.body (i:Int)))).2=0
   have:=n.2 e
   match Bk (ele l.body (i:Int)),this with
   | [],_=>rfl
   | [_],_=>rfl
 ·have a:i<l.body.length:=by omega
  have g:∀ j,j<l.body.length→Qf (M9 l t p v) j=Hj l p j:=fun j f=>by
   unfold Qf Hj;rw[Axc f];rfl
  rw[g i a,r]
  have q:Y9 (M9 l t p v) l.body.length (Hj l p i)=Ni l p l.body.length (Hj l p i):=by
   unfold Y9 Ni;refine List.countP_congr fun j f=>?_;rw[g j (Ux.1 f)]
  rw[q];exact h.units i a
theorem A2j (h:LegalP l t p):LayP l t (M9 l t p v) (G7 l.body.length):=by
 refine⟨h.loop,h.tgt,A2i h,Amh,O9 _,fun s hs=>⟨?_,fun i hi=>?_,?_⟩⟩
 ·rw[T7 hs];omega
 ·rw[T7 hs,T7 (show i<l.body.length from Aa)];omega
 ·rw[Anu hs];exact Axz
theorem Avo {x s c R:Int}:((x - s) % R+s - c) % R=(x - c) % R:=by
 have h:=Z7 (x - s) R;rw[show (x - s) % R+s - c=(x - c) - R * ((x - s) / R) from Aa,Alc]
theorem Aae (h:LegalP l t p) {i:Nat} (hi:i<l.body.length) :
  ele (Co l t (M9 l t p v) (G7 l.body.length)).time (i:Int)=ele p.times (i:Int)∧ele (Co l t (M9 l t p v) (G7 l.body.length)).ready (i:Int)=ele p.times (i:Int)+E4 t (ele l.body (i:Int)).op ∧
  ele (Co l t (M9 l t p v) (G7 l.body.length)).places (i:Int)=(ele v (i:Int) - Fj p i) % t.regs+Fj p i:=by
 have a:=Axs h hi
 have b:(Qe t (M9 l t p v) (G7 l.body.length) i).time=ele p.times (i:Int):=by
  show Wg _ (D5 _ _ i)=_;rw[Anu hi];exact a.1
 refine⟨(H7 hi).trans b,(H7 hi).trans ?_,(H7 hi).trans ?_⟩
 ·show Wg _ (D5 _ _ i)+E4 t (D5 _ _ i).op=_
  rw[Anu hi];show Int.tmod (ele p.times (i:Int)) p.pace+p.pace * Fj p i+_=_;rw[a.1];rfl
 ·show (D5 _ _ i).dest+(D5 _ _ i).stage=_
  rw[Anu hi];show ele (Rz t p l.body.length v) (i:Int)+Fj p i=_;rw[Ag8 hi]
theorem Axf {i:Nat} (hi:i<l.body.length):ele ((Lo l t p).wp v).ready (i:Int)=ele p.times (i:Int)+E4 t (ele l.body (i:Int)).op:=H7 hi
theorem Ajm (h:LegalP l t p) (T:PlOk (Lo l t p) v) (E:Afc ((Lo l t p).wp v)):TakesP l t (M9 l t p v) (G7 l.body.length):=by
 have B:=A2j h (v:=v);have N:=h.tgt;rw[Fq] at N;refine⟨B,fun e C=>?_,fun s hs i hi=>?_,fun a m c u=>?_,?_⟩
 ·have n:=C.in h.loop
  have f:=h.edge e C;obtain⟨a,c⟩:=H6 n.tO.1;obtain⟨b,d⟩:=H6 n.fr.1;unfold Ada;unfold Aec at f
  have g:a<l.body.length:=by have:=n.tO.2;omega
  have I:b<l.body.length:=by have:=n.fr.2;omega
  rw[c,d] at f ⊢;rw[(Aae h g).1,(Aae h I).1];exact f
 ·have F:=Atp B s hs _ (Dt hi)
  obtain⟨a,c⟩:=H6 F.1
  have g:a<l.body.length:=by have:=F.2.1;omega
  unfold Aft;rw[c,(Aae h g).2.2,Anu hs]
  have M:Akg t p (Rz t p l.body.length v) s (ele (Bk (ele l.body (s:Int))) (i:Int))=((ele v (a:Int) - Fj p a) % t.regs+Fj p a - (ele (Bk (ele l.body (s:Int))) (i:Int)).bk - Fj p s) % t.regs:=by
   unfold Akg;rw[c,Ag8 g]
  rw[show (Ane l t p (Rz t p l.body.length v) s (Bk (ele l.body (s:Int)))).stage=Fj p s from rfl,←M];have L:=Oj (ele l.body (s:Int));show Axe ⟨_,_,_,_,(abV t p _ s (Bk (ele l.body (s:Int)))).1,(abV t p _ s (Bk (ele l.body (s:Int)))).2,_,_,_,_⟩ i=_;generalize Bk (ele l.body (s:Int))=us at *
  match us,L,hi with
  | [x],_,hi =>
   have:i=0:=by simp at hi;omega
   subst this;rfl
  | [x,z],_,hi =>
   have:i=0∨i=1:=by simp at hi;omega
   rcases this with rfl | rfl <;> rfl
 ·intro j K O d
  have ea:=Aae h (v:=v) c;have A:=Aae h (v:=v) u;refine E.1 a m c u j K ?_ ?_
  ·show (ele v (m:Int)+j - ele v (a:Int)) % t.regs=0
   have P:(((ele v (m:Int) - Fj p m) % t.regs+Fj p m)+j - ((ele v (a:Int) - Fj p a) % t.regs+Fj p a)) % t.regs=0:=by
    rw[←ea.2.2,←A.2.2];exact O
   have R:=Z7 (ele v (a:Int) - Fj p a) t.regs;have f:=Z7 (ele v (m:Int) - Fj p m) t.regs;rw[show ele v (m:Int)+j - ele v (a:Int)=(((ele v (m:Int) - Fj p m) % t.regs+Fj p m)+j - ((ele v (a:Int) - Fj p a) % t.regs+Fj p a)) - t.regs * ((ele v (a:Int) - Fj p a) / t.regs - (ele v (m:Int) - Fj p m) / t.regs) from by rw[Int.mul_sub];omega,Alc];exact P
  ·have G:ele ((Lo l t p).wp v).ready (a:Int)=ele (Co l t (M9 l t p v) (G7 l.body.length)).ready (a:Int):=(Axf c).trans ea.2.1.symm
   have H:ele ((Lo l t p).wp v).ready (m:Int)=ele (Co l t (M9 l t p v) (G7 l.body.length)).ready (m:Int):=(Axf u).trans A.2.1.symm;rcases d with ⟨k,r,o,w,y,Q⟩ | ⟨o,w,y⟩
   ·refine .inl ⟨k,r,o,w,y,?_⟩
    rw[G,H,show ele ((Lo l t p).wp v).time (k:Int)=ele (Co l t (M9 l t p v) (G7 l.body.length)).time (k:Int) from (Aae h o).1.symm];exact Q
   ·refine .inr ⟨o,?_,y⟩
    rw[G,H];exact w
 ·have J:=E.2
  have e:Q9 (Co l t (M9 l t p v) (G7 l.body.length)) (G7 l.body.length)=Q9 ((Lo l t p).wp v) (G7 l.body.length):=by
   unfold Q9;refine congrArg List.flatten (Aql fun a c=>?_);have d:=Abz c;obtain⟨i,hi⟩:=H6 d.1;subst hi;refine J4 fun q S=>?_;unfold Rq;rw[(Aae h (v:=v) (show i<l.body.length from Aa)).2.2];show ((ele v (i:Int) - Fj p i) % t.regs+Fj p i - (q:Int) - 1) % t.regs=(ele v (i:Int) - (q:Int) - 1) % t.regs;rw[show (ele v (i:Int) - Fj p i) % t.regs+Fj p i - (q:Int) - 1=(ele v (i:Int) - Fj p i) % t.regs+Fj p i - ((q:Int)+1) from Aa,Avo];rw[show ele v (i:Int) - ((q:Int)+1)=ele v (i:Int) - (q:Int) - 1 from Aa]
  unfold O7;rw[e];exact J
end
theorem Aiz {t:Tgt} (a:C4 t=true) (op:Int):1≤E4 t op∧E4 t op≤6:=by
 unfold E4;rw[Bg a];rw[Fq] at a;exact Ae2 Aa Aa Aa
def A4l (l:Lp) (t:Tgt) (p:Pln):Prop:=∀ i:Nat,i<l.body.length→ele p.times (i:Int)+E4 t (ele l.body (i:Int)).op≤p.pace
theorem Apg {l:Lp}{t:Tgt}{p:Pln} (h:LegalP l t p) (a9:5 * (l.body.length:Int)≤t.regs) (J:A4l l t p):∀ k,k<l.body.length→Wl ((Lo l t p).wp (spV l.body.length)) k:=by
 have a6:=h.loop.2.2.1;have a7:=h.pace;have A:((Lo l t p).wp (spV l.body.length)).Ok:=(Amg h).1.wp (Anq (Amg h).1);have y:∀ i:Nat,i<l.body.length→ele ((Lo l t p).wp (spV l.body.length)).places (i:Int)=5 * (i:Int):=fun i hi=>H7 hi
 have L:∀ i:Nat,i<l.body.length→1≤ele ((Lo l t p).wp (spV l.body.length)).ready (i:Int)∧ele ((Lo l t p).wp (spV l.body.length)).ready (i:Int)≤p.pace:=fun i hi=>by
  rw[Axf hi];have v:=h.rng i hi;have V:=Aiz h.tgt (ele l.body (i:Int)).op;unfold Wt at v;have:=J i hi;omega
 have T:∀ i:Nat,i<l.body.length→ele ((Lo l t p).wp (spV l.body.length)).time (i:Int)<p.pace:=fun i hi=>by
  have V:=Aiz h.tgt (ele l.body (i:Int)).op;have:=J i hi;show ele p.times (i:Int)<p.pace;omega
 have F:∀ a m:Nat,a<l.body.length→m<l.body.length→Oa ((Lo l t p).wp (spV l.body.length)) a m:=fun a m o f j x P n=>by
  have b3:=L a o;have b4:=L m f;rw[y a o,y m f,show ((Lo l t p).wp (spV l.body.length)).regs=t.regs from rfl] at P;have K:((Lo l t p).wp (spV l.body.length)).pace=p.pace:=rfl
  have H:-p.pace<j * p.pace→0≤j:=fun a5=>by
   by_cases c:j<0
   ·have:=Ad4 (show j≤-1 from Aa) (show 0≤p.pace from Aa)
    omega
   ·omega
  have O:j * p.pace<4 * p.pace→j≤3:=fun U=>by
   by_cases c:4≤j
   ·have:=Ad4 c (show 0≤p.pace from Aa)
    omega
   ·omega
  have a4:0≤j∧j≤3:=by
   rcases n with ⟨k,r,C,E,a0,Q⟩ | ⟨C,E,a0⟩
   ·have U:=A.us k C r E
    have b0:=T k C;rw[K] at Q;have b1:=Ad4 (show r.bk≤3 from Aa) (show 0≤p.pace from Aa);rcases Q with ⟨X,Y⟩ | ⟨X,Y,b2⟩
    ·exact⟨H Aa,O Aa⟩
    ·exact⟨Aa,O Aa⟩
   ·rw[K] at E
    exact⟨H Aa,Aa⟩
  obtain⟨z,W⟩:=Int.dvd_of_emod_eq_zero P
  have B:z=0:=by
   by_cases c1:1≤z
   ·have:=Ad3 c1 (show 0≤t.regs from Aa)
    omega
   ·by_cases c2:z≤-1
    ·have:=Ad3 c2 (show 0≤t.regs from Aa)
     omega
    ·omega
  rw[B,Int.mul_zero] at W;rcases x with x | x <;> omega
 intro k G;refine⟨fun m f=>⟨F k m G Aa,F m k Aa G⟩,(Ar6 _).2 fun s hs q a8 S=>?_⟩;have a3:0≤Tp ((Lo l t p).wp (spV l.body.length)).body (s:Int)∧Tp ((Lo l t p).wp (spV l.body.length)).body (s:Int)≤3:=Alq A (s:Int)
 have M:∀ s q:Nat,s<l.body.length→Rq ((Lo l t p).wp (spV l.body.length)) s q=(5 * (s:Int) - q - 1) % t.regs:=fun s q hs=>by
  unfold Rq;rw[y s hs];rfl
 have I:∀ b d:Nat,b<k+1→d<3→(b≠s∨d≠q)→Rq ((Lo l t p).wp (spV l.body.length)) b d≠Rq ((Lo l t p).wp (spV l.body.length)) s q:=fun b d N u w g=>by
  rw[M b d Aa,M s q Aa] at g;have v:=Z7 (5 * (b:Int) - d - 1) t.regs;have a1:=Z7 (5 * (s:Int) - q - 1) t.regs;rw[g] at v
  have e:5 * (b:Int) - d - 1 - (5 * (s:Int) - q - 1)=t.regs * ((5 * (b:Int) - d - 1) / t.regs - (5 * (s:Int) - q - 1) / t.regs):=by rw[Int.mul_sub];omega
  generalize (5 * (b:Int) - d - 1) / t.regs - (5 * (s:Int) - q - 1) / t.regs=z at e
  have B:z=0:=by
   by_cases c1:1≤z
   ·have:=Ad3 c1 (show 0≤t.regs from Aa)
    omega
   ·by_cases c2:z≤-1
    ·have:=Ad3 c2 (show 0≤t.regs from Aa)
     omega
    ·omega
  rw[B,Int.mul_zero] at e;rcases w with w | w <;> omega
 rcases Fw.1 S with f | f
 ·unfold Q9 at f
  rw[List.mem_flatMap] at f;obtain⟨a,o,n⟩:=f;have R:=Abz o;obtain⟨b,N⟩:=H6 R.1;subst N;unfold frA at n;rw[Iv] at n;obtain⟨d,u,g⟩:=n;have a2:0≤Tp ((Lo l t p).wp (spV l.body.length)).body (b:Int)∧Tp ((Lo l t p).wp (spV l.body.length)).body (b:Int)≤3:=Alq A (b:Int);have:=Ux.1 u;exact I b d Aa Aa (.inl Aa) g
 ·unfold frA at f
  rw[Iv] at f;obtain⟨d,u,g⟩:=f;have:=Ux.1 u;exact I s d hs Aa (.inr Aa) g
theorem Azu {l:Lp} (d:l.Fine) {o:Opr} (b:InR o.op∧InR o.ar∧InR o.sp∧InR o.pl∧InR o.n):(lpO l.logs o).Fine:=by
 have a:InR 0:=by unfold InR;omega
 have e:InR 2:=by unfold InR;omega
 refine⟨d.rlogs,fun u c=>?_,fun u c=>(by cases c),d.llogs,by show 2≤maxLen;rw[Ej];omega,by show 0≤maxLen;omega⟩
 have f:u=Asr∨u=Gv o:=by
  rcases Gl.1 c with h | h
  ·exact .inl h
  ·exact .inr (Gx.1 h)
 rcases f with rfl | rfl
 ·exact⟨e,a,a,a,a,a,a,a,a⟩
 ·exact⟨b.1,a,a,a,a,b.2.1,b.2.2.1,b.2.2.2.1,b.2.2.2.2⟩
theorem Ajn {l:Lp} (a:l.Fine) {t:Tgt}{p:Pln}{v:List Int}:Aeb l (M9 l t p v):=fun i hi=>by
 have b:i<l.body.length:=by rw[show (M9 l t p v).ops.length=l.body.length from Amh] at hi;exact hi
 rw[Axc b];have hs:=a.rbody _ (Dt b);obtain⟨c,_,_,_,_,d,e,f,g⟩:=hs;exact Azu a ⟨c,d,e,f,g⟩
noncomputable def Dw (l:Lp) (t:Tgt) (d:Krn) (order:List Int):((List Int)×(List Int)×(List Int)×(List (Int×Bool))×Int)→Option (Stp ((List Int)×(List Int)×(List Int)×(List (Int×Bool))×Int) (Option Qr×Bool)):=fun (i,h,g,f,c) =>
 br (Ao (c<(ln order))) (
 ck (IX c (ln order)) <|
 br (((Ao ((ele order c)<0)) || (Ao ((ele order c)≥(ln d.ops)))) || (Fp f (ele order c) Ay)) (
 some (.ret (none,Ay))) (
 ck (IX (ele order c) (ln d.ops)) <|
 ck (IX c (ln l.body)) <|
 bd (K6 (ele d.ops (ele order c))) fun e =>
 br (!([e.op,e.a.st,e.a.bk,e.b.st,e.b.bk,e.ar,e.sp,e.pl,e.n]==[(ele l.body c).op,0,0,0,0,(ele l.body c).ar,(ele l.body c).sp,(ele l.body c).pl,(ele l.body c).n])) (
 some (.ret (none,Ay))) (
 bd (Gs d (ele d.ops (ele order c))) fun m =>
 ck (AL (g++[m]).length 8) <|
 bd (Gs d (ele d.ops (ele order c))) fun j =>
 bd (Gr t ((ele d.ops (ele order c)).op)) fun k =>
 ck (IR (j+k)) <|
 ck (AL (h++[(j+k)]).length 8) <|
 ck (IR ((ele d.ops (ele order c)).dest+(ele d.ops (ele order c)).stage)) <|
 ck (AL (i++[((ele d.ops (ele order c)).dest+(ele d.ops (ele order c)).stage)]).length 8) <|
 ck (IR (c+1)) <|
 some (.next ((i++[((ele d.ops (ele order c)).dest+(ele d.ops (ele order c)).stage)]),(h++[(j+k)]),(g++[m]),(N4 f (ele order c) true),(c+1)))))) (
 some (.brk (i,h,g,f,c)))
noncomputable def Mf (l:Lp) (t:Tgt) (a:Krn) (order:List Int):Option (Option Qr×Bool) :=
 bd (Ib l) fun b =>
 bdG (!(!b)) (Kn t a l.logs) fun g =>
 br ((((!b) || (!g)) || ((ln a.ops) != (ln l.body))) || ((ln order) != (ln l.body))) (
 some (none,Ay)) (
 bd (lp (Dw l t a order) ([],[],[],([]:List (Int×Bool)),0)) fun c=>c.on (fun (f,e,d,h,i) =>
 some ((some (l.logs,l.body,l.outs,a.pace,t.regs,d,e,f)),true)) (fun r=>some r))
noncomputable def G4 (t:Tgt) (e:Krn) (order g:List Int) (f:Int) (d:List Rf):Int→Option (Stp (Int) (Bool)):=fun c =>
 br (Ao (c<(ln d))) (
 ck (IX c (ln d)) <|
 ck (IX c 2) <|
 ck (IX ((ele d c).st) (ln g)) <|
 ck (IR ((ele g ((ele d c).st)) - (ele d c).bk)) <|
 ck (IR (((ele g ((ele d c).st)) - (ele d c).bk) - (ele e.ops (ele order f)).stage)) <|
 bd (Ja (((ele g ((ele d c).st)) - (ele d c).bk) - (ele e.ops (ele order f)).stage) t.regs) fun h =>
 br ((ele ([(ele e.ops (ele order f)).a,(ele e.ops (ele order f)).b]:List Int) c) != h) (
 some (.ret Ay)) (
 ck (IR (c+1)) <|
 some (.next (c+1)))) (
 some (.brk c))
noncomputable def G5 (l:Lp) (t:Tgt) (b:Krn) (order e:List Int):Int→Option (Stp (Int) (Bool)):=fun a =>
 br (Ao (a<(ln l.body))) (
 ck (IX a (ln l.body)) <|
 ck (IX a (ln order)) <|
 ck (IX (ele order a) (ln b.ops)) <|
 bd (E9 (ele l.body a)) fun d =>
 bd (lp (G4 t b order e a d) 0) fun c=>c.on (fun f =>
 ck (IR (a+1)) <|
 some (.next (a+1))) (fun r=>some (.ret r))) (
 some (.brk a))
noncomputable def K9 (l:Lp) (t:Tgt) (a:Krn) (order:List Int) (e f:Int) (c:List Int):Option (Bool) :=
 bd (lp (G5 l t a order c) 0) fun b=>b.on (fun d =>
 some true) (fun r=>some r)
noncomputable def F2 (d:Krn) (c:Qr) (b:List Edg×Int):Int→Option (Stp (Int) (Option Qr×Bool)):=fun a =>
 br (Ao (a<(ln b.1))) (
 ck (IX a (ln b.1)) <|
 ck (IX ((ele b.1 a).tO) (ln c.2.2.2.2.2.1)) <|
 ck (IR ((ele b.1 a).bk * d.pace)) <|
 ck (IR ((ele c.2.2.2.2.2.1 ((ele b.1 a).tO))+((ele b.1 a).bk * d.pace))) <|
 ck (IX ((ele b.1 a).fr) (ln c.2.2.2.2.2.1)) <|
 ck (IR ((ele c.2.2.2.2.2.1 ((ele b.1 a).fr))+(ele b.1 a).wt)) <|
 br (Ao (((ele c.2.2.2.2.2.1 ((ele b.1 a).tO))+((ele b.1 a).bk * d.pace))<((ele c.2.2.2.2.2.1 ((ele b.1 a).fr))+(ele b.1 a).wt))) (
 some (.ret (none,Ay))) (
 ck (IR (a+1)) <|
 some (.next (a+1)))) (
 some (.brk a))
noncomputable def G2 (l:Lp) (a:Qr) (d:Int):Int→Option (Stp (Int) (Option Qr×Bool)):=fun b =>
 br (Ao (b<(ln l.body))) (
 bd (Lz a.2.1 a.2.2.1 a.2.2.2.1 a.2.2.2.2.1 a.2.2.2.2.2.1 a.2.2.2.2.2.2.1 a.2.2.2.2.2.2.2 d b) fun c =>
 br (!c) (
 some (.ret (none,Ay))) (
 ck (IR (b+1)) <|
 some (.next (b+1)))) (
 some (.brk b))
noncomputable def G3 (l:Lp) (d:Qr):((List Int)×Int)→Option (Stp ((List Int)×Int) (Option Qr×Bool)):=fun (b,a) =>
 br (Ao (a<(ln l.body))) (
 ck (AL (b++[a]).length 8) <|
 bd (lp (G2 l d a) 0) fun c=>c.on (fun e =>
 ck (IR (a+1)) <|
 some (.next ((b++[a]),(a+1)))) (fun r=>some (.ret r))) (
 some (.brk (b,a)))
noncomputable def Jw (l:Lp) (t:Tgt) (c:Krn) (order:List Int):Option (Option Qr×Bool) :=
 bd (Mf l t c order) fun b =>
 Aax b.1 (
 ck (b.2=Ay) <|
 ck ((!(!Ay))=true→False) <|
 some (none,Ay)) fun a =>
 bdG (!(!b.2)) (K9 l t c order a.2.2.2.1 a.2.2.2.2.1 a.2.2.2.2.2.2.2) fun g =>
 br ((!b.2) || (!g)) (
 some (none,Ay)) (
 bd (Fa l t) fun h =>
 bd (lp (F2 c a h) 0) fun d=>d.on (fun j =>
 bd (lp (G3 l a) ([],0)) fun e=>e.on (fun (f,k) =>
 bd (L9 a.1 a.2.1 a.2.2.1 a.2.2.2.1 a.2.2.2.2.1 a.2.2.2.2.2.2.2 f) fun i =>
 some ((some (a.1,a.2.1,a.2.2.1,a.2.2.2.1,a.2.2.2.2.1,a.2.2.2.2.2.1,a.2.2.2.2.2.2.1,a.2.2.2.2.2.2.2)),i)) (fun r=>some r)) (fun r=>some r))
noncomputable def Nz (l:Lp) (t:Tgt) (b:Krn) (order:List Int):Option (Bool) :=
 bd (Jw l t b order) fun a =>
 Aax a.1 (
 ck (a.2=Ay) <|
 some Ay) fun c =>
 some a.2
def J3 (y:LayD):Qr:=(y.logs,y.body,y.outs,y.pace,y.regs,y.time,y.ready,y.places)
theorem A1r {t:Tgt}{k:Krn}{o:Opr}{logs:List Int} (a:KMayP t k logs) (h:Uq t k o logs):Gs k o=some (Wg k o):=by
 have b:=Aac a h;unfold Wg at *;have e:=W7 o.stage k.pace;have hs:=h.1;unfold Axn at hs;unfold Gs;rw[Av Aa Aa,Av Aa Aa];congr 1;omega
theorem Avk {l:Lp} (I:l.Fine) {t:Tgt}{k:Krn}{order:List Int} (K:Aeb l k) (Q:order.length≤9223372036854775807):Mf l t k order=some (if tb (LayP l t k order)=true then (some (J3 (Co l t k order)),true) else (none,Ay)):=by
 unfold Mf;rw[Afu l I,bd_ret,Ax2 K,On];by_cases h:LoopOk l∧KMayP t k l.logs∧k.ops.length=l.body.length∧order.length=l.body.length
 ·obtain⟨f,c,r,u⟩:=h
  have P:=f.2.2.1;rw[Dm f,Dm c,show ((((!true) || (!(if (!(!true))=true then true else Ay))) || ((ln k.ops) != (ln l.body))) || ((ln order) != (ln l.body)))=Ay from by unfold ln;simp[r,u],br_false]
  have key:∀ d s:Nat,s+d=l.body.length→(∀ j,j<s→Aw2 l k order j)→∀ m:List (Int×Bool),(∀ v,Fp m v Ay=true↔∃ j,j<s∧ele order (j:Int)=v) →
    ((∀ j,j<l.body.length→Aw2 l k order j)∧∃ m',lp (Dw l t k order) ((List.range s).map (fun i=>(Qe t k order i).place),(List.range s).map (fun i=>(Qe t k order i).ready),(List.range s).map (fun i=>(Qe t k order i).time),m,(s:Int)) =
     some (.go ((List.range l.body.length).map (fun i=>(Qe t k order i).place),(List.range l.body.length).map (fun i=>(Qe t k order i).ready),(List.range l.body.length).map (fun i=>(Qe t k order i).time),m',(l.body.length:Int)))) ∨
    (¬(∀ j,j<l.body.length→Aw2 l k order j)∧lp (Dw l t k order) ((List.range s).map (fun i=>(Qe t k order i).place),(List.range s).map (fun i=>(Qe t k order i).ready),(List.range s).map (fun i=>(Qe t k order i).time),m,(s:Int))=some (.ret (none,Ay))):=by
   intro d
   induction d with
   | zero =>
    intro s hs B m y;have:s=l.body.length:=Aa;subst this;exact .inl ⟨B,m,C2 (by unfold Dw;exact Ch (by unfold ln;omega))⟩
   | succ d O =>
    intro s hs B m y;have C:s<l.body.length:=Aa;have A:IX (s:Int) (ln order):=⟨Aa,by unfold ln;omega⟩;by_cases c1:0≤ele order (s:Int)∧ele order (s:Int)<l.body.length
    ·have F:=Xs c r c1
     have R:=Aac c F;have S:=Tx t (D5 k order s).op;have J:IX (ele order (s:Int)) (ln k.ops):=⟨c1.1,by unfold ln;omega⟩;by_cases c2:∀ i,i<s→ele order (i:Int)≠ele order (s:Int)
     ·have L:Fp m (ele order (s:Int)) Ay=Ay:=by
       cases z:Fp m (ele order (s:Int)) Ay with
       | false=>rfl
       | true =>
        obtain⟨j,o,g⟩:=(y _).1 z;exact absurd g (c2 j o)
      have H:(!([(Gv (D5 k order s)).op,(Gv (D5 k order s)).a.st,(Gv (D5 k order s)).a.bk,(Gv (D5 k order s)).b.st,(Gv (D5 k order s)).b.bk,(Gv (D5 k order s)).ar,(Gv (D5 k order s)).sp,(Gv (D5 k order s)).pl,(Gv (D5 k order s)).n]==[(ele l.body (s:Int)).op,0,0,0,0,(ele l.body (s:Int)).ar,(ele l.body (s:Int)).sp,(ele l.body (s:Int)).pl,(ele l.body (s:Int)).n]))=!tb (Afr (D5 k order s) (ele l.body (s:Int))):=by
       congr 1;exact Ls (by unfold Afr Gv;simp)
      have w:Dw l t k order ((List.range s).map (fun i=>(Qe t k order i).place),(List.range s).map (fun i=>(Qe t k order i).ready),(List.range s).map (fun i=>(Qe t k order i).time),m,(s:Int))=br (!tb (Afr (D5 k order s) (ele l.body (s:Int)))) (some (.ret (none,Ay))) (some (.next ((List.range (s+1)).map (fun i=>(Qe t k order i).place),(List.range (s+1)).map (fun i=>(Qe t k order i).ready),(List.range (s+1)).map (fun i=>(Qe t k order i).time),N4 m (ele order (s:Int)) true,((s+1:Nat):Int)))):=by
       unfold Dw;simp only;rw[Ce (by unfold ln;omega),Au A,show ((Ao (ele order (s:Int)<0) || Ao (ele order (s:Int)≥ln k.ops)) || Fp m (ele order (s:Int)) Ay)=Ay from by rw[L];unfold ln;simp;omega,br_false,Au J,A7 Aa (by unfold ln;omega)];rw[show ele k.ops (ele order (s:Int))=D5 k order s from rfl,show K6 (D5 k order s)=some (Gv (D5 k order s)) from rfl,bd_ret,H,A1r c F];simp only[bd_ret];rw[Au (AL8 (by simp;omega)),Nu,bd_ret,Av Aa Aa,Au (AL8 (by simp;omega)),Av Aa Aa,Au (AL8 (by simp;omega)),Av Aa Aa];rw[show Wg k (D5 k order s)=(fun i=>(Qe t k order i).time) s from rfl,show (fun i=>(Qe t k order i).time) s+E4 t (D5 k order s).op=(fun i=>(Qe t k order i).ready) s from rfl,show (D5 k order s).dest+(D5 k order s).stage=(fun i=>(Qe t k order i).place) s from rfl,rm_succ,rm_succ,rm_succ];rfl
      by_cases c3:Afr (D5 k order s) (ele l.body (s:Int))
      ·rw[Dm c3,F0,br_false] at w
       have N:∀ j,j<s+1→Aw2 l k order j:=fun j o=>by
        by_cases e:j=s
        ·subst e;exact⟨c1,c2,c3⟩
        ·exact B j Aa
       rcases O (s+1) Aa N (N4 m (ele order (s:Int)) true) (fun v=>by
        rw[Ol];by_cases e:ele order (s:Int)=v
        ·rw[Bg e];exact⟨fun _=>⟨s,Aa,e⟩,fun _=>rfl⟩
        ·rw[Bb e,y]
         constructor
         ·rintro⟨j,o,g⟩;exact⟨j,Aa,g⟩
         ·rintro⟨j,o,g⟩
          by_cases G:j=s
          ·subst G;exact absurd g e
          ·exact⟨j,Aa,g⟩) with ⟨q,m',E⟩ | ⟨q,E⟩
       ·exact .inl ⟨q,m',Bz w E⟩
       ·exact .inr ⟨q,Bz w E⟩
      ·rw[Cw c3] at w
       exact .inr ⟨fun h=>c3 (h s C).2.2,Hk w⟩
     ·have M:Fp m (ele order (s:Int)) Ay=true:=by
       refine(y _).2 ?_;refine Classical.byContradiction fun z=>c2 fun i hi g=>z ⟨i,hi,g⟩
      refine .inr ⟨fun h=>c2 (h s C).2.1,Hk ?_⟩;unfold Dw;simp only;rw[Ce (by unfold ln;omega),Au A,M,Afw,br_true]
    ·refine .inr ⟨fun h=>c1 (h s C).1,Hk ?_⟩
     unfold Dw;simp only
     rw[Ce (by unfold ln;omega),Au A,show ((Ao (ele order (s:Int)<0) || Ao (ele order (s:Int)≥ln k.ops)) || Fp m (ele order (s:Int)) Ay)=true from by
      unfold ln
      rw[Wd,Wd,H4,H4];omega,br_true]
  rcases key l.body.length 0 Aa (fun j o=>absurd o (Q2 _)) [] (fun v=>⟨fun h=>(by cases h),fun ⟨j,o,_⟩=>absurd o (Q2 _)⟩) with ⟨q,m',e⟩ | ⟨q,e⟩
  ·rw[show lp (Dw l t k order) ([],[],[],([]:List (Int×Bool)),0)=_ from e,bd_ret,Out.on_go,Dm (p:=LayP l t k order) ⟨f,c.tgt,c,r,u,q⟩]
   rfl
  ·rw[show lp (Dw l t k order) ([],[],[],([]:List (Int×Bool)),0)=_ from e,bd_ret,Out.on_ret,Cw fun h:LayP l t k order=>q h.ord]
   rfl
 ·rw[Cw fun x:LayP l t k order=>h ⟨x.loop,x.may,x.n,x.no⟩]
  by_cases f:LoopOk l
  ·by_cases c:KMayP t k l.logs
   ·rw[Dm f,Dm c,show ((((!true) || (!(if (!(!true))=true then true else Ay))) || ((ln k.ops) != (ln l.body))) || ((ln order) != (ln l.body)))=true from by
     unfold ln;by_cases r:k.ops.length=l.body.length
     ·have u:¬order.length=l.body.length:=fun u=>h ⟨f,c,r,u⟩
      simp;omega
     ·simp;omega,br_true]
    rfl
   ·rw[Dm f,Cw c];rfl
  ·rw[Cw f];rfl
section
variable {l : Lp} {t : Tgt} {k : Krn} {order : List Int}
def Ab4 (l:Lp) (t:Tgt) (k:Krn) (order:List Int):Prop:=∀ s,s<l.body.length→∀ i,i<(Bk (ele l.body (s:Int))).length→Aft l t k order s i
theorem A13 (h:LayP l t k order):K9 l t k order (Co l t k order).pace (Co l t k order).regs (Co l t k order).places=some (tb (Ab4 l t k order)):=by
 have j:=Vg h;have B:=h.loop.2.2.1;have x:=j.regs;have A:=j.lp;have y:(Co l t k order).body.length=l.body.length:=rfl;have C:=h.no;have v:=h.n;unfold K9
 have X:=Ll (f:=G5 l t k order (Co l t k order).places) (ρ:=Bool) (fun s=>(s:Int)) l.body.length (fun s=>∀ i,i<(Bk (ele l.body (s:Int))).length→Aft l t k order s i) (fun _=>Ay) (fun s hs _=>by
  have g:=h.ord s hs;have E:=Aac h.may (Xs h.may h.n g.1);have z:=Oj (ele l.body (s:Int));unfold G5;rw[Ce (by unfold ln;omega),A7 Aa (by unfold ln;omega),A7 Aa (by unfold ln;omega),A7 g.1.1 (by unfold ln;rw[v];exact g.1.2),Aai,bd_ret]
  rcases Ll (f:=G4 t k order (Co l t k order).places s (Bk (ele l.body (s:Int)))) (ρ:=Bool) (fun i=>(i:Int)) (Bk (ele l.body (s:Int))).length (fun i=>Aft l t k order s i) (fun _=>Ay) (fun i hi _=>by
    have q:=Atp h s hs _ (Dt hi);obtain⟨a,o⟩:=H6 q.1
    have r:a<l.body.length:=by have:=q.2.1;omega
    have pa:=j.pl a r;unfold G4;rw[Ce (by unfold ln;omega),A7 Aa (by unfold ln;omega),A7 Aa Aa,o,A7 Aa (by unfold ln;omega),Av Aa Aa];rw[show ele k.ops (ele order (s:Int))=D5 k order s from rfl,Av Aa Aa,Abn (by show 1≤(Co l t k order).regs;omega) (by show (Co l t k order).regs≤128;omega),bd_ret]
    have u:ele ([(D5 k order s).a,(D5 k order s).b]:List Int) (i:Int)=Axe (D5 k order s) i:=by
     obtain c | c:i=0∨i=1:=Aa
     all_goals subst c;rfl
    have w:(ele ([(D5 k order s).a,(D5 k order s).b]:List Int) (i:Int) != (ele (Co l t k order).places (a:Int) - (ele (Bk (ele l.body (s:Int))) (i:Int)).bk - (D5 k order s).stage) % t.regs)=!tb (Aft l t k order s i):=by
     unfold Aft;rw[u,o,neB]
    rw[w]
    exact⟨fun h=>by rw[Dm h,F0,br_false,Av Aa Aa];rfl,fun h=>by rw[Cw h,Jz,br_true]⟩) (by unfold G4;exact Ch (by unfold ln;omega)) with ⟨d,e⟩ | ⟨i,d,m,_,e⟩
  ·rw[show lp (G4 t k order (Co l t k order).places s (Bk (ele l.body (s:Int)))) 0=_ from e,bd_ret,Out.on_go,Av Aa Aa]
   exact⟨fun _=>rfl,fun h=>absurd d h⟩
  ·rw[show lp (G4 t k order (Co l t k order).places s (Bk (ele l.body (s:Int)))) 0=_ from e,bd_ret,Out.on_ret]
   exact⟨fun h=>absurd (h i d) m,fun _=>rfl⟩) (by unfold G5;exact Ch (by unfold ln;omega))
 rcases X with ⟨d,e⟩ | ⟨s,d,m,_,e⟩
 ·rw[show lp (G5 l t k order (Co l t k order).places) 0=_ from e,bd_ret,Out.on_go,Dm (p:=Ab4 l t k order) d]
 ·rw[show lp (G5 l t k order (Co l t k order).places) 0=_ from e,bd_ret,Out.on_ret,Cw fun h:Ab4 l t k order=>m (h s d)]
end
section
variable {l : Lp} {t : Tgt} {k : Krn} {order : List Int}
theorem Ag0 (y:l.Fine) (I:Aeb l k) (K:order.length≤9223372036854775807):∃ r,Jw l t k order=some (r,tb (TakesP l t k order))∧(TakesP l t k order→r=some (J3 (Co l t k order))):=by
 unfold Jw;rw[Avk y I K,bd_ret];by_cases h:LayP l t k order
 ·rw[Dm h,Bg rfl]
  show ∃ r,(Aax (some (J3 (Co l t k order))) _ _)=_∧_;unfold Aax;simp only;have J:=A13 h;rw[show (!(!((some (J3 (Co l t k order)),true):Option Qr×Bool).2))=true from rfl,bdG_t,show K9 l t k order (J3 (Co l t k order)).2.2.2.1 (J3 (Co l t k order)).2.2.2.2.1 (J3 (Co l t k order)).2.2.2.2.2.2.2=_ from J,bd_ret];by_cases q:Ab4 l t k order
  ·rw[Dm q,show ((!((some (J3 (Co l t k order)),true):Option Qr×Bool).2) || (!true))=Ay from rfl,br_false]
   obtain⟨E,z,P,Q,s,R⟩:=Sh h.loop y h.tgt;have p:=Vg h;have W:=h.may.pace;have V:=h.loop.2.2.1;have U:=p.lt;have T:(Co l t k order).body.length=l.body.length:=rfl;rw[z,bd_ret]
   rcases Ll (f:=F2 k (J3 (Co l t k order)) (E,0)) (ρ:=Option Qr×Bool) (fun i=>(i:Int)) E.length (fun i=>Ada (Co l t k order) (ele E (i:Int))) (fun _=>(none,Ay)) (fun i hi _=>by
     have n:=((s _).1 (Dt hi)).in h.loop;obtain⟨a,j⟩:=H6 n.tO.1;obtain⟨b,w⟩:=H6 n.fr.1
     have C:a<l.body.length:=by have:=n.tO.2;omega
     have G:b<l.body.length:=by have:=n.fr.2;omega
     have a1:=p.tm a C;have a2:=p.tm b G;have S:=n.bk;have Y:=n.wt;have a0:=R4 (a:=(ele E (i:Int)).bk) (A:=32) (b:=k.pace) (B:=200) Aa Aa Aa Aa
     have e:F2 k (J3 (Co l t k order)) (E,0) i=br (!tb (Ada (Co l t k order) (ele E (i:Int)))) (some (.ret (none,Ay))) (some (.next ((i:Int)+1))):=by
      unfold F2;simp only;rw[show (J3 (Co l t k order)).2.2.2.2.2.1=(Co l t k order).time from rfl];rw[Ce (by unfold ln;omega),A7 Aa (by unfold ln;omega),j,w,A7 Aa (by unfold ln;omega),Av Aa Aa,Av Aa Aa,A7 Aa (by unfold ln;omega),Av Aa Aa,Av Aa Aa];congr 1
      have:(!Ao (ele (Co l t k order).time (a:Int)+(ele E (i:Int)).bk * k.pace<ele (Co l t k order).time (b:Int)+(ele E (i:Int)).wt))=tb (Ada (Co l t k order) (ele E (i:Int))):=Ls (by
       unfold Ada;rw[j,w,show (Co l t k order).pace=k.pace from rfl]
       simp)
      rw[←this,Acn]
     rw[e]
     exact⟨fun h=>by rw[Dm h];rfl,fun h=>by rw[Cw h];rfl⟩) (by unfold F2;exact Ch (by show ¬((E.length:Int)<ln E);unfold ln;omega)) with ⟨u,w1⟩ | ⟨i,u,N,_,w1⟩
   ·rw[show lp (F2 k (J3 (Co l t k order)) (E,0)) 0=_ from w1,bd_ret,Out.on_go]
    have X:=Ll (f:=G3 l (J3 (Co l t k order))) (ρ:=Option Qr×Bool) (fun a=>(G7 a,(a:Int))) l.body.length (fun a=>∀ m:Nat,m<l.body.length→Oa (Co l t k order) a m) (fun _=>(none,Ay)) (fun a j _=>by
     unfold G3;simp only;rw[Ce (by unfold ln;omega),show G7 a++[(a:Int)]=G7 (a+1) from rm_succ (g:=fun i:Nat=>(i:Int)),Au (AL8 (by rw[O9];omega))]
     rcases Ll (f:=G2 l (J3 (Co l t k order)) a) (ρ:=Option Qr×Bool) (fun i=>(i:Int)) l.body.length (fun m=>Oa (Co l t k order) a m) (fun _=>(none,Ay)) (fun m o _=>by
       have F:=Ams p j o;unfold G2;rw[Ce (by unfold ln;omega),show Lz (J3 (Co l t k order)).2.1 (J3 (Co l t k order)).2.2.1 (J3 (Co l t k order)).2.2.2.1 (J3 (Co l t k order)).2.2.2.2.1 (J3 (Co l t k order)).2.2.2.2.2.1 (J3 (Co l t k order)).2.2.2.2.2.2.1 (J3 (Co l t k order)).2.2.2.2.2.2.2 a m=_ from F,bd_ret]
       exact⟨fun h=>by rw[Dm h,F0,br_false,Av Aa Aa];rfl,fun h=>by rw[Cw h,Jz,br_true]⟩) (by unfold G2;exact Ch (by unfold ln;omega)) with ⟨w1,e⟩ | ⟨m,w1,w2,_,e⟩
     ·rw[show lp (G2 l (J3 (Co l t k order)) a) 0=_ from e,bd_ret,Out.on_go,Av Aa Aa]
      exact⟨fun _=>rfl,fun h=>absurd w1 h⟩
     ·rw[show lp (G2 l (J3 (Co l t k order)) a) 0=_ from e,bd_ret,Out.on_ret]
      exact⟨fun h=>absurd (h m w1) w2,fun _=>rfl⟩) (by unfold G3;exact Ch (by unfold ln;omega))
    rcases X with ⟨v,w2⟩ | ⟨a,v,O,_,w2⟩
    ·rw[show lp (G3 l (J3 (Co l t k order))) ([],0)=_ from w2,bd_ret,Out.on_go]
     simp only;have H:=Aoy p (L:=G7 l.body.length) (fun x M=>by have:=Abz M;omega) (by rw[O9];omega);rw[show L9 (J3 (Co l t k order)).1 (J3 (Co l t k order)).2.1 (J3 (Co l t k order)).2.2.1 (J3 (Co l t k order)).2.2.2.1 (J3 (Co l t k order)).2.2.2.2.1 (J3 (Co l t k order)).2.2.2.2.2.2.2 (G7 l.body.length)=_ from H,bd_ret];refine⟨_,congrArg some (Prod.ext rfl ?_),fun _=>rfl⟩;exact Hh ⟨fun c=>⟨h,(Adq s).1 u,q,fun a m j o=>v a j m o,c⟩,fun c=>c.firsts⟩
    ·rw[show lp (G3 l (J3 (Co l t k order))) ([],0)=_ from w2,bd_ret,Out.on_ret]
     have d:¬TakesP l t k order:=fun c=>O fun m o=>c.apart a m v o;exact⟨none,by rw[Cw d],fun c=>absurd c d⟩
   ·rw[show lp (F2 k (J3 (Co l t k order)) (E,0)) 0=_ from w1,bd_ret,Out.on_ret]
    have d:¬TakesP l t k order:=fun c=>N (c.edge _ ((s _).1 (Dt u)));exact⟨none,by rw[Cw d],fun c=>absurd c d⟩
  ·have d:¬TakesP l t k order:=fun c=>q c.name
   rw[Cw q,show ((!((some (J3 (Co l t k order)),true):Option Qr×Bool).2) || (!Ay))=true from rfl,br_true];exact⟨none,by rw[Cw d],fun c=>absurd c d⟩
 ·have d:¬TakesP l t k order:=fun c=>h c.lay
  rw[Cw h,Bb Ai];refine⟨none,?_,fun c=>absurd c d⟩;rw[Cw d];unfold Aax;simp only;rw[Au trivial,Au Ai]
theorem Avi (a:l.Fine) (b:Aeb l k) (c:order.length≤9223372036854775807):Nz l t k order=some (tb (TakesP l t k order)):=by
 obtain⟨r,e,d⟩:=Ag0 (t:=t) a b c;unfold Nz;rw[e,bd_ret];by_cases h:TakesP l t k order
 ·rw[d h];rfl
 ·rw[Cw h]
  unfold Aax
  cases r with
  | none=>simp only;rw[Au trivial]
  | some y=>rfl
end
noncomputable def Hd (d:Int) (e:List (List Int)) (b:Int):((List (List Int))×Int)→Option (Stp ((List (List Int))×Int) (Empty)):=fun (c,a) =>
 br (Ao (a<(ln (ele (upd e b (List.replicate d.toNat (0:Int))) b)))) (
 ck (IX b (ln c)) <|
 ck (IX a (ln (ele c b))) <|
 ck (IR (a+1)) <|
 some (.next ((updG c b a (-1099511627776)),(a+1)))) (
 some (.brk (c,a)))
noncomputable def He (b:Int):((List (List Int))×Int)→Option (Stp ((List (List Int))×Int) (Empty)):=fun (c,a) =>
 br (Ao (a<(ln (List.replicate b.toNat ([]:List Int))))) (
 ck (0≤b) <|
 ck (AL b.toNat 8) <|
 ck (IX a (ln c)) <|
 ck (IX a (ln (upd c a (List.replicate b.toNat (0:Int))))) <|
 bd (lp (Hd b c a) ((upd c a (List.replicate b.toNat (0:Int))),0)) fun d=>d.on (fun (e,f) =>
 ck (IR (a+1)) <|
 some (.next (e,(a+1)))) (fun r=>r.elim)) (
 some (.brk (c,a)))
noncomputable def Hc (b:List Edg) (pace:Int):((List (List Int))×Int)→Option (Stp ((List (List Int))×Int) (Empty)):=fun (c,a) =>
 br (Ao (a<(ln b))) (
 ck (IX a (ln b)) <|
 ck (IX ((ele b a).fr) (ln c)) <|
 ck (IX ((ele b a).fr) (ln c)) <|
 ck (IX ((ele b a).tO) (ln (ele c ((ele b a).fr)))) <|
 ck (IR (pace * (ele b a).bk)) <|
 ck (IR ((ele b a).wt - (pace * (ele b a).bk))) <|
 ck (IX ((ele b a).tO) (ln (ele c ((ele b a).fr)))) <|
 ck (IR (a+1)) <|
 some (.next ((updG c ((ele b a).fr) ((ele b a).tO) (max (ele (ele c ((ele b a).fr)) ((ele b a).tO)) ((ele b a).wt - (pace * (ele b a).bk)))),(a+1)))) (
 some (.brk (c,a)))
noncomputable def Gi (e d b:Int):((List (List Int))×Int)→Option (Stp ((List (List Int))×Int) (Empty)):=fun (a,c) =>
 br (Ao (c<e)) (
 ck (IX b (ln a)) <|
 ck (IX d (ln (ele a b))) <|
 ck ((Ao ((ele (ele a b) d)>(-1099511627776)))=true→IX d (ln a)) <|
 ck ((Ao ((ele (ele a b) d)>(-1099511627776)))=true→IX c (ln (ele a d))) <|
 br ((Ao ((ele (ele a b) d)>(-1099511627776)))&&(Ao ((ele (ele a d) c)>(-1099511627776)))) (
 ck (IX b (ln a)) <|
 ck (IX b (ln a)) <|
 ck (IX c (ln (ele a b))) <|
 ck (IX b (ln a)) <|
 ck (IX d (ln (ele a b))) <|
 ck (IX d (ln a)) <|
 ck (IX c (ln (ele a d))) <|
 ck (IR ((ele (ele a b) d)+(ele (ele a d) c))) <|
 ck (IX c (ln (ele a b))) <|
 ck (IR (c+1)) <|
 some (.next ((updG a b c (max (ele (ele a b) c) (min ((ele (ele a b) d)+(ele (ele a d) c)) 1048576))),(c+1)))) (
 ck (IR (c+1)) <|
 some (.next (a,(c+1))))) (
 some (.brk (a,c)))
noncomputable def Ha (b f:Int):((List (List Int))×Int)→Option (Stp ((List (List Int))×Int) (Empty)):=fun (c,a) =>
 br (Ao (a<b)) (
 bd (lp (Gi b f a) (c,0)) fun d=>d.on (fun (e,g) =>
 ck (IR (a+1)) <|
 some (.next (e,(a+1)))) (fun r=>r.elim)) (
 some (.brk (c,a)))
noncomputable def Hb (b:Int):((List (List Int))×Int)→Option (Stp ((List (List Int))×Int) (Empty)):=fun (c,a) =>
 br (Ao (a<b)) (
 bd (lp (Ha b a) (c,0)) fun d=>d.on (fun (e,f) =>
 ck (IR (a+1)) <|
 some (.next (e,(a+1)))) (fun r=>r.elim)) (
 some (.brk (c,a)))
noncomputable def Hy (c:Int) (b:List (List Int)):Int→Option (Stp (Int) (Bool)):=fun a =>
 br (Ao (a<c)) (
 ck (IX a (ln b)) <|
 ck (IX a (ln (ele b a))) <|
 br (Ao ((ele (ele b a) a)>0)) (
 some (.ret Ay)) (
 ck (IR (a+1)) <|
 some (.next (a+1)))) (
 some (.brk a))
noncomputable def Mh (a:Int) (b:List Edg) (pace:Int):Option (Bool) :=
 ck (0≤a) <|
 ck (AL a.toNat 24) <|
 bd (lp (He a) ((List.replicate a.toNat ([]:List Int)),0)) fun c=>c.on (fun (h,k) =>
 bd (lp (Hc b pace) (h,0)) fun d=>d.on (fun (i,l) =>
 bd (lp (Hb a) (i,0)) fun e=>e.on (fun (g,m) =>
 bd (lp (Hy a g) 0) fun f=>f.on (fun j =>
 some true) (fun r=>some r)) (fun r=>r.elim)) (fun r=>r.elim)) (fun r=>r.elim)
noncomputable def Iq (l:Lp):((List Int)×Int)→Option (Stp ((List Int)×Int) (Empty)):=fun (b,c) =>
 br (Ao (c<(ln l.body))) (
 ck (IX c (ln l.body)) <|
 bd (E8 ((ele l.body c).op)) fun a =>
 ck (IX a 3) <|
 ck (IX a (ln b)) <|
 ck (IR ((ele b a)+1)) <|
 ck (IX a 3) <|
 ck (IX a (ln b)) <|
 ck (IR (c+1)) <|
 some (.next ((upd b a ((ele b a)+1)),(c+1)))) (
 some (.brk (b,c)))
noncomputable def Ip (t:Tgt) (b:List Int):(Int×Int)→Option (Stp (Int×Int) (Empty)):=fun (c,a) =>
 br (Ao (a<3)) (
 ck (IX a 3) <|
 ck (IX a 3) <|
 ck (IR ((ele b a)+(Cq t.u0 t.u1 t.u2 a))) <|
 ck (IR (((ele b a)+(Cq t.u0 t.u1 t.u2 a)) - 1)) <|
 ck (IX a 3) <|
 ck ((Cq t.u0 t.u1 t.u2 a)≠0) <|
 ck (IR (Int.tdiv (((ele b a)+(Cq t.u0 t.u1 t.u2 a)) - 1) (Cq t.u0 t.u1 t.u2 a))) <|
 ck (IR (a+1)) <|
 some (.next ((max c (Int.tdiv (((ele b a)+(Cq t.u0 t.u1 t.u2 a)) - 1) (Cq t.u0 t.u1 t.u2 a))),(a+1)))) (
 some (.brk (c,a)))
noncomputable def Mi (l:Lp) (c:List Edg×Int):Int→Option (Stp (Int) (Empty)):=fun a =>
 bd (Mh (ln l.body) c.1 a) fun b =>
 br (!b) (
 ck (IR (a+1)) <|
 some (.next (a+1))) (
 some (.brk a))
noncomputable def Jx (l:Lp) (t:Tgt):Option (Int×Int×Int) :=
 bd (Fa l t) fun a =>
 br (a.2 != 0) (
 some (0,0,a.2)) (
 bd (lp (Iq l) (([0,0,0]:List Int),0)) fun d=>d.on (fun (b,h) =>
 ck (b.length=3) <|
 bd (lp (Ip t b) (1,0)) fun e=>e.on (fun (g,i) =>
 bd (lp (Mi l a) 1) fun f=>f.on (fun c =>
 some (g,c,0)) (fun r=>r.elim)) (fun r=>r.elim)) (fun r=>r.elim))
def M7 (n:Nat) (f:Nat→Nat→Int):List (List Int):=(List.range n).map fun i=>(List.range n).map (f i)
def Afe (f:Nat→Nat→Int) (i j:Nat) (z:Int):Nat→Nat→Int:=fun a b=>if a=i∧b=j then z else f a b
def nev:Int:=-1099511627776
theorem Adn {n:Nat}{f:Nat→Nat→Int}{i:Nat} (hi:i<n):ele (M7 n f) (i:Int)=(List.range n).map (f i):=H7 hi
theorem Xr {n:Nat}{f:Nat→Nat→Int}{i j:Nat} (hi:i<n) (a:j<n):ele (ele (M7 n f) (i:Int)) (j:Int)=f i j:=by rw[Adn hi,H7 a]
theorem Pa {n:Nat}{f:Nat→Nat→Int}:ln (M7 n f)=n:=Ad8
theorem Mm {n:Nat}{f:Nat→Nat→Int}{i:Nat} (hi:i<n):ln (ele (M7 n f) (i:Int))=n:=by rw[Adn hi,Ad8]
theorem Ajs {n:Nat}{f:Nat→Nat→Int}{i j:Nat}{z:Int} (hi:i<n) (g:j<n):updG (M7 n f) (i:Int) (j:Int) z=M7 n (Afe f i j z):=by
 unfold updG;rw[Adn hi,Z8 g];unfold M7;rw[Z8 hi];refine J4 fun a k=>?_;by_cases e:a=i
 ·subst e
  rw[Bg rfl];refine J4 fun b d=>?_;unfold Afe;by_cases c:b=j
  ·subst c;rw[Bg rfl,Bg ⟨rfl,rfl⟩]
  ·rw[Bb c,Bb fun h=>c h.2]
 ·rw[Bb e]
  refine J4 fun b d=>?_;unfold Afe;rw[Bb fun h=>e h.1]
theorem Az6 {n:Nat} (r:n≤16) {i:Nat} (hi:i<n):lp (Hd (n:Int) ((List.range n).map fun a=>if a<i then (List.range n).map (fun _=>nev) else []) (i:Int)) ((upd ((List.range n).map fun a=>if a<i then (List.range n).map (fun _=>nev) else []) (i:Int) (List.replicate n (0:Int))),0) =
  some (.go ((List.range n).map fun a=>if a<i+1 then (List.range n).map (fun _=>nev) else [],(n:Int))):=by
 have o:(upd ((List.range n).map fun a=>if a<i then (List.range n).map (fun _=>nev) else []) (i:Int) (List.replicate n (0:Int)))=(List.range n).map fun a=>if a=i then (List.range n).map (fun b=>if b<0 then nev else 0) else if a<i then (List.range n).map (fun _=>nev) else []:=by
  rw[Z8 hi];refine J4 fun a g=>?_;by_cases e:a=i
  ·rw[Bg e,Bg e]
   apply Wx;intro k;by_cases l:k<n
   ·simp[Aa5,l]
   ·simp[Aa5,l]
  ·rw[Bb e,Bb e]
 have p:((List.range n).map fun a=>if a<i+1 then (List.range n).map (fun _=>nev) else [])=(List.range n).map fun a=>if a=i then (List.range n).map (fun b=>if b<n then nev else 0) else if a<i then (List.range n).map (fun _=>nev) else []:=by
  refine J4 fun a g=>?_;by_cases e:a=i
  ·rw[Bg Aa,Bg e]
   exact J4 fun b h=>by rw[Bg h]
  ·rw[Bb e]
   by_cases c:a<i
   ·rw[Bg Aa,Bg c]
   ·rw[Bb Aa,Bb c]
 have m:ln (ele (upd ((List.range n).map fun a=>if a<i then (List.range n).map (fun _=>nev) else []) (i:Int) (List.replicate n (0:Int))) (i:Int))=n:=by
  rw[Abl ⟨Aa,by rw[Ad8];omega⟩];unfold ln;simp
 rw[p]
 have key:=Gy (f:=Hd (n:Int) ((List.range n).map fun a=>if a<i then (List.range n).map (fun _=>nev) else []) (i:Int)) (fun j=>((List.range n).map fun a=>if a=i then (List.range n).map (fun b=>if b<j then nev else 0) else if a<i then (List.range n).map (fun _=>nev) else [],(j:Int))) n (fun j q=>by
   unfold Hd;simp only[Iw];rw[Ce (by rw[m];omega),A7 Aa (by rw[Ad8];omega),H7 hi,Bg rfl,A7 Aa (by rw[Ad8];omega),Av Aa Aa];refine congrArg some (congrArg Stp.next (Prod.ext ?_ rfl));show updG _ _ _ _=_;unfold updG;rw[H7 hi,Bg rfl,Z8 q,Z8 hi];refine J4 fun a g=>?_;by_cases e:a=i
   ·rw[Bg e,Bg e]
    refine J4 fun b h=>?_;by_cases c:b=j
    ·rw[Bg c,Bg Aa];rfl
    ·rw[Bb c]
     by_cases d:b<j
     ·rw[Bg d,Bg Aa]
     ·rw[Bb d,Bb Aa]
   ·rw[Bb e,Bb e,Bb e]) (by
   unfold Hd;simp only[Iw]
   exact Ch (by rw[m];omega))
 rw[o];exact key
theorem Avz {n:Nat} (g:n≤16):lp (He (n:Int)) (List.replicate n ([]:List Int),0)=some (.go (M7 n (fun _ _=>nev),(n:Int))):=by
 have c:List.replicate n ([]:List Int)=(List.range n).map fun a=>if a<0 then (List.range n).map (fun _=>nev) else []:=by
  apply Wx;intro k;by_cases b:k<n
  ·simp[Aa5,b]
  ·simp[Aa5,b]
 have d:M7 n (fun _ _=>nev)=(List.range n).map fun a=>if a<n then (List.range n).map (fun _=>nev) else []:=J4 fun a e=>by rw[Bg e]
 rw[c,d]
 refine Gy (f:=He (n:Int)) (fun i=>((List.range n).map fun a=>if a<i then (List.range n).map (fun _=>nev) else [],(i:Int))) n (fun i hi=>?_) (by
  unfold He;simp only[Iw]
  exact Ch (by unfold ln;simp))
 unfold He;simp only[Iw];rw[Ce (by unfold ln;simp;omega),Au Aa,Au (AL8 Aa),A7 Aa (by rw[Ad8];omega),A7 Aa (by rw[Z8 hi,Ad8];omega),Az6 g hi,bd_ret,Out.on_go,Av Aa Aa];rfl
structure InitI (E:List Edg) (pace:Int) (k:Nat) (f:Nat→Nat→Int):Prop where
 src:∀ a b:Nat,f a b=nev∨∃ e∈E,e.fr=a∧e.tO=b∧f a b=e.wt - pace * e.bk
 has:∀ i:Nat,i<k→(ele E (i:Int)).wt - pace * (ele E (i:Int)).bk≤f (ele E (i:Int)).fr.toNat (ele E (i:Int)).tO.toNat
theorem Ait {n:Nat}{e:Edg} (h:EdgeIn n e) {pace:Int} (f:1≤pace∧pace≤200):-6400≤e.wt - pace * e.bk∧e.wt - pace * e.bk≤6∧0≤pace * e.bk∧pace * e.bk≤6400:=by
 have c:=h.bk;have d:=h.wt;have g:=R4 (a:=pace) (A:=200) (b:=e.bk) (B:=32) Aa Aa Aa Aa;have i:=Afz (show 0≤pace from Aa) c.1;omega
theorem Ar3 {n:Nat}{E:List Edg} (q:∀ e∈E,EdgeIn n e) (u:E.length≤60000) {pace:Int} (s:1≤pace∧pace≤200):∃ g,lp (Hc E pace) (M7 n (fun _ _=>nev),0)=some (.go (g,(E.length:Int)))∧∃ f,g=M7 n f∧InitI E pace E.length f:=by
 refine O3 (f:=Hc E pace) (fun k g=>∃ f,g=M7 n f∧InitI E pace k f) (fun k g p r=>?_) (fun g=>by unfold Hc;exact Ch (by unfold ln;omega)) _ ⟨_,rfl,fun _ _=>.inl rfl,fun i hi=>absurd hi (Q2 _)⟩;obtain⟨f,rfl,h⟩:=r;have c:=q _ (Dt p);have v:=Ait c s;obtain⟨a,l⟩:=H6 c.fr.1;obtain⟨b,m⟩:=H6 c.tO.1
 have d:a<n:=by have:=c.fr.2;omega
 have o:b<n:=by have:=c.tO.2;omega
 unfold Hc;simp only;rw[l,m,Ce (by unfold ln;omega),A7 Aa (by unfold ln;omega),A7 Aa (by rw[Pa];omega),A7 Aa (by rw[Pa];omega),A7 Aa (by rw[Mm d];omega),Av Aa Aa,Av Aa Aa,A7 Aa (by rw[Mm d];omega),Av Aa Aa,Xr d o,Ajs d o];refine⟨_,rfl,_,rfl,fun x y=>?_,fun i hi=>?_⟩
 ·unfold Afe
  by_cases e:x=a∧y=b
  ·rw[Bg e]
   obtain⟨rfl,rfl⟩:=e;by_cases t:f x y≤(ele E (k:Int)).wt - pace * (ele E (k:Int)).bk
   ·exact .inr ⟨_,Dt p,l,m,Aa⟩
   ·rw[show max (f x y) ((ele E (k:Int)).wt - pace * (ele E (k:Int)).bk)=f x y from Aa]
    exact h.src x y
  ·rw[Bb e];exact h.src x y
 ·unfold Afe
  by_cases e:(ele E (i:Int)).fr.toNat=a∧(ele E (i:Int)).tO.toNat=b
  ·rw[Bg e]
   by_cases j:i=k
   ·subst j;omega
   ·have:=h.has i Aa
    rw[e.1,e.2] at this;omega
  ·rw[Bb e]
   by_cases j:i=k
   ·subst j;exact absurd ⟨Aa,Aa⟩ e
   ·exact h.has i Aa
def fwS (k i j:Nat) (f:Nat→Nat→Int):Nat→Nat→Int:=if f i k>nev∧f k j>nev then Afe f i j (max (f i j) (min (f i k+f k j) 1048576)) else f
theorem A5y {n:Nat} (u:n≤16) (Q:Nat→Nat→Nat→(Nat→Nat→Int)→Prop) (bd:∀ k i j f,Q k i j f→∀ a b,nev≤f a b∧f a b≤1048576) (step:∀ k i j f,k<n→i<n→j<n→Q k i j f→Q k i (j+1) (fwS k i j f))
  (ej:∀ k i f,k<n→i<n→Q k i n f→Q k (i+1) 0 f) (ei:∀ k f,k<n→Q k n 0 f→Q (k+1) 0 0 f) (q:Nat→Nat→Int) (t:Q 0 0 0 q):∃ f,lp (Hb (n:Int)) (M7 n q,0)=some (.go (M7 n f,(n:Int)))∧Q n 0 0 f:=by
 have m:∀ k i f,k<n→i<n→Q k i 0 f→∃ c,lp (Gi (n:Int) (k:Int) (i:Int)) (M7 n f,0)=some (.go (M7 n c,(n:Int)))∧Q k i n c:=by
  intro k i f d hi s
  have X:=O3 (f:=Gi (n:Int) (k:Int) (i:Int)) (n:=n) (fun j g=>∃ f,g=M7 n f∧Q k i j f) (fun j g m p=>by
   obtain⟨f,rfl,l⟩:=p;have b1:=bd _ _ _ _ l i k;have b2:=bd _ _ _ _ l k j;unfold nev at b1 b2;unfold Gi;simp only;rw[Ce Aa,A7 Aa (by rw[Pa];omega),A7 Aa (by rw[Mm hi];omega),Fc (fun _=>⟨Aa,by rw[Pa];omega⟩),Fc (fun _=>⟨Aa,by rw[Mm d];omega⟩),Xr hi d,Xr d m,Xr hi m];by_cases o:f i k>nev∧f k j>nev
   ·have r:(Ao (f i k > -1099511627776)&&Ao (f k j > -1099511627776))=true:=by
     unfold nev at o;simp only[E0,H4];exact o
    rw[r,br_true,A7 Aa (by rw[Pa];omega),A7 Aa (by rw[Pa];omega),A7 Aa (by rw[Mm hi];omega),A7 Aa (by rw[Pa];omega),A7 Aa (by rw[Mm hi];omega),A7 Aa (by rw[Pa];omega),A7 Aa (by rw[Mm d];omega),Av Aa Aa,A7 Aa (by rw[Mm hi];omega),Av Aa Aa,Ajs hi m];exact⟨_,rfl,_,rfl,by have:=step k i j f d hi m l;unfold fwS at this;rw[Bg o] at this;exact this⟩
   ·have r:(Ao (f i k > -1099511627776)&&Ao (f k j > -1099511627776))=Ay:=by
     unfold nev at o;rw[Aa4,H5,H5];omega
    rw[r,br_false,Av Aa Aa]
    exact⟨_,rfl,_,rfl,by have:=step k i j f d hi m l;unfold fwS at this;rw[Bb o] at this;exact this⟩) (fun g=>by unfold Gi;exact Ch Aa) _ ⟨f,rfl,s⟩
  obtain⟨g,e,c,rfl,h⟩:=X;exact⟨c,e,h⟩
 have hi:∀ k f,k<n→Q k 0 0 f→∃ c,lp (Ha (n:Int) (k:Int)) (M7 n f,0)=some (.go (M7 n c,(n:Int)))∧Q k n 0 c:=by
  intro k f d s
  have X:=O3 (f:=Ha (n:Int) (k:Int)) (n:=n) (fun i g=>∃ f,g=M7 n f∧Q k i 0 f) (fun i g hi p=>by
   obtain⟨f,rfl,l⟩:=p;obtain⟨c,e,h⟩:=m k i f d hi l;unfold Ha;simp only;rw[Ce Aa,e,bd_ret,Out.on_go,Av Aa Aa]
   exact⟨_,rfl,_,rfl,ej k i c d hi h⟩) (fun g=>by unfold Ha;exact Ch Aa) _ ⟨f,rfl,s⟩
  obtain⟨g,e,c,rfl,h⟩:=X;exact⟨c,e,h⟩
 have X:=O3 (f:=Hb (n:Int)) (n:=n) (fun k g=>∃ f,g=M7 n f∧Q k 0 0 f) (fun k g d p=>by
  obtain⟨f,rfl,l⟩:=p;obtain⟨c,e,h⟩:=hi k f d l;unfold Hb;simp only;rw[Ce Aa,e,bd_ret,Out.on_go,Av Aa Aa]
  exact⟨_,rfl,_,rfl,ei k c d h⟩) (fun g=>by unfold Hb;exact Ch Aa) _ ⟨q,rfl,t⟩
 obtain⟨g,e,c,rfl,h⟩:=X;exact⟨c,e,h⟩
def PotE (E:List Edg) (pace:Int) (τ:Nat→Int):Prop:=∀ e∈E,τ e.fr.toNat+(e.wt - pace * e.bk)≤τ e.tO.toNat
def nwF (k:Nat) (f:Nat→Nat→Int) (a b:Nat):Int:=if f a k>nev∧f k b>nev then max (f a b) (f a k+f k b) else f a b
structure Cl (n:Nat) (k:Nat) (f:Nat→Nat→Int):Prop where
 dg:∀ a,a<n→f a a≤0
 up:∀ a b,a<n→b<n→f a b≤6 * 2 ^ k
 lo:∀ a b,a<n→b<n→f a b>nev→-(6400 * 2 ^ k)≤f a b
 tri:∀ m,m<k→∀ a b,a<n→b<n→f a m>nev→f m b>nev→f a m+f m b≤f a b
def StF (n k i j:Nat) (f:Nat→Nat→Int):Prop:=∃ c,Cl n k c∧∀ a b,a<n→b<n→f a b=if a<i∨(a=i∧b<j) then nwF k c a b else c a b
structure FwQ (n:Nat) (E:List Edg) (pace:Int) (k i j:Nat) (f:Nat→Nat→Int):Prop where
 bd:∀ a b,nev≤f a b∧f a b≤1048576
 pot:∀ τ,PotE E pace τ→∀ a b,f a b>nev→f a b≤τ b - τ a
 has:∀ e∈E,e.wt - pace * e.bk≤f e.fr.toNat e.tO.toNat
 cl:(∃ a,a<n∧f a a>0)∨StF n k i j f
theorem A3x {k:Nat} (h:k≤15):(1:Int)≤2 ^ k∧(2:Int) ^ k≤32768∧(2:Int) ^ (k+1)=2 * 2 ^ k:=by
 have key:∀ k:Fin 16,(1:Int)≤2 ^ (k:Nat)∧(2:Int) ^ (k:Nat)≤32768:=Ai;have:=key ⟨k,Aa⟩;exact⟨this.1,this.2,by rw[Int.pow_succ];omega⟩
theorem nw_ge {k:Nat}{f:Nat→Nat→Int} (a b:Nat):f a b≤nwF k f a b:=by unfold nwF;split <;> omega
theorem Ax6 {n k:Nat}{f:Nat→Nat→Int} (h:Cl n k f) (b:k<n) (a:Nat):nwF k f a k=f a k:=by
 unfold nwF;have:=h.dg k b;split <;> omega
theorem Ax5 {n k:Nat}{f:Nat→Nat→Int} (h:Cl n k f) (a:k<n) (b:Nat):nwF k f k b=f k b:=by
 unfold nwF;have:=h.dg k a;split <;> omega
theorem Axd {k:Nat}{f:Nat→Nat→Int} (a b:Nat):nwF k f a b=f a b∨(nwF k f a b=f a k+f k b∧f a k>nev∧f k b>nev):=by
 unfold nwF;split
 ·rename_i h
  by_cases e:f a k+f k b≤f a b
  ·left;omega
  ·right;exact⟨Aa,h⟩
 ·exact .inl rfl
theorem Alj {k:Nat}{f:Nat→Nat→Int}{a b:Nat} (c:f a k>nev) (d:f k b>nev):f a k+f k b≤nwF k f a b:=by
 unfold nwF;rw[Bg ⟨c,d⟩];omega
theorem Cl.next {n k:Nat}{f:Nat→Nat→Int} (h:Cl n k f) (i:k<n) (C:n≤16) (z:∀ a,a<n→nwF k f a a≤0):Cl n (k+1) (nwF k f):=by
 have E:=A3x (show k≤15 from Aa)
 have t:∀ a b c,a<n→b<n→c<n→f a b>nev→f b c>nev→f a b+f b c>nev∧-(6400 * 2 ^ (k+1))≤f a b+f b c:=fun a b c j g y d l=>by
  have F:=h.lo a b j g d;have G:=h.lo b c g y l;unfold nev;omega
 refine⟨z,fun a b j g=>?_,fun a b j g d=>?_,fun m B a b j g d l=>?_⟩
 ·have u1:=h.up a b j g;have u2:=h.up a k j i;have H:=h.up k b i g
  unfold nwF;split <;> omega
 ·rcases Axd (k:=k) (f:=f) a b with e | ⟨e,s,q⟩
  ·rw[e] at d ⊢
   have:=h.lo a b j g d;omega
  ·rw[e];exact(t a k b j i g s q).2
 ·by_cases e:m=k
  ·subst e
   rw[Ax6 h i] at d ⊢;rw[Ax5 h i] at l ⊢;exact Alj d l
  ·have r:m<k:=by omega
   have v:m<n:=Aa;rcases Axd (k:=k) (f:=f) a m with o | ⟨o,s,q⟩ <;> rcases Axd (k:=k) (f:=f) m b with p | ⟨p,u,w⟩
   ·rw[o] at d ⊢;rw[p] at l ⊢
    exact W8 (h.tri m r a b j g d l) (nw_ge a b)
   ·rw[o] at d ⊢;rw[p]
    have x:=h.tri m r a k j i d u;have A:=(t a m k j v i d u).1;have:=Alj (a:=a) (b:=b) (show f a k>nev from Aa) w;omega
   ·rw[o];rw[p] at l ⊢
    have x:=h.tri m r k b i g q l;have A:=(t k m b i v g q l).1;have:=Alj (a:=a) (b:=b) s (show f k b>nev from Aa);omega
   ·rw[o,p]
    have x:=h.tri m r k k i i q u;have:=Alj (a:=a) (b:=b) s w;have:=h.dg k i;omega
theorem StF.step {n k i j:Nat}{f:Nat→Nat→Int} (v:n≤16) (g:k<n) (hi:i<n) (o:j<n) (h:StF n k i j f):StF n k i (j+1) (fwS k i j f):=by
 obtain⟨d,l,m⟩:=h;have w:=A3x (show k≤15 from Aa)
 have q:f i k=d i k:=by rw[m i k hi g];split;exact Ax6 l g i;rfl
 have r:f k j=d k j:=by rw[m k j g o];split;exact Ax5 l g j;rfl
 have p:f i j=d i j:=by rw[m i j hi o,Bb Aa]
 have u2:=l.up i k hi g;have x:=l.up k j g o;refine⟨d,l,fun a b s t=>?_⟩
 have u:fwS k i j f i j=nwF k d i j:=by
  unfold fwS nwF;rw[q,r,p];by_cases c:d i k>nev∧d k j>nev
  ·rw[Bg c,Bg c]
   unfold Afe;rw[Bg ⟨rfl,rfl⟩];omega
  ·rw[Bb c,Bb c,p]
 by_cases e:a=i∧b=j
 ·obtain⟨rfl,rfl⟩:=e
  rw[u,Bg Aa]
 ·have:fwS k i j f a b=f a b:=by
   unfold fwS;split
   ·unfold Afe;rw[Bb e]
   ·rfl
  rw[this,m a b s t];by_cases c:a<i∨(a=i∧b<j)
  ·rw[Bg c,Bg Aa]
  ·rw[Bb c,Bb Aa]
theorem Ayd {k i j:Nat}{f:Nat→Nat→Int} (a b:Nat):f a b≤fwS k i j f a b:=by
 unfold fwS;split
 ·unfold Afe
  split
  ·rename_i h;obtain⟨rfl,rfl⟩:=h;omega
  ·exact E6 _
 ·exact E6 _
theorem FwQ.step {n:Nat}{E:List Edg}{pace:Int} (s:n≤16) {k i j:Nat}{f:Nat→Nat→Int} (r:k<n) (hi:i<n) (q:j<n) (h:FwQ n E pace k i j f):FwQ n E pace k i (j+1) (fwS k i j f):=by
 refine⟨fun a b=>?_,fun τ d a b=>?_,fun e p=>W8 (h.has e p) (Ayd _ _),?_⟩
 ·have b1:=h.bd a b;have b2:=h.bd i j
  unfold fwS;split
  ·unfold Afe
   split
   ·unfold nev at *;omega
   ·exact b1
  ·exact b1
 ·have l:=h.pot τ d a b
  unfold fwS;split
  ·rename_i m
   have u:=h.pot τ d i k m.1;have v:=h.pot τ d k j m.2;unfold Afe;split
   ·rename_i e
    obtain⟨rfl,rfl⟩:=e;intro t;by_cases g:f a b>nev
    ·have:=l g;omega
    ·have:=h.bd a b
     omega
   ·exact l
  ·exact l
 ·rcases h.cl with ⟨a,o,c⟩ | c
  ·exact .inl ⟨a,o,Int.lt_of_lt_of_le c (Ayd a a)⟩
  ·exact .inr (c.step s r hi q)
theorem FwQ.ej {n:Nat}{E:List Edg}{pace:Int}{k i:Nat}{f:Nat→Nat→Int} (h:FwQ n E pace k i n f):FwQ n E pace k (i+1) 0 f :=
 { h with cl:=h.cl.imp id fun ⟨d,j,l⟩=>⟨d,j,fun a b e g=>by
   rw[l a b e g];by_cases c:a<i∨(a=i∧b<n)
   ·rw[Bg c,Bg Aa]
   ·rw[Bb c,Bb Aa]⟩ }
theorem FwQ.ei {n:Nat}{E:List Edg}{pace:Int} (p:n≤16) {k:Nat}{f:Nat→Nat→Int} (o:k<n) (h:FwQ n E pace k n 0 f):FwQ n E pace (k+1) 0 0 f:=by
 refine { h with cl:=?_ };rcases h.cl with j | ⟨e,l,m⟩
 ·exact .inl j
 ·by_cases g:∃ a,a<n∧f a a>0
  ·exact .inl g
  ·have i:∀ a b,a<n→b<n→f a b=nwF k e a b:=fun a b c d=>by rw[m a b c d,Bg (.inl c)]
   exact .inr ⟨nwF k e,l.next o p fun a c=>by rw[←i a a c c];exact Int.not_lt.1 fun h=>g ⟨a,c,h⟩,fun a b c d=>by rw[i a b c d,Bb Aa]⟩
def mxN (g:Nat→Int):Nat→Int
 | 0=>0
 | n+1=>max (mxN g n) (g n)
theorem Ax9 (g:Nat→Int):∀ n a,a<n→g a≤mxN g n
 | n+1,a,h=>by
  show g a≤max (mxN g n) (g n);by_cases e:a=n
  ·subst e;omega
  ·have:=Ax9 g n a Aa;omega
theorem Ax8 (g:Nat→Int):∀ n,0≤mxN g n
 | 0=>E6 _
 | n+1=>by have:=Ax8 g n;show 0≤max (mxN g n) (g n);omega
theorem Ax7 (g:Nat→Int):∀ n,mxN g n=0∨∃ a,a<n∧mxN g n=g a∧0<g a
 | 0=>.inl rfl
 | n+1=>by
  show max (mxN g n) (g n)=0∨∃ a,a<n+1∧max (mxN g n) (g n)=g a∧0<g a;have b:=Ax8 g n;by_cases e:g n≤mxN g n
  ·rw[show max (mxN g n) (g n)=mxN g n from Aa]
   rcases Ax7 g n with h | ⟨a,c,h⟩
   ·exact .inl h
   ·exact .inr ⟨a,Aa,h⟩
  ·exact .inr ⟨n,Aa,Aa,Aa⟩
def Xl (E:List Edg) (pace:Int):Prop:=∃ τ,PotE E pace τ
theorem A5z {n:Nat}{E:List Edg}{pace:Int} (o:∀ e∈E,EdgeIn n e) (s:1≤pace∧pace≤200) {f:Nat→Nat→Int} (h:FwQ n E pace n 0 0 f) (q:∀ a,a<n→f a a≤0):PotE E pace fun b=>mxN (fun a=>f a b) n:=by
 intro e l;have j:=o e l;have z:=Ait j s;have v:=h.has e l
 have d:e.fr.toNat<n:=by have:=j.fr;omega
 have i:e.tO.toNat<n:=by have:=j.tO;omega
 generalize e.fr.toNat=a at *;generalize e.tO.toNat=b at *;rcases h.cl with ⟨x,c,k⟩ | ⟨m,p,r⟩
 ·have:=q x c;omega
 ·have g:∀ x y,x<n→y<n→f x y=m x y:=fun x y c u=>by rw[r x y c u,Bb Aa]
  show mxN (fun x=>f x a) n+(e.wt - pace * e.bk)≤mxN (fun x=>f x b) n;have g1:=Ax9 (fun x=>f x b) n;rcases Ax7 (fun x=>f x a) n with k | ⟨x,c,k,w⟩
  ·have:=g1 a d
   omega
  ·have:=g1 x c
   have t:=p.tri a d x b c i (by rw[←g x a c d];unfold nev;omega) (by rw[←g a b d i];unfold nev;omega);rw[←g x a c d,←g a b d i,←g x b c i] at t;omega
theorem Azj {n:Nat}{E:List Edg}{pace:Int}{f:Nat→Nat→Int} (h:FwQ n E pace n 0 0 f) (b:Xl E pace) (a:Nat):f a a≤0:=by
 obtain⟨τ,d⟩:=b;by_cases c:f a a>nev
 ·have:=h.pot τ d a a c;omega
 ·unfold nev at c;omega
theorem Azb {n:Nat} (s:n≤16) {E:List Edg} (l:∀ e∈E,EdgeIn n e) (I:E.length≤60000) {pace:Int} (o:1≤pace∧pace≤200):Mh (n:Int) E pace=some (tb (Xl E pace)):=by
 obtain⟨g,z,q,rfl,d⟩:=Ar3 l I o
 have K:FwQ n E pace 0 0 0 q:=by
  refine⟨fun a b=>?_,fun τ L a b F=>?_,fun e c=>?_,?_⟩
  ·rcases d.src a b with h | ⟨e,c,_,_,h⟩
   ·rw[h];unfold nev;omega
   ·have:=Ait (l e c) o;rw[h];unfold nev;omega
  ·rcases d.src a b with h | ⟨e,c,B,C,h⟩
   ·omega
   ·have:=L e c
    rw[B,C] at this;simp only[Iw] at this;omega
  ·obtain⟨i,hi,rfl⟩:=Qa c
   exact d.has i hi
  ·by_cases y:∃ a,a<n∧q a a>0
   ·exact .inl y
   ·refine .inr ⟨q,⟨fun a r=>Int.not_lt.1 fun h=>y ⟨a,r,h⟩,fun a b r x=>?_,fun a b r x F=>?_,fun m J=>absurd J (Q2 _)⟩,fun a b r x=>by rw[Bb Aa]⟩
    ·rcases d.src a b with h | ⟨e,c,_,_,h⟩
     ·rw[h];unfold nev;simp
     ·have:=Ait (l e c) o;rw[h];simp;omega
    ·rcases d.src a b with h | ⟨e,c,_,_,h⟩
     ·omega
     ·have:=Ait (l e c) o;rw[h];simp;omega
 obtain⟨f,A,t⟩:=A5y s (FwQ n E pace) (fun k i j f h=>h.bd) (fun k i j f w hi H h=>h.step s w hi H) (fun k i f _ _ h=>h.ej) (fun k f w h=>h.ei s w) q K;unfold Mh;simp only[Iw];rw[Au Aa,Au (A1c Aa),Avz s,bd_ret,Out.on_go];simp only;rw[z,bd_ret,Out.on_go];simp only;rw[A,bd_ret,Out.on_go];simp only;have bd:=t.bd
 rcases U4 (f:=Hy (n:Int) (M7 n f)) (n:=n) (p:=fun i=>f i i≤0) (fun i hi _=>by
   unfold Hy;rw[Ce Aa,A7 Aa (by rw[Pa];omega),A7 Aa (by rw[Mm hi];omega),Xr hi hi]
   exact⟨fun h=>by rw[Ch Aa,Av Aa Aa],fun h=>by rw[Ce Aa]⟩) (by unfold Hy;exact Ch Aa) with ⟨v,u⟩ | ⟨v,u⟩
 ·rw[u,bd_ret,Out.on_go,Dm (p:=Xl E pace) ⟨_,A5z l o t v⟩]
 ·rw[u,bd_ret,Out.on_ret,Cw fun G:Xl E pace=>v fun i hi=>Azj t G i]
def Ph (l:Lp) (t:Tgt):Nat→Int
 | 0=>0
 | k+1=>Ph l t k+E4 t (ele l.body (k:Int)).op
def Oz (l:Lp) (t:Tgt):Int:=Ph l t l.body.length
theorem Xm {t:Tgt} (a:C4 t=true) (op:Int):1≤E4 t op∧E4 t op≤6:=by
 unfold E4;rw[Bg a];rw[Fq] at a;exact Ae2 Aa Aa Aa
theorem Uf {l : Lp} {t : Tgt} (a : C4 t = true) {i j : Nat} (h : i ≤ j) : Ph l t i + ((j : Int) - i) ≤ Ph l t j := by
  induction j with
  | zero => have : i = 0 := by omega
            subst this; omega
  | succ j b =>
    by_cases e : i = j + 1
    · subst e; omega
    · have := b Aa
      have c := (Xm a (ele l.body (j : Int)).op).1;show _ ≤ Ph l t j + E4 t (ele l.body (j : Int)).op;omega
theorem Rg {l:Lp}{t:Tgt} (a:C4 t=true):∀ k:Nat,(k:Int)≤Ph l t k∧Ph l t k≤6 * k
 | 0=>by show _≤(0:Int)∧(0:Int)≤_;omega
 | k+1=>by
  have:=Rg (l:=l) a k;have b:=Xm a (ele l.body (k:Int)).op;show _≤Ph l t k+E4 t (ele l.body (k:Int)).op∧Ph l t k+E4 t (ele l.body (k:Int)).op≤_;omega
theorem Av3 {l:Lp}{t:Tgt} (c:C4 t=true) {e:Edg} (h:EdgeP l t e):e.wt≤E4 t (ele l.body e.fr).op:=by
 obtain⟨tO,d,a | ⟨fr,a,b⟩⟩:=h
 ·obtain⟨r,f,rfl⟩:=a
  exact E6 _
 ·have:=b.wt
  have g:=(Xm c (ele l.body e.fr).op).1;split at this <;> omega
theorem Zo {l:Lp} (c:LoopOk l) {t:Tgt} (a:C4 t=true) {pace:Int} (d:Oz l t≤pace) {e:Edg} (h:EdgeP l t e):Ph l t e.fr.toNat+(e.wt - pace * e.bk)≤Ph l t e.tO.toNat:=by
 have f:=h.in c;have m:=Av3 a h;obtain⟨g,a2,a3,a4,a5⟩:=f;have k:=c.2.2.1;have b1:=Rg (l:=l) a e.tO.toNat
 have hs:Ph l t (e.fr.toNat+1)=Ph l t e.fr.toNat+E4 t (ele l.body e.fr).op:=by
  show Ph l t e.fr.toNat+E4 t (ele l.body (e.fr.toNat:Int)).op=_;rw[show ((e.fr.toNat:Nat):Int)=e.fr from Aa]
 by_cases b:e.bk=0
 ·have i:=a5 b
  have:=Uf (l:=l) a (show e.fr.toNat+1≤e.tO.toNat from Aa);rw[b];omega
 ·have:=Uf (l:=l) a (show e.fr.toNat+1≤l.body.length from Aa)
  have j:pace * 1≤pace * e.bk:=Ad3 Aa (by have:=Rg (l:=l) a l.body.length;unfold Oz at d;omega);unfold Oz at d;omega
theorem Am1 {l:Lp} (c:LoopOk l) {t:Tgt} (f:C4 t=true) {E:List Edg} (a:∀ e,e∈E↔EdgeP l t e) {pace:Int} (d:Oz l t≤pace):Xl E pace :=
 ⟨Ph l t,fun e b=>Zo c f d ((a e).1 b)⟩
theorem Ag3 {ρ:Type}{f:Int→Option (Stp Int ρ)}{p:Nat→Prop}{m lo:Nat} (step:∀ i:Nat,lo≤i→i≤m→(p i→f i=some (.brk i))∧(¬p i→f i=some (.next ((i:Int)+1)))) (c:p m):∀ (d s:Nat),lo≤s→s+d=m→∃ k:Nat,s≤k∧k≤m∧p k∧(∀ j,s≤j→j<k→¬p j)∧lp f s=some (.go (k:Int))
 | 0,s,hs,h=>by
  have:s=m:=Aa;subst this;exact⟨s,Cf _,Cf _,c,fun j g b=>Aa,C2 ((step s hs (Cf _)).1 c)⟩
 | d+1,s,hs,h=>by
  by_cases a:p s
  ·exact⟨s,Cf _,Aa,a,fun j g b=>Aa,C2 ((step s hs Aa).1 a)⟩
  ·obtain⟨k,g,b,l,n,o⟩:=Ag3 step c d (s+1) Aa Aa
   refine⟨k,Aa,b,l,fun j r q=>?_,Bz ((step s hs Aa).2 a) o⟩;by_cases e:j=s
   ·subst e;exact a
   ·exact n j Aa q
theorem Auz {a b:Int} (c:0≤a) (d:1≤b):0≤Int.tmod a b∧Int.tmod a b<b:=by
 rw[Ais c];exact⟨Q3 _ Aa,Q4 _ Aa⟩
def La (l:Lp) (k:Nat) (c:Int):Nat:=(List.range k).countP fun j:Nat=>Ao (Ka (ele l.body (j:Int)).op=c)
theorem Pt (l:Lp) (k:Nat) (c:Int):La l (k+1) c=La l k c+if Ka (ele l.body (k:Int)).op=c then 1 else 0:=by
 unfold La;rw[Uy,Ak1,Aqo];by_cases h:Ka (ele l.body (k:Int)).op=c <;> simp[h]
theorem Yp (l:Lp) (c:Int):∀ k,La l k c≤k
 | 0=>Cf _
 | k+1=>by rw[Pt];have:=Yp l c k;split <;> omega
def cdV (n u:Int):Int:=Int.tdiv (n+u - 1) u
theorem A56 {n u p:Int} (a:0≤n) (b:1≤u) (c:u≤4):cdV n u≤p↔n≤p * u:=by
 unfold cdV;rw[Afj Aa];obtain h | h | h | h:u=1∨u=2∨u=3∨u=4:=Aa
 all_goals subst h;omega
theorem Ayl {n u:Int} (a:0≤n) (b:n≤16) (c:1≤u) (d:u≤4):0≤cdV n u∧cdV n u≤16:=by
 unfold cdV;rw[Afj Aa];obtain h | h | h | h:u=1∨u=2∨u=3∨u=4:=Aa
 all_goals subst h;omega
def uB (l:Lp) (t:Tgt):Nat→Int
 | 0=>1
 | c+1=>max (uB l t c) (cdV (La l l.body.length c) (Fv t c))
theorem Aw5 {l:Lp}{t:Tgt} (d:l.body.length≤16) (b:C4 t=true):∀ c,1≤uB l t c∧uB l t c≤16
 | 0=>by show 1≤(1:Int)∧(1:Int)≤16;omega
 | c+1=>by
  have:=Aw5 (l:=l) d b c;have e:=Yp l c l.body.length;have a:=Tz b c;have f:=Ayl (n:=(La l l.body.length c:Int)) Aa Aa a.1 a.2;show 1≤max (uB l t c) _∧max (uB l t c) _≤16;omega
theorem Avp {l:Lp} (c:l.body.length≤16):lp (Iq l) (([0,0,0]:List Int),0)=some (.go ([(La l l.body.length 0:Int),La l l.body.length 1,La l l.body.length 2],(l.body.length:Int))):=by
 refine Gy (f:=Iq l) (fun k=>([(La l k 0:Int),La l k 1,La l k 2],(k:Int))) l.body.length (fun k b=>?_) (by unfold Iq;exact Ch (by unfold ln;omega));have a:=Ki (ele l.body (k:Int)).op;have c0:=Yp l 0 k;have c1:=Yp l 1 k;have c2:=Yp l 2 k;unfold Iq;simp only
 rw[Ce (by unfold ln;omega),A7 Aa (by unfold ln;omega),Ov,bd_ret,A7 Aa Aa,A7 Aa (by unfold ln;simp;omega),Av (by
  obtain h | h | h:Ka (ele l.body (k:Int)).op=0∨Ka (ele l.body (k:Int)).op=1∨Ka (ele l.body (k:Int)).op=2:=Aa
  all_goals rw[h];simp[ele];omega) (by
  obtain h | h | h:Ka (ele l.body (k:Int)).op=0∨Ka (ele l.body (k:Int)).op=1∨Ka (ele l.body (k:Int)).op=2:=Aa
  all_goals rw[h];simp[ele];omega),A7 Aa Aa,A7 Aa (by unfold ln;simp;omega),Av Aa Aa]
 rw[Pt,Pt,Pt];obtain h | h | h:Ka (ele l.body (k:Int)).op=0∨Ka (ele l.body (k:Int)).op=1∨Ka (ele l.body (k:Int)).op=2:=Aa
 all_goals rw[h];simp[ele,upd]
theorem Arh {l:Lp} (m:l.body.length≤16) {t:Tgt} (e:C4 t=true):lp (Ip t [(La l l.body.length 0:Int),La l l.body.length 1,La l l.body.length 2]) (1,0)=some (.go (uB l t 3,3)):=by
 refine Gy (f:=Ip t [(La l l.body.length 0:Int),La l l.body.length 1,La l l.body.length 2]) (fun c=>(uB l t c,(c:Int))) 3 (fun c k=>?_) (by unfold Ip;exact Ch Aa);have i:=Yp l c l.body.length;have a:=Tz e c;have j:=Ayl (n:=(La l l.body.length c:Int)) Aa Aa a.1 a.2
 have d:ele [(La l l.body.length 0:Int),La l l.body.length 1,La l l.body.length 2] (c:Int)=(La l l.body.length c:Int):=by
  obtain h | h | h:c=0∨c=1∨c=2:=Aa
  all_goals subst h;rfl
 have g:Cq t.u0 t.u1 t.u2 (c:Int)=Fv t c:=rfl;have b:Int.tdiv ((La l l.body.length c:Int)+Fv t c - 1) (Fv t c)=cdV (La l l.body.length c) (Fv t c):=rfl;unfold Ip;simp only;rw[Ce Aa,d,g,b,A7 Aa Aa,A7 Aa Aa,Av Aa Aa,Av Aa Aa,A7 Aa Aa,Au Aa,Av Aa Aa,Av Aa Aa];rfl
theorem Aui {l:Lp} (a:LoopOk l) {t:Tgt} (d:C4 t=true) {E:List Edg} (b:Fa l t=some (E,0)) (g:∀ e,e∈E↔EdgeP l t e) (s:E.length≤60000) :
  ∃ L:Nat,1≤L∧(L:Int)≤Oz l t∧Xl E L∧(∀ j:Nat,1≤j→j<L→¬Xl E j)∧Jx l t=some (uB l t 3,(L:Int),0):=by
 have c:=a.2.2.1;have A:=a.2.1;have x:=Rg (l:=l) d l.body.length;obtain⟨m,k⟩:=H6 (show 0≤Oz l t by unfold Oz;omega)
 have y:1≤m:=by unfold Oz at k;omega
 have z:m≤96:=by unfold Oz at k;omega
 have u:∀ e∈E,EdgeIn l.body.length e:=fun e b=>((g e).1 b).in a
 obtain⟨L,n,w,o,q,r⟩:=Ag3 (f:=Mi l (E,0)) (ρ:=Empty) (m:=m) (lo:=1) (p:=fun i=>Xl E (i:Int)) (fun i v hi=>by
  unfold Mi ln;rw[Azb c u s Aa,bd_ret]
  exact⟨fun h=>by rw[Dm h];rfl,fun h=>by rw[Cw h,Jz,br_true,Av Aa Aa]⟩) (Am1 a d g Aa) (m - 1) 1 Aa Aa
 refine⟨L,n,Aa,o,q,?_⟩;unfold Jx;rw[b,bd_ret,show (((E,(0:Int)):List Edg×Int).2 != 0)=Ay from rfl,br_false,Avp c,bd_ret,Out.on_go];simp only;rw[Au (by rfl),Arh c d,bd_ret,Out.on_go];simp only;rw[show (1:Int)=((1:Nat):Int) from rfl,r,bd_ret,Out.on_go]
def Uo (g:Nat→Nat):Nat→Nat
 | 0=>0
 | n+1=>Uo g n+g n
theorem Aob (g h:Nat→Nat):∀ n,Uo (fun s=>g s+h s) n=Uo g n+Uo h n
 | 0=>rfl
 | n+1=>by show Uo _ n+(g n+h n)=(Uo g n+g n)+(Uo h n+h n);rw[Aob g h n];omega
theorem Yu:∀ n,Uo (fun _=>0) n=0
 | 0=>rfl
 | n+1=>by show Uo _ n+0=0;rw[Yu n]
theorem Vo {g h:Nat→Nat}:∀ {n},(∀ s,s<n→g s=h s)→Uo g n=Uo h n
 | 0,_=>rfl
 | n+1,e=>by show Uo g n+g n=Uo h n+h n;rw[Vo fun s hs=>e s Aa,e n Aa]
theorem Aoa {k:Nat}:∀ {n},k<n→Uo (fun s=>if s=k then 1 else 0) n=1
 | n+1,h=>by
  show Uo _ n+(if n=k then 1 else 0)=1;by_cases e:n=k
  ·subst e
   rw[Bg rfl,Vo (h:=fun _=>0) fun s hs=>Bb Aa,Yu]
  ·rw[Bb e,Aoa Aa]
theorem Ai9 {l:Lp}{p:Pln}{P:Nat} (i:p.pace=P) (g:1≤P) (c:Int):∀ k:Nat,(∀ j:Nat,j<k→0≤ele p.times (j:Int))→Uo (fun s=>Ni l p k ((s:Int),c)) P=La l k c
 | 0,_=>by
  show Uo (fun s=>0) P=0;exact Yu P
 | k+1,h=>by
  have r:=Ai9 (l:=l) i g c k fun j t=>h j Aa;have f:=h k Aa;rw[Pt,←r,show (fun s:Nat=>Ni l p (k+1) ((s:Int),c))=fun s:Nat=>Ni l p k ((s:Int),c)+(if Hj l p k=((s:Int),c) then 1 else 0) from funext fun s=>Kz l p k _,Aob];congr 1;unfold Hj;by_cases e:Ka (ele l.body (k:Int)).op=c
  ·rw[Bg e]
   have m:=Auz (a:=ele p.times (k:Int)) f (show 1≤p.pace from Aa);obtain⟨d,o⟩:=H6 m.1;refine Eq.trans (Vo fun s hs=>?_) (Aoa (k:=d) (n:=P) Aa);rw[o,e];by_cases q:s=d
   ·subst q;rw[Bg rfl,Bg rfl]
   ·rw[Bb q,Bb]
    intro b;simp only[Ti] at b;exact q Aa
  ·rw[Bb e,Vo (h:=fun _=>0),Yu]
   intro s hs;exact Bb fun b=>e (Prod.mk.inj b).2
noncomputable def J6 (pace:Int) (b:List Edg) (c:List Int) (e:Int):(Int×Int)→Option (Stp (Int×Int) (Empty)):=fun (d,a) =>
 br (Ao (a<(ln b))) (
 ck (IX a (ln b)) <|
 br (((ele b a).tO==e)&&(Ao ((ele b a).fr<e))) (
 ck (IX ((ele b a).fr) (ln c)) <|
 ck (IR ((ele c ((ele b a).fr))+(ele b a).wt)) <|
 ck (IR (pace * (ele b a).bk)) <|
 ck (IR (((ele c ((ele b a).fr))+(ele b a).wt) - (pace * (ele b a).bk))) <|
 ck (IR (a+1)) <|
 some (.next ((max d (((ele c ((ele b a).fr))+(ele b a).wt) - (pace * (ele b a).bk))),(a+1)))) (
 ck (IR (a+1)) <|
 some (.next (d,(a+1))))) (
 some (.brk (d,a)))
noncomputable def Mc (t:Tgt) (pace:Int) (c:List ((Int×Int)×Int)) (b:Int):Int→Option (Stp (Int) (Empty)):=fun a =>
 ck (pace≠0) <|
 ck (IX b 3) <|
 br (Ao ((Fp c ((Int.tmod a pace),b) 0)≥(Cq t.u0 t.u1 t.u2 b))) (
 ck (IR (a+1)) <|
 some (.next (a+1))) (
 some (.brk a))
noncomputable def Ie (l:Lp) (t:Tgt) (pace:Int) (f:List Edg):((List Int)×(List ((Int×Int)×Int))×Int)→Option (Stp ((List Int)×(List ((Int×Int)×Int))×Int) (Empty)):=fun (d,b,a) =>
 br (Ao (a<(ln l.body))) (
 ck (IX a (ln l.body)) <|
 bd (lp (J6 pace f d a) (0,0)) fun g=>g.on (fun (i,j) =>
 bd (E8 ((ele l.body a).op)) fun e =>
 bd (lp (Mc t pace b e) i) fun h=>h.on (fun c =>
 ck (pace≠0) <|
 ck (IR ((Fp b ((Int.tmod c pace),e) 0)+1)) <|
 ck (AL (d++[c]).length 8) <|
 ck (IR (a+1)) <|
 some (.next ((d++[c]),(N4 b ((Int.tmod c pace),e) ((Fp b ((Int.tmod c pace),e) 0)+1)),(a+1)))) (fun r=>r.elim)) (fun r=>r.elim)) (
 some (.brk (d,b,a)))
noncomputable def Hr (l:Lp) (t:Tgt) (pace:Int) (a:List Edg):Option (Pln) :=
 bd (lp (Ie l t pace a) ([],([]:List ((Int×Int)×Int)),0)) fun b=>b.on (fun (c,d,e) =>
 some (Pln.mk pace c)) (fun r=>r.elim)
noncomputable def F3 (l:Lp) (t:Tgt):((List Int)×Int×Int)→Option (Stp ((List Int)×Int×Int) (Empty)):=fun (c,b,a) =>
 br (Ao (a<(ln l.body))) (
 ck (IX a (ln l.body)) <|
 ck (AL (c++[b]).length 8) <|
 bd (Gr t ((ele l.body a).op)) fun d =>
 ck (IR (b+d)) <|
 ck (IR (a+1)) <|
 some (.next ((c++[b]),(b+d),(a+1)))) (
 some (.brk (c,b,a)))
noncomputable def Hx (l:Lp) (t:Tgt) (pace:Int):Option (Pln×Int) :=
 bd (lp (F3 l t) ([],0,0)) fun a=>a.on (fun (c,b,d) =>
 some ((Pln.mk pace c),b)) (fun r=>r.elim)
noncomputable def K2 (l:Lp) (t:Tgt) (b:Int) (d:List Edg×Int) (e:Pln×Int):Int→Option (Stp (Int) (Pln×Int)):=fun a =>
 ck (IR (b+1)) <|
 br (Ao (a<(max (b+1) e.2))) (
 bd (Hr l t a d.1) fun c =>
 bd (Kk l t c d.1) fun f =>
 br f (
 some (.ret (c,0))) (
 ck (IR (a+1)) <|
 some (.next (a+1)))) (
 some (.brk a))
noncomputable def Pd (l:Lp) (t:Tgt) (a:Int):Option (Pln×Int) :=
 bd (Fa l t) fun b =>
 br (b.2 != 0) (
 some ((Pln.mk 0 []),b.2)) (
 br ((Ao (a<1)) || (Ao (a>200))) (
 some ((Pln.mk 0 []),3)) (
 bd (Jx l t) fun c =>
 bd (Hx l t 1) fun d =>
 bd (lp (K2 l t a b d) (max (max a c.1) c.2.1)) fun e=>e.on (fun g =>
 bd (Hx l t (max a d.2)) fun f =>
 some (f.1,0)) (fun r=>some r)))
def Q7 (l:Lp) (t:Tgt) (pace:Int):Pln:=⟨pace,(List.range l.body.length).map (Ph l t)⟩
theorem Ahn {l:Lp} (b:LoopOk l) {t:Tgt} (a:C4 t=true) (pace:Int):Hx l t pace=some (Q7 l t pace,Oz l t):=by
 have e:=b.2.2.1
 have:=Gy (f:=F3 l t) (ρ:=Empty) (fun k=>((List.range k).map (Ph l t),Ph l t k,(k:Int))) l.body.length (fun k d=>by
  have c:=Rg (l:=l) a k;have h:=Xm a (ele l.body (k:Int)).op;unfold F3;simp only;rw[Ce (by unfold ln;omega),A7 Aa (by unfold ln;omega),Au (AL8 (by simp;omega)),Nu,bd_ret,Av Aa Aa,Av Aa Aa,rm_succ (g:=Ph l t)]
  rfl) (by unfold F3;exact Ch (by unfold ln;omega))
 unfold Hx;rw[show lp (F3 l t) ([],0,0)=_ from this,bd_ret,Out.on_go];rfl
theorem Ao9 {l:Lp}{p:Pln}{n:Nat} (h:∀ i j,i<n→j<n→i≠j→Hj l p i≠Hj l p j) (κ:Int×Int):∀ k,k≤n→Ni l p k κ≤1
 | 0,_=>Z0 _
 | k+1,hk=>by
  rw[Kz];have d:=Ao9 h κ k Aa;by_cases e:Hj l p k=κ
  ·rw[Bg e]
   have:Ni l p k κ=0:=by
    unfold Ni;rw[Aqm];intro j b;have c:=Ux.1 b;simp only[H4];exact fun a=>h j k Aa Aa Aa (a.trans e.symm)
   omega
  ·rw[Bb e];omega
theorem Ae9 {l:Lp} (a:LoopOk l) {t:Tgt} (b:C4 t=true):1≤Oz l t∧Oz l t≤96:=by
 have:=Rg (l:=l) b l.body.length;have c:=a.2.1;have d:=a.2.2.1;unfold Oz;omega
theorem Yd {l:Lp} (f:LoopOk l) {t:Tgt} (b:C4 t=true) {pace:Int} (u:Oz l t≤pace) (w:pace≤200):LegalP l t (Q7 l t pace):=by
 have x:=Ae9 f b
 have hat:∀ i:Nat,i<l.body.length→ele (Q7 l t pace).times (i:Int)=Ph l t i∧0≤Ph l t i∧Ph l t i<pace:=fun i hi=>by
  have a:=Rg (l:=l) b i;have c:=Uf (l:=l) b (show i≤l.body.length from Aa);unfold Oz at u;exact⟨H7 hi,Aa,Aa⟩
 have s:∀ i j:Nat,i<l.body.length→j<l.body.length→i<j→Hj l (Q7 l t pace) i≠Hj l (Q7 l t pace) j:=fun i j hi g q d=>by
  have a:=hat i hi;have c:=hat j g;unfold Hj at d;have v:=(Prod.mk.inj d).1;rw[a.1,c.1,show (Q7 l t pace).pace=pace from rfl,Int.tmod_eq_of_lt a.2.1 a.2.2,Int.tmod_eq_of_lt c.2.1 c.2.2] at v;have:=Uf (l:=l) b (show i≤j from Aa);omega
 refine⟨f,b,⟨by show 1≤pace;omega,w⟩,by unfold Q7;simp,fun i hi=>?_,fun i hi=>?_,fun e o=>?_⟩
 ·have a:=hat i hi
  have y:=Rg (l:=l) b i;have A:=f.2.2.1;unfold Wt;rw[a.1];omega
 ·have a:=Ao9 (l:=l) (p:=Q7 l t pace) (n:=l.body.length) (fun i j hi g q d=>by
   rcases Nat.lt_or_gt_of_ne q with h | h
   ·exact s i j hi g h d
   ·exact s j i g hi h d.symm) (Hj l (Q7 l t pace) i) l.body.length (Cf _)
  have c:=Tz b (Hj l (Q7 l t pace) i).2;omega
 ·have r:=o.in f
  have z:=r.fr;have B:=r.tO;have a:=Zo f b u o;unfold Aec;have k:=(hat e.fr.toNat Aa).1;have m:=(hat e.tO.toNat Aa).1;rw[show ((e.fr.toNat:Nat):Int)=e.fr from Aa] at k;rw[show ((e.tO.toNat:Nat):Int)=e.tO from Aa] at m;rw[k,m,show (Q7 l t pace).pace=pace from rfl,W7];omega
theorem Ao4 {α:Type} [Inhabited α] {v:List α}{x:α}{j:Nat} (h:j<v.length):ele (v++[x]) (j:Int)=ele v (j:Int):=by
 rw[C7,C7,Dy,Dy,Aa7 h]
theorem Ao6 {α:Type} [Inhabited α] {v:List α}{x:α}:ele (v++[x]) (v.length:Int)=x:=by
 rw[C7,Dy];simp
theorem Avv {l:Lp}{pace:Int}{v:List Int}{x:Int}{j:Nat} (h:j<v.length):Hj l ⟨pace,v++[x]⟩ j=Hj l ⟨pace,v⟩ j:=by
 unfold Hj;rw[show (Pln.mk pace (v++[x])).times=v++[x] from rfl,Ao4 h]
theorem Aj2 {l:Lp}{pace:Int}{v:List Int}{x:Int} (κ:Int×Int):∀ k:Nat,k≤v.length→Ni l ⟨pace,v++[x]⟩ k κ=Ni l ⟨pace,v⟩ k κ
 | 0,_=>rfl
 | k+1,h=>by rw[Kz,Kz,Aj2 κ k Aa,Avv Aa]
theorem Au7 {l : Lp} {t : Tgt} (y : LoopOk l) (G : C4 t = true) {pace : Nat} (B : 1 ≤ pace) (U : uB l t 3 ≤ pace) {v : List Int} {k : Nat} (V : v.length = k) (O : k < l.body.length) (C : ∀ j : Nat, j < k → 0 ≤ ele v (j : Int)) (s : Nat) :
    ∃ m : Nat, s ≤ m ∧ m < s + pace ∧ ¬ ((Ni l ⟨pace, v⟩ k (Int.tmod (m : Int) pace, Ka (ele l.body (k : Int)).op) : Int) ≥ Fv t (Ka (ele l.body (k : Int)).op)) := by
  have M := Ki (ele l.body (k : Int)).op;generalize hcc : Ka (ele l.body (k : Int)).op = c at *;have w := Tz G c;have R := y.2.2.1
  have i : cdV (La l l.body.length c) (Fv t c) ≤ pace := by
    have a0 : uB l t 3 = max (max (max 1 (cdV (La l l.body.length (0 : Nat)) (Fv t (0 : Nat)))) (cdV (La l l.body.length (1 : Nat)) (Fv t (1 : Nat)))) (cdV (La l l.body.length (2 : Nat)) (Fv t (2 : Nat))) := rfl;obtain h | h | h : c = ((0 : Nat) : Int) ∨ c = ((1 : Nat) : Int) ∨ c = ((2 : Nat) : Int) := Aa
    all_goals rw[h]; omega
  rw[A56 Aa w.1 w.2] at i
  have I : La l k c + 1 ≤ La l l.body.length c := by
    have H : La l (k + 1) c = La l k c + 1 := by rw[Pt, Bg hcc]
    have mono : ∀ a b, a ≤ b → La l a c ≤ La l b c := fun a b L => by
      induction b with
      | zero => have : a = 0 := by omega
                subst this; exact Cf _
      | succ b o =>
        by_cases e : a = b + 1
        · subst e; exact Cf _
        · rw[Pt]; have := o Aa; omega
    have := mono (k + 1) l.body.length Aa;omega
  obtain⟨u, r⟩ := H6 (show 0 ≤ Fv t c from Aa);have F := Ai9 (l := l) (p := ⟨pace, v⟩) (P := pace) rfl B c k C;by_cases q : ∀ s, s < pace → u ≤ Ni l ⟨pace, v⟩ k ((s : Int), c)
  · exfalso
    have x : ∀ (g : Nat → Nat) n, (∀ s, s < n → u ≤ g s) → n * u ≤ Uo g n := fun g n => by
      induction n with
      | zero => intro _; show 0 * u ≤ 0; omega
      | succ n o =>
        intro h;have := o fun s hs => h s Aa;have J := h n Aa;show (n + 1) * u ≤ Uo g n + g n;rw[W6]; omega
    have := x _ pace q;rw[F] at this;rw[r] at i
    have K : (La l l.body.length c) ≤ pace * u := by exact_mod_cast i
    omega
  · obtain⟨f, E⟩ := Classical.not_forall.1 q
    obtain⟨S, T⟩ := Classical.not_imp.1 E;have z := Q3 ((f : Int) - s) (show (pace : Int) ≠ 0 from Aa);have Q := Q4 ((f : Int) - s) (show (0 : Int) < pace from Aa)
    have A : ((s : Int) + ((f : Int) - s) % pace) % pace = f := by
      rw[Int.add_emod_emod, show (s : Int) + ((f : Int) - s) = f from Aa, Akx Aa Aa]
    obtain⟨d, N⟩ := H6 z;refine⟨s + d, Aa, Aa, ?_⟩;rw[Ais Aa, show (((s + d : Nat) : Nat) : Int) = (s : Int) + ((f : Int) - s) % pace from Aa, A, r];omega
theorem A2z {l:Lp}{t:Tgt} (u:LoopOk l) (J:C4 t=true) {E:List Edg} (C:∀ e∈E,EdgeIn l.body.length e) (P:E.length≤60000) {pace:Nat} (H:1≤pace) (T:pace≤200) (K:uB l t 3≤pace) :
  ∃ v,Hr l t pace E=some ⟨pace,v⟩∧v.length=l.body.length:=by
 have S:=u.2.2.1
 have X:=Amf (ρ:=Empty) (f:=Ie l t pace E) (n:=l.body.length) (fun (g:List Int×List ((Int×Int)×Int)) i=>(g.1,g.2,i))
  (fun k g=>g.1.length=k∧(∀ j:Nat,j<k→0≤ele g.1 (j:Int)∧ele g.1 (j:Int)≤206 * k)∧∀ κ,Fp g.2 κ 0=(Ni l ⟨pace,g.1⟩ k κ:Int)) (fun k g F o=>?_) (fun g=>by
   unfold Ie;exact Ch (by unfold ln;omega)) ([],[]) ⟨rfl,fun j d=>absurd d (Q2 _),fun κ=>rfl⟩
 ·obtain⟨g,e,a,_⟩:=X
  unfold Hr;rw[show lp (Ie l t pace E) ([],[],0)=_ from e,bd_ret,Out.on_go];exact⟨_,rfl,a⟩
 ·obtain⟨v,m⟩:=g
  obtain⟨a,b,c⟩:=o;simp only at a b c;have r:=Ki (ele l.body (k:Int)).op
  have Y:=O3 (f:=J6 pace E v k) (ρ:=Empty) (n:=E.length) (fun _ g=>0≤g∧g≤206 * (k:Int)+6) (fun i g hi o=>by
   have q:=C _ (Dt hi);have U:=Ait q (pace:=pace) Aa;have V:=q.wt;unfold J6;simp only;rw[Ce (by unfold ln;omega),A7 Aa (by unfold ln;omega)];by_cases I:(ele E (i:Int)).tO=k∧(ele E (i:Int)).fr<k
   ·have R:=q.fr
    have L:=b (ele E (i:Int)).fr.toNat Aa;rw[show (((ele E (i:Int)).fr.toNat:Nat):Int)=(ele E (i:Int)).fr from Aa] at L;rw[show ((ele E (i:Int)).tO==(k:Int)&&Ao ((ele E (i:Int)).fr<(k:Int)))=true from by simp[I],br_true,A7 Aa (by unfold ln;omega),Av Aa Aa,Av Aa Aa,Av Aa Aa,Av Aa Aa];exact⟨_,rfl,Aa⟩
   ·rw[show ((ele E (i:Int)).tO==(k:Int)&&Ao ((ele E (i:Int)).fr<(k:Int)))=Ay from by
     rw[Aa4,Wy,H5];omega,br_false,Av Aa Aa]
    exact⟨_,rfl,o⟩) (fun g=>by unfold J6;exact Ch (by unfold ln;omega)) 0 Aa
  obtain⟨tm,y,z⟩:=Y;obtain⟨s,rfl⟩:=H6 z.1;obtain⟨w,M,N,A⟩:=Au7 u J H K a F (fun j d=>(b j d).1) s
  obtain⟨x,g1,O,g3,g4,B⟩:=Ag3 (f:=Mc t pace m (Ka (ele l.body (k:Int)).op)) (ρ:=Empty) (m:=w) (lo:=0) (p:=fun i=>¬((Ni l ⟨pace,v⟩ k (Int.tmod (i:Int) pace,Ka (ele l.body (k:Int)).op):Int)≥Fv t (Ka (ele l.body (k:Int)).op))) (fun i _ hi=>by
   unfold Mc;rw[Au Aa,A7 r.1 r.2,c]
   exact⟨fun h=>Ch h,fun h=>by rw[show Cq t.u0 t.u1 t.u2 (Ka (ele l.body (k:Int)).op)=Fv t (Ka (ele l.body (k:Int)).op) from rfl,Ce (Pk.1 h),Av Aa Aa]⟩) A (w - s) s Aa Aa
  have Q:=Amp l ⟨pace,v⟩ (Int.tmod (x:Int) pace,Ka (ele l.body (k:Int)).op) k
  have G:Hj l ⟨pace,v++[(x:Int)]⟩ k=(Int.tmod (x:Int) pace,Ka (ele l.body (k:Int)).op):=by
   unfold Hj;rw[show (Pln.mk (pace:Int) (v++[(x:Int)])).times=v++[(x:Int)] from rfl,←a,Ao6]
  unfold Ie;simp only;rw[Ce (by unfold ln;omega),A7 Aa (by unfold ln;omega),y,bd_ret,Out.on_go];simp only;rw[Ov,bd_ret,B,bd_ret,Out.on_go,Au Aa,c,Av Aa Aa,Au (AL8 (by simp;omega)),Av Aa Aa];refine⟨(v++[(x:Int)],_),rfl,by simp[a],fun j d=>?_,fun κ=>?_⟩
  ·by_cases e:j=k
   ·subst e
    show 0≤ele (v++[(x:Int)]) (j:Int)∧_;rw[show ele (v++[(x:Int)]) (j:Int)=x from by rw[←a];exact Ao6];omega
   ·have:=b j Aa
    show 0≤ele (v++[(x:Int)]) (j:Int)∧_;rw[Ao4 Aa];omega
  ·show Fp (N4 _ _ _) κ 0=(Ni l ⟨pace,v++[(x:Int)]⟩ (k+1) κ:Int)
   rw[Ol,Kz,G,Aj2 κ k Aa];by_cases e:(Int.tmod (x:Int) pace,Ka (ele l.body (k:Int)).op)=κ
   ·rw[Bg e,Bg e,e];rfl
   ·rw[Bb e,Bb e,c];rfl
theorem A6c {l:Lp} (x:l.Fine) (b:LoopOk l) {t:Tgt} (c:C4 t=true) {a:Int} (J:1≤a) (K:a≤200):∃ p,Pd l t a=some (p,0)∧LegalP l t p∧a≤p.pace∧p.pace≤max a (Oz l t):=by
 obtain⟨E,k,H,I,d,g⟩:=Sh b x c;obtain⟨L,b1,b2,F,G,r⟩:=Aui b c k d g;have z:=b.2.2.1;have P:=Aw5 (l:=l) z c 3;have O:=Ae9 b c;have y:∀ e∈E,EdgeIn l.body.length e:=fun e w=>((d e).1 w).in b;unfold Pd;rw[k,bd_ret,show (((E,(0:Int)):List Edg×Int).2 != 0)=Ay from rfl,br_false,show (Ao (a<1) || Ao (a>200))=Ay from by simp;omega,br_false,r,bd_ret,Ahn b c,bd_ret];obtain⟨M,s⟩:=H6 (show 0≤max (max a (uB l t 3)) (L:Int) from Aa);obtain⟨B,N⟩:=H6 (show 0≤max (a+1) (Oz l t) from Aa)
 have m:∀ i:Nat,M≤i→(i:Int)<max (a+1) (Oz l t)→∃ v:List Int,Hr l t (i:Int) E=some ⟨i,v⟩∧v.length=l.body.length∧Kk l t ⟨i,v⟩ E=some (tb (Aur l t ⟨i,v⟩)):=fun i hi u=>by
  obtain⟨v,c1,c2⟩:=A2z b c y g (pace:=i) Aa Aa Aa;exact⟨v,c1,c2,Aye b c ⟨by show (1:Int)≤i;omega,by show (i:Int)≤200;omega⟩ c2 d g⟩
 simp only;rw[s]
 rcases Sw (f:=K2 l t a (E,0) (Q7 l t 1,Oz l t)) (n:=max M B) (p:=fun i=>¬Aur l t ((Hr l t (i:Int) E).getD default)) (fun i=>((Hr l t (i:Int) E).getD default,(0:Int))) (max M B - M) M Aa (fun i hi u=>by
   obtain⟨v,c1,c2,c3⟩:=m i hi Aa;unfold K2;rw[Av Aa Aa,Ce (by simp only;omega)];simp only;rw[c1,bd_ret,c3,bd_ret]
   exact⟨fun h=>by rw[Cw (p:=Aur l t ⟨i,v⟩) h,br_false,Av Aa Aa],fun h=>by rw[Dm (p:=Aur l t ⟨i,v⟩) (Pk.1 h),br_true];rfl⟩) (by
   unfold K2
   rw[Av Aa Aa,Ch (by simp only;omega)]) with ⟨o,q⟩ | ⟨i,o,q,A,_,C⟩
 ·rw[q,bd_ret,Out.on_go]
  rw[Ahn b c,bd_ret];exact⟨_,rfl,Yd b c Aa Aa,by show a≤max a _;omega,E6 _⟩
 ·rw[C,bd_ret,Out.on_ret]
  obtain⟨v,c1,c2,c3⟩:=m i o Aa;refine⟨_,rfl,?_⟩;have j:=Pk.1 A;rw[c1] at j ⊢;simp only[Option.getD_some] at j ⊢;exact⟨Adj.2 ⟨⟨b,c⟩,⟨by show (1:Int)≤i;omega,by show (i:Int)≤200;omega⟩,c2,j⟩,by show a≤(i:Int);omega,by show (i:Int)≤_;omega⟩
noncomputable def Ko (l:Lp):((List Int)×Int)→Option (Stp ((List Int)×Int) (Empty)):=fun (b,a) =>
 br (Ao (a<(ln l.body))) (
 ck (AL (b++[a]).length 8) <|
 ck (IR (a+1)) <|
 some (.next ((b++[a]),(a+1)))) (
 some (.brk (b,a)))
noncomputable def L7 (l:Lp) (t:Tgt) (p:Pln):Option (Krn×List Int×Bool) :=
 bd (Ot l t p) fun x5 =>
 br (x5.2 != 0) (
 some ((Krn.mk 0 0 []),[],Ay)) (
 bd (Qo l t p x5.1) fun a =>
 bd (lp (Ko l) ([],0)) fun c=>c.on (fun (b,e) =>
 bdG (a.2==0) (Nz l t a.1 b) fun d =>
 some (a.1,b,((a.2==0)&&d))) (fun r=>r.elim))
noncomputable def F5 (l:Lp) (t:Tgt):((List Int)×Int×Int)→Option (Stp ((List Int)×Int×Int) (Empty)):=fun (c,b,a) =>
 br (Ao (a<(ln l.body))) (
 ck (IX a (ln l.body)) <|
 ck (AL (c++[b]).length 8) <|
 bd (Gr t ((ele l.body a).op)) fun d =>
 ck (IR (b+d)) <|
 ck (IR (a+1)) <|
 some (.next ((c++[b]),(b+d),(a+1)))) (
 some (.brk (c,b,a)))
noncomputable def J9 (l:Lp) (t:Tgt):Option (Pln) :=
 bd (lp (F5 l t) ([],0,0)) fun b=>b.on (fun (c,a,d) =>
 some (Pln.mk a c)) (fun r=>r.elim)
noncomputable def Mg (l:Lp) (t:Tgt) (d:Pln):Int→Option (Stp (Int) (Krn×List Int×Int)):=fun b =>
 br (Ao (b≤d.pace)) (
 bd (Pd l t b) fun a =>
 bd (L7 l t a.1) fun c =>
 br c.2.2 (
 some (.ret (c.1,c.2.1,0))) (
 ck (IR (a.1.pace+1)) <|
 ck (IR (a.1.pace * 5)) <|
 ck (IR (Int.tdiv (a.1.pace * 5) 4)) <|
 some (.next (max (a.1.pace+1) (Int.tdiv (a.1.pace * 5) 4))))) (
 some (.brk b))
noncomputable def Da (l:Lp) (t:Tgt):Option (Krn×List Int×Int) :=
 bd (Ib l) fun c =>
 bdG (!(!c)) (Gn t) fun e =>
 br ((!c) || (!e)) (
 some ((Krn.mk 0 0 []),[],2)) (
 bd (J9 l t) fun b =>
 bd (lp (Mg l t b) 1) fun d=>d.on (fun f =>
 bd (L7 l t b) fun a =>
 br a.2.2 (
 some (a.1,a.2.1,0)) (
 some ((Krn.mk 0 0 []),[],1))) (fun r=>some r))
theorem Apw {l:Lp} (b:LoopOk l) {t:Tgt} (a:C4 t=true):J9 l t=some (Q7 l t (Oz l t)):=by
 have e:=b.2.2.1
 have:=Gy (f:=F5 l t) (ρ:=Empty) (fun k=>((List.range k).map (Ph l t),Ph l t k,(k:Int))) l.body.length (fun k d=>by
  have c:=Rg (l:=l) a k;have h:=Xm a (ele l.body (k:Int)).op;unfold F5;simp only;rw[Ce (by unfold ln;omega),A7 Aa (by unfold ln;omega),Au (AL8 (by simp;omega)),Nu,bd_ret,Av Aa Aa,Av Aa Aa,rm_succ (g:=Ph l t)]
  rfl) (by unfold F5;exact Ch (by unfold ln;omega))
 unfold J9;rw[show lp (F5 l t) ([],0,0)=_ from this,bd_ret,Out.on_go];rfl
theorem A3m {l:Lp} (c:l.Fine) {t:Tgt}{p:Pln} (h:LegalP l t p) :
  (∃ v,L7 l t p=some (M9 l t p v,G7 l.body.length,true)∧TakesP l t (M9 l t p v) (G7 l.body.length)) ∨
  (L7 l t p=some (⟨0,0,[]⟩,[],Ay)∧¬∀ k,k<l.body.length→Wl ((Lo l t p).wp (spV l.body.length)) k):=by
 have m:=h.loop.2.2.1;unfold L7;rcases Arl c h with ⟨v,a,b,d⟩ | ⟨a,b⟩
 ·refine .inl ⟨v,?_,Ajm h a b⟩
  have e:=Aty h (v:=v);have j:Aeb l (M9 l t p v):=Ajn c
  have X:=Gy (f:=Ko l) (ρ:=Empty) (fun i=>(G7 i,(i:Int))) l.body.length (fun i hi=>by
   unfold Ko;simp only;rw[Ce (by unfold ln;omega),Au (AL8 (by rw[B2,O9];simp;omega)),Av Aa Aa,show G7 i++[(i:Int)]=G7 (i+1) from rm_succ (g:=fun i:Nat=>(i:Int))]
   rfl) (by unfold Ko;exact Ch (by unfold ln;omega))
  rw[d,bd_ret,show (((Rz t p l.body.length v,(0:Int)):List Int×Int).2 != 0)=Ay from rfl,br_false,A6f c t p (by unfold Rz;simp;omega),Dm e,Bg rfl,bd_ret,
   show lp (Ko l) ([],0)=_ from X,bd_ret,Out.on_go]
  simp only[beq_self_eq_true,bdG_t,Q0];rw[show Ap7 l t p (Rz t p l.body.length v)=M9 l t p v from rfl,Avi c j (by rw[O9];omega),bd_ret,Dm (Ajm h a b)]
 ·refine .inr ⟨?_,b⟩
  rw[a,bd_ret];rfl
theorem Aib {l:Lp}{t:Tgt} (a:C4 t=true):A4l l t (Q7 l t (Oz l t)):=fun i hi=>by
 rw[show ele (Q7 l t (Oz l t)).times (i:Int)=Ph l t i from H7 hi];have b:=Uf (l:=l) a (show i+1≤l.body.length from Aa);have e:Ph l t (i+1)=Ph l t i+E4 t (ele l.body (i:Int)).op:=rfl;show _≤Oz l t;unfold Oz;omega
def A4n (l:Lp) (t:Tgt) (p:Pln) (v:List Int):Prop:=LegalP l t p∧p.pace≤Oz l t∧TakesP l t (M9 l t p v) (G7 l.body.length)
theorem A3i {l:Lp} (j:l.Fine) (h:LoopOk l) {t:Tgt} (d:C4 t=true) :
  (∃ p v,Da l t=some (M9 l t p v,G7 l.body.length,0)∧A4n l t p v)∨(Da l t=some (⟨0,0,[]⟩,[],1)∧t.regs<5 * (l.body.length:Int)):=by
 have z:=Ae9 h d;have m:=Yd h d (E6 (Oz l t)) Aa;unfold Da;rw[Afu l j,bd_ret,Jd,Dm h,d];simp only[F0,Jz,bdG_t,bd_ret,Rt,br_false];rw[Apw h d,bd_ret]
 obtain⟨o,e,q⟩:=A15 (f:=Mg l t (Q7 l t (Oz l t))) (fun g=>1≤g) (fun g=>(Oz l t+1 - g).toNat) (fun o=>match o with
   | .go _=>True
   | .ret r=>∃ p v,r=(M9 l t p v,G7 l.body.length,(0:Int))∧A4n l t p v) (fun g w=>by
   unfold Mg;show ∃ s,br (Ao (g≤Oz l t)) _ _=some s∧_;by_cases c:g≤Oz l t
   ·rw[Ce c]
    obtain⟨p,n,k,x,y⟩:=A6c j h d w Aa;have A:=k.pace;rw[n,bd_ret];rcases A3m j k with ⟨v,a,i⟩ | ⟨a,_⟩
    ·refine⟨_,by simp only;rw[a,bd_ret];rfl,?_⟩
     exact⟨p,v,rfl,k,Aa,i⟩
    ·refine⟨_,by simp only;rw[a,bd_ret];simp only;rw[br_false,Av Aa Aa,Av Aa Aa,Av (by have:=Afj (show 0≤p.pace * 5 from Aa) (b:=4);omega) (by have:=Afj (show 0≤p.pace * 5 from Aa) (b:=4);omega)],?_⟩
     simp only;omega
   ·rw[Ch c]
    exact⟨_,rfl,trivial⟩) 1 Aa
 rw[e,bd_ret]
 cases o with
 | ret r =>
  obtain⟨p,v,rfl,u⟩:=q;exact .inl ⟨p,v,rfl,u⟩
 | go g =>
  rw[Out.on_go];rcases A3m j m with ⟨v,a,i⟩ | ⟨a,i⟩
  ·refine .inl ⟨_,v,by rw[a,bd_ret];rfl,m,E6 _,i⟩
  ·refine .inr ⟨by rw[a,bd_ret];rfl,?_⟩
   by_cases c:t.regs<5 * (l.body.length:Int)
   ·exact c
   ·exact absurd (Apg m Aa (Aib d)) i
def Wu (l:Lp) (b:List (List Int)):Prop:=b.length=l.body.length∧∀ i:Nat,i<b.length→(ele b (i:Int)).length=3
section
variable {l : Lp} {t : Tgt} {k : Krn} {order : List Int} {b : List (List Int)}
def Aup (y:LayD) (b:List (List Int)) (s:Nat) (R:List Int):Nat→List Int
 | 0=>R
 | q+1=>upd (Aup y b s R q) (Rq y s q) (ele (ele b (s:Int)) (q:Int))
def Afg (y:LayD) (b:List (List Int)) (n:Nat):Nat→List Int
 | 0=>List.replicate n 0
 | s+1=>Aup y b s (Afg y b n s) (Tp y.body s).toNat
theorem Ag7 {y:LayD}{s:Nat}{R:List Int}:∀ q,(Aup y b s R q).length=R.length
 | 0=>rfl
 | q+1=>by show (upd _ _ _).length=_;rw[Al1,Ag7 q]
theorem Ag6 {y:LayD}{n:Nat}:∀ s,(Afg y b n s).length=n
 | 0=>by show (List.replicate n 0).length=n;simp
 | s+1=>by show (Aup _ _ _ _ _).length=n;rw[Ag7,Ag6 s]
theorem reg_bd {y:LayD} (a:y.Ok) (s:Int) (q:Nat):0≤Rq y s q∧Rq y s q<y.regs:=by
 have c:=a.regs;exact⟨Q3 _ Aa,Q4 _ Aa⟩
def Aad (l:Lp) (t:Tgt) (y:LayD) (b:List (List Int)) (regs:List Int) (a:Int) (i:Nat):Int :=
 if a=0 then ele (ele b (ele l.outs (i:Int))) 0 else ele regs ((ele y.places (ele l.outs (i:Int))+a - 1) % t.regs)
end
noncomputable def Hs (b:List (List Int)):Int→Option (Stp (Int) (Bool)):=fun a =>
 br (Ao (a<(ln b))) (
 ck (IX a (ln b)) <|
 br ((ln (ele b a)) != 3) (
 some (.ret Ay)) (
 ck (IR (a+1)) <|
 some (.next (a+1)))) (
 some (.brk a))
noncomputable def Jk (l:Lp) (a:List (List Int)):Option (Bool) :=
 bd (lp (Hs a) 0) fun b=>b.on (fun c =>
 some ((ln a)==(ln l.body))) (fun r=>some r)
noncomputable def Il (t:Tgt) (d:List (List Int)) (c:Qr) (b g:Int):((List Int)×Int)→Option (Stp ((List Int)×Int) (Empty)):=fun (e,a) =>
 br (Ao (a<g)) (
 ck (IX b (ln c.2.2.2.2.2.2.2)) <|
 ck (IR ((ele c.2.2.2.2.2.2.2 b) - a)) <|
 ck (IR (((ele c.2.2.2.2.2.2.2 b) - a) - 1)) <|
 bd (Ja (((ele c.2.2.2.2.2.2.2 b) - a) - 1) t.regs) fun f =>
 ck (IX b (ln d)) <|
 ck (IX a (ln (ele d b))) <|
 ck (IX f (ln e)) <|
 ck (IR (a+1)) <|
 some (.next ((upd e f (ele (ele d b) a)),(a+1)))) (
 some (.brk (e,a)))
noncomputable def Im (l:Lp) (t:Tgt) (c:List (List Int)) (g:Qr):((List Int)×Int)→Option (Stp ((List Int)×Int) (Empty)):=fun (b,a) =>
 br (Ao (a<(ln l.body))) (
 bd (P3 l a) fun f =>
 bd (lp (Il t c g a f) (b,0)) fun d=>d.on (fun (e,h) =>
 ck (IR (a+1)) <|
 some (.next (e,(a+1)))) (fun r=>r.elim)) (
 some (.brk (b,a)))
noncomputable def Hu (l:Lp) (t:Tgt) (c:Krn) (order:List Int) (b:List (List Int)):Option (List Int×Int) :=
 bd (Jw l t c order) fun a =>
 Aax a.1 (
 ck (a.2=Ay) <|
 bdG (!(!Ay)) (Jk l b) fun h =>
 some ([],2)) fun g =>
 bdG (!(!a.2)) (Jk l b) fun f =>
 br ((!a.2) || (!f)) (
 some ([],2)) (
 ck (0≤t.regs) <|
 ck (AL t.regs.toNat 8) <|
 bd (lp (Im l t b g) ((List.replicate t.regs.toNat (0:Int)),0)) fun d=>d.on (fun (e,i) =>
 some (e,0)) (fun r=>r.elim))
noncomputable def Ik (l:Lp) (t:Tgt) (c:List (List Int)) (regs:List Int) (d:Int) (e:Qr):((List Int)×Int)→Option (Stp ((List Int)×Int) (Empty)):=fun (b,a) =>
 br (Ao (a<(ln l.outs))) (
 ck (IX a (ln l.outs)) <|
 br (d==0) (
 ck (IX (ele l.outs a) (ln c)) <|
 ck (IX 0 (ln (ele c (ele l.outs a)))) <|
 ck (AL (b++[(ele (ele c (ele l.outs a)) 0)]).length 8) <|
 ck (IR (a+1)) <|
 some (.next ((b++[(ele (ele c (ele l.outs a)) 0)]),(a+1)))) (
 ck (IX (ele l.outs a) (ln e.2.2.2.2.2.2.2)) <|
 ck (IR ((ele e.2.2.2.2.2.2.2 (ele l.outs a))+d)) <|
 ck (IR (((ele e.2.2.2.2.2.2.2 (ele l.outs a))+d) - 1)) <|
 bd (Ja (((ele e.2.2.2.2.2.2.2 (ele l.outs a))+d) - 1) t.regs) fun f =>
 ck (IX f (ln regs)) <|
 ck (AL (b++[(ele regs f)]).length 8) <|
 ck (IR (a+1)) <|
 some (.next ((b++[(ele regs f)]),(a+1))))) (
 some (.brk (b,a)))
noncomputable def Ht (l:Lp) (t:Tgt) (d:Krn) (order:List Int) (b:List (List Int)) (regs:List Int) (c:Int):Option (List Int×Int) :=
 bd (Jw l t d order) fun a =>
 Aax a.1 (
 ck (a.2=Ay) <|
 bdG (!(!Ay)) (Jk l b) fun i =>
 some ([],2)) fun h =>
 bdG (!(!a.2)) (Jk l b) fun g =>
 br (((!a.2) || (!g)) || ((ln regs) != t.regs)) (
 some ([],2)) (
 br ((Ao (c<0)) || (Ao (c>200))) (
 some ([],3)) (
 bd (lp (Ik l t b regs c h) ([],0)) fun e=>e.on (fun (f,j) =>
 some (f,0)) (fun r=>r.elim)))
theorem Ayf {l:Lp}{b:List (List Int)} (d:b.length≤9223372036854775807):Jk l b=some (tb (Wu l b)):=by
 unfold Jk
 rcases Ll (f:=Hs b) (ρ:=Bool) (fun i=>(i:Int)) b.length (fun i=>(ele b (i:Int)).length=3) (fun _=>Ay) (fun i hi _=>by
   unfold Hs;rw[Ce (by unfold ln;omega),A7 Aa (by unfold ln;omega)]
   exact⟨fun h=>by rw[show (ln (ele b (i:Int)) != 3)=Ay from by unfold ln;rw[h];rfl,br_false,Av Aa Aa];rfl,fun h=>by rw[show (ln (ele b (i:Int)) != 3)=true from by unfold ln;simp;omega,br_true]⟩) (by unfold Hs;exact Ch (by unfold ln;omega)) with ⟨a,e⟩ | ⟨i,a,c,_,e⟩
 ·rw[show lp (Hs b) 0=_ from e,bd_ret,Out.on_go]
  congr 1;refine Ls ?_;unfold Wu ln;simp only[C8];exact⟨fun h=>⟨Aa,a⟩,fun h=>by have:=h.1;omega⟩
 ·rw[show lp (Hs b) 0=_ from e,bd_ret,Out.on_ret,Cw fun h:Wu l b=>c (h.2 i a)]
section
variable {l : Lp} {t : Tgt} {k : Krn} {order : List Int} {b : List (List Int)}
theorem A2v (h:LayP l t k order) (c:Wu l b):lp (Im l t b (J3 (Co l t k order))) (List.replicate t.regs.toNat 0,0)=some (.go (Afg (Co l t k order) b t.regs.toNat l.body.length,(l.body.length:Int))):=by
 have a:=Vg h;have d:=h.loop.2.2.1;have g:=a.regs;have z:(Co l t k order).regs=t.regs:=rfl;have v:=a.lp;have i:(Co l t k order).body.length=l.body.length:=rfl;refine Gy (f:=Im l t b (J3 (Co l t k order))) (fun s=>(Afg (Co l t k order) b t.regs.toNat s,(s:Int))) l.body.length (fun s hs=>?_) (by unfold Im;exact Ch (by unfold ln;omega));have p:=Alq a (s:Int);have r:Tp (Co l t k order).body (s:Int)=Tp l.body s:=rfl;have w:=a.pl s hs;have m:=c.2 s (by have:=c.1;omega);have o:=Ag6 (b:=b) (y:=Co l t k order) (n:=t.regs.toNat) s
 have Y:=Gy (f:=Il t b (J3 (Co l t k order)) s (Tp l.body s)) (ρ:=Empty) (fun q=>(Aup (Co l t k order) b s (Afg (Co l t k order) b t.regs.toNat s) q,(q:Int))) (Tp l.body s).toNat (fun q x=>by
  have e:=reg_bd a (s:Int) q;have u:=Ag7 (b:=b) (y:=Co l t k order) (s:=s) (R:=Afg (Co l t k order) b t.regs.toNat s) q;have j:=c.1;unfold Il;simp only;rw[show (J3 (Co l t k order)).2.2.2.2.2.2.2=(Co l t k order).places from rfl];rw[Ce Aa,A7 Aa (by unfold ln;omega),Av Aa Aa,Av Aa Aa,Abn Aa Aa,bd_ret,show (ele (Co l t k order).places (s:Int) - (q:Int) - 1) % t.regs=Rq (Co l t k order) s q from rfl,A7 Aa (by unfold ln;omega),A7 Aa (by unfold ln;omega),A7 e.1 (by unfold ln;omega),Av Aa Aa]
  rfl) (by unfold Il;exact Ch Aa)
 unfold Im;simp only;rw[Ce (by unfold ln;omega),A32 d a.bk,bd_ret,show lp (Il t b (J3 (Co l t k order)) s (Tp l.body s)) (Afg (Co l t k order) b t.regs.toNat s,0)=_ from Y,bd_ret,Out.on_go,Av Aa Aa];rfl
theorem A2e (h:LayP l t k order) (g:Wu l b) {regs:List Int} (A:(regs.length:Int)=t.regs) {d:Int} (C:0≤d∧d≤200):lp (Ik l t b regs d (J3 (Co l t k order))) ([],0)=some (.go ((List.range l.outs.length).map (Aad l t (Co l t k order) b regs d),(l.outs.length:Int))):=by
 have j:=Vg h;have x:=h.loop.2.2.1;have r:=j.regs;have B:(Co l t k order).regs=t.regs:=rfl;have w:=j.lp;have s:(Co l t k order).body.length=l.body.length:=rfl;have y:=T4 h.loop;refine Gy (f:=Ik l t b regs d (J3 (Co l t k order))) (fun i=>((List.range i).map (Aad l t (Co l t k order) b regs d),(i:Int))) l.outs.length (fun i hi=>?_) (by unfold Ik;exact Ch (by unfold ln;omega));have n:=h.loop.out i hi;rw[show l.outs.getD i 0=ele l.outs (i:Int) from rfl] at n;obtain⟨a,m⟩:=H6 n.1;have p:a<l.body.length:=Aa;have z:=j.pl a p;have v:=g.2 a (by have:=g.1;omega);have u:=g.1;have o:=Q3 (ele (Co l t k order).places (a:Int)+d - 1) (show t.regs≠0 from Aa);have q:=Q4 (ele (Co l t k order).places (a:Int)+d - 1) (show 0<t.regs from Aa)
 have e:Aad l t (Co l t k order) b regs d i=if d=0 then ele (ele b (a:Int)) 0 else ele regs ((ele (Co l t k order).places (a:Int)+d - 1) % t.regs):=by unfold Aad;rw[m]
 unfold Ik;simp only;rw[Ce (by unfold ln;omega),A7 Aa (by unfold ln;omega),m];by_cases c:d=0
 ·rw[show (d==0)=true from by simpa using c,br_true,A7 Aa (by unfold ln;omega),A7 Aa (by unfold ln;omega),Au (AL8 (by simp;omega)),Av Aa Aa]
  rw[Bg c] at e;rw[←e,rm_succ];rfl
 ·rw[show (d==0)=Ay from by simpa using c,br_false]
  rw[show (J3 (Co l t k order)).2.2.2.2.2.2.2=(Co l t k order).places from rfl];rw[A7 Aa (by unfold ln;omega),Av Aa Aa,Av Aa Aa,Abn Aa Aa,bd_ret,A7 o (by unfold ln;omega),Au (AL8 (by simp;omega)),Av Aa Aa];rw[Bb c] at e;rw[←e,rm_succ];rfl
theorem A2u (f:l.Fine) (g:Aeb l k) (i:order.length≤9223372036854775807) (d:b.length≤9223372036854775807):Hu l t k order b=some (if tb (TakesP l t k order∧Wu l b)=true then (Afg (Co l t k order) b t.regs.toNat l.body.length,0) else ([],2)):=by
 obtain⟨r,e,j⟩:=Ag0 (t:=t) f g i;unfold Hu;rw[e,bd_ret];by_cases h:TakesP l t k order
 ·rw[j h,Dm h]
  have m:=(Vg h.lay).regs;have n:(Co l t k order).regs=t.regs:=rfl;unfold Aax;simp only;rw[show (!(!true))=true from rfl,bdG_t,Ayf d,bd_ret];by_cases a:Wu l b
  ·rw[Dm a,Dm (p:=TakesP l t k order∧Wu l b) ⟨h,a⟩,Bg rfl,show ((!true) || (!true))=Ay from rfl,br_false,Au Aa,Au (AL8 Aa),A2v h.lay a,bd_ret,Out.on_go]
  ·rw[Cw a,Cw fun c:TakesP l t k order∧Wu l b=>a c.2];rfl
 ·rw[Cw h,Cw fun c:TakesP l t k order∧Wu l b=>h c.1]
  unfold Aax
  cases r with
  | none=>simp only;rw[Au trivial];rfl
  | some y=>rfl
theorem A2d (m:l.Fine) (n:Aeb l k) (o:order.length≤9223372036854775807) (i:b.length≤9223372036854775807) {regs:List Int}{a:Int}:Ht l t k order b regs a=some (if tb (TakesP l t k order∧Wu l b∧(regs.length:Int)=t.regs)=true then (if (Ao (a<0) || Ao (a>200))=true then ([],3) else ((List.range l.outs.length).map (Aad l t (Co l t k order) b regs a),0)) else ([],2)):=by
 obtain⟨r,e,q⟩:=Ag0 (t:=t) m n o;unfold Ht;rw[e,bd_ret];by_cases h:TakesP l t k order
 ·rw[q h,Dm h]
  unfold Aax;simp only;rw[show (!(!true))=true from rfl,bdG_t,Ayf i,bd_ret];by_cases c:Wu l b
  ·by_cases d:(regs.length:Int)=t.regs
   ·rw[Dm c,Dm (p:=TakesP l t k order∧Wu l b∧(regs.length:Int)=t.regs) ⟨h,c,d⟩,Bg rfl,show (((!true) || (!true)) || (ln regs != t.regs))=Ay from by unfold ln;simp[d],br_false]
    by_cases g:0≤a∧a≤200
    ·rw[show (Ao (a<0) || Ao (a>200))=Ay from by simp;omega,br_false,A2e h.lay c d g,bd_ret,Out.on_go]
     rfl
    ·have j:(Ao (a<0) || Ao (a>200))=true:=by rw[Wd,H4,H4];omega
     rw[j];rfl
   ·rw[Dm c,Cw fun f:TakesP l t k order∧Wu l b∧(regs.length:Int)=t.regs=>d f.2.2,show (((!true) || (!true)) || (ln regs != t.regs))=true from by unfold ln;simpa using d]
    rfl
  ·rw[Cw c,Cw fun f:TakesP l t k order∧Wu l b∧(regs.length:Int)=t.regs=>c f.2.1];rfl
 ·rw[Cw h,Cw fun f:TakesP l t k order∧Wu l b∧(regs.length:Int)=t.regs=>h f.1]
  unfold Aax
  cases r with
  | none=>simp only;rw[Au trivial];rfl
  | some y=>rfl
end
def rowV (l:Lp) (s:Sta) (t:Nat):List Int:=(W0 l (Oy l s t).1 (Oy l s t).2 t).1
section
variable {t : Tgt} {k : Krn} {M : List (List Int)}
end
end Go.Rd
end
section
namespace Go.Rd
structure Pipe where
 (n N:Nat)
 (pace regs:Int)
 (T R P:Nat→Int)
 (val:Nat→Nat→Int)
namespace Pipe
def cyc (y:Pipe) (m σ:Nat):Int:=y.T m+σ * y.pace
def due (y:Pipe) (m σ:Nat):Int:=y.R m+σ * y.pace
def reg (y:Pipe) (m σ:Nat):Int:=(y.P m+σ) % y.regs
def In (y:Pipe) (m σ:Nat):Prop:=m<y.n∧σ<y.N
def ent (y:Pipe) (m σ:Nat):Due:=⟨y.due m σ,y.reg m σ,y.val σ m⟩
structure Regs (y:Pipe) (r0 r:List Int) (c:Int):Prop where
 len:(r.length:Int)=y.regs
 put:∀ m σ,y.In m σ→y.due m σ≤c→(∀ m' σ',y.In m' σ'→y.due m σ≤y.due m' σ'→y.due m' σ'≤c→y.reg m' σ'=y.reg m σ→m'=m∧σ'=σ)→ele r (y.reg m σ)=y.val σ m
 old:∀ x:Int,0≤x→x<y.regs→(∀ m σ,y.In m σ→y.due m σ≤c→y.reg m σ≠x)→ele r x=ele r0 x
structure Dues (y:Pipe) (D:Nat→Nat→Prop) (c:Int) (q:List Due):Prop where
 src:∀ d∈q,∃ m σ,y.In m σ∧D m σ∧c≤y.due m σ∧d=y.ent m σ
 all:∀ m σ,y.In m σ→D m σ→c≤y.due m σ→y.ent m σ∈q
theorem Dues.congr {y:Pipe}{D D':Nat→Nat→Prop}{c:Int}{q:List Due} (h:y.Dues D c q) (e:∀ m σ,y.In m σ→(D m σ↔D' m σ)):y.Dues D' c q :=
 ⟨fun d f=>by obtain⟨m,σ,a,b,x⟩:=h.src d f;exact⟨m,σ,a,(e m σ a).1 b,x⟩,fun m σ a b x=>h.all m σ a ((e m σ a).2 b) x⟩
theorem Dues.add {y:Pipe}{D:Nat→Nat→Prop}{c:Int}{q:List Due} (h:y.Dues D c q) {f g:Nat} (hi:y.In f g) (i:c≤y.due f g):y.Dues (fun m σ=>D m σ∨(m=f∧σ=g)) c (q++[y.ent f g]) :=
  ⟨fun d e=>by
    rcases Fw.1 e with e | e
    · obtain⟨m,σ,a,b,x⟩:=h.src d e;exact⟨m,σ,a,.inl b,x⟩
    · exact⟨f,g,hi,.inr ⟨rfl,rfl⟩,i,Gx.1 e⟩,
   fun m σ a b x=>by
    rcases b with b | ⟨rfl,rfl⟩
    · exact Fw.2 (.inl (h.all m σ a b x))
    · exact Fw.2 (.inr (Gx.2 rfl))⟩
structure Ok (y:Pipe):Prop where
 regs:1≤y.regs
 pace:1≤y.pace
 wait:∀ m,m<y.n→y.T m<y.R m
theorem reg_bd {y:Pipe} (h:y.Ok) (m σ:Nat):0≤y.reg m σ∧y.reg m σ<y.regs:=⟨Q3 _ (by have:=h.regs;omega),Q4 _ (by have:=h.regs;omega)⟩
theorem Dues.left {y:Pipe}{D:Nat→Nat→Prop}{c:Int}{q:List Due} (b:y.Dues D c q):y.Dues D (c+1) (q.filter fun d=>Ao (d.due≠c)) :=
  ⟨fun d h=>by
    obtain⟨e,f⟩:=Tr.1 h;obtain⟨m,σ,hi,a,g,rfl⟩:=b.src d e;have i:y.due m σ≠c:=Af7 f
    exact⟨m,σ,hi,a,Aa,rfl⟩,
   fun m σ hi a g=>Tr.2 ⟨b.all m σ hi a Aa,by
    have:y.due m σ≠c:=Aa
    exact Lr this⟩⟩
end Pipe
def Auo (m σ m' σ':Nat):Prop:=σ<σ'∨(σ=σ'∧m<m')
theorem A2b {m σ m' σ':Nat} (a:¬Auo m σ m' σ') (b:¬Auo m' σ' m σ):m=m'∧σ=σ':=by unfold Auo at *;omega
def wd (M:List (List Int)) (a x:Nat):Int:=ele (ele M (a:Int)) (x:Int)
def Words (hits:Nat→Nat→Nat→Nat→Prop) (val:Nat→Nat→Int) (D:Nat→Nat→Prop) (M0 M:List (List Int)):Prop :=
 ∀ a x,(∃ m σ,D m σ∧hits m σ a x∧(∀ m' σ',D m' σ'→hits m' σ' a x→¬Auo m σ m' σ')∧wd M a x=val σ m)∨((∀ m σ,D m σ→¬hits m σ a x)∧wd M a x=wd M0 a x)
section
variable {hits : Nat → Nat → Nat → Nat → Prop} {val : Nat → Nat → Int} {M0 : List (List Int)}
theorem Words.same {D D':Nat→Nat→Prop}{M M':List (List Int)} (h:Words hits val D M0 M) (j:Words hits val D' M0 M') {a x:Nat} (e:∀ m σ,hits m σ a x→(D m σ↔D' m σ)):wd M a x=wd M' a x:=by
 rcases h a x with ⟨m,σ,d,b,k,f⟩ | ⟨n,f⟩ <;> rcases j a x with ⟨m',σ',i,c,l,g⟩ | ⟨o,g⟩
 ·obtain⟨rfl,rfl⟩:=A2b (k m' σ' ((e m' σ' c).2 i) c) (l m σ ((e m σ b).1 d) b)
  rw[f,g]
 ·exact absurd b (o m σ ((e m σ b).1 d))
 ·exact absurd c (n m' σ' ((e m' σ' c).2 i))
 ·rw[f,g]
theorem Words.congr {D D':Nat→Nat→Prop}{M:List (List Int)} (h:Words hits val D M0 M) (e:∀ m σ a x,hits m σ a x→(D m σ↔D' m σ)):Words hits val D' M0 M:=fun a x=>by
 rcases h a x with ⟨m,σ,d,b,i,c⟩ | ⟨j,c⟩
 ·exact .inl ⟨m,σ,(e m σ a x b).1 d,b,fun m' σ' g f=>i m' σ' ((e m' σ' a x f).2 g) f,c⟩
 ·exact .inr ⟨fun m σ d b=>j m σ ((e m σ a x b).2 d) b,c⟩
theorem Words.skip {D:Nat→Nat→Prop}{M:List (List Int)} (h:Words hits val D M0 M) {b c:Nat} (f:∀ a x,¬hits b c a x):Words hits val (fun m σ=>D m σ∨(m=b∧σ=c)) M0 M :=
 h.congr fun m σ a x e=>⟨.inl,fun d=>by
  rcases d with d | ⟨rfl,rfl⟩
  ·exact d
  ·exact absurd e (f a x)⟩
theorem Words.put {D:Nat→Nat→Prop}{M M':List (List Int)} (h:Words hits val D M0 M) {c e a0 x0:Nat} (j:∀ a x,hits c e a x↔a=a0∧x=x0) (n:∀ m σ,D m σ→hits m σ a0 x0→¬Auo c e m σ)
  (s:wd M' a0 x0=val e c) (r:∀ a x,¬(a=a0∧x=x0)→wd M' a x=wd M a x):Words hits val (fun m σ=>D m σ∨(m=c∧σ=e)) M0 M':=fun a x=>by
 by_cases g:a=a0∧x=x0
 ·obtain⟨rfl,rfl⟩:=g
  refine .inl ⟨c,e,.inr ⟨rfl,rfl⟩,(j _ _).2 ⟨rfl,rfl⟩,fun m σ d b=>?_,s⟩;rcases d with d | ⟨rfl,rfl⟩
  ·exact n m σ d b
  ·unfold Auo;omega
 ·have l:¬hits c e a x:=fun q=>g ((j a x).1 q)
  rw[r a x g];rcases h a x with ⟨m,σ,d,b,o,i⟩ | ⟨p,i⟩
  ·refine .inl ⟨m,σ,.inl d,b,fun m' σ' f k=>?_,i⟩
   rcases f with f | ⟨rfl,rfl⟩
   ·exact o m' σ' f k
   ·exact absurd k l
  ·refine .inr ⟨fun m σ d b=>?_,i⟩
   rcases d with d | ⟨rfl,rfl⟩
   ·exact p m σ d b
   ·exact l b
end
end Go.Rd
end
section
namespace Go.Rd
def A0x (l:Lp) (s:Sta) (σ m:Nat):Int:=ele (rowV l s σ) (m:Int)
section
variable {l : Lp} {s : Sta}
def A31 (l:Lp) (m σ a x:Nat):Prop:=(ele l.body (m:Int)).op=4∧(ele l.body (m:Int)).ar=a∧idx (ele l.body (m:Int)).sp (ele l.body (m:Int)).pl σ (ele l.logs (ele l.body (m:Int)).ar)=x
end
section
variable {l : Lp} {t : Tgt} {k : Krn} {order : List Int}
def Aba (l:Lp) (t:Tgt) (k:Krn) (order:List Int) (s:Sta) (N:Nat):Pipe :=
 ⟨l.body.length,N,k.pace,t.regs,fun m=>ele (Co l t k order).time (m:Int),fun m=>ele (Co l t k order).ready (m:Int),fun m=>ele (Co l t k order).places (m:Int),A0x l s⟩
end
theorem Azw {α:Type} [Inhabited α] {a b:List α} (c:a.length=b.length) (d:∀ i:Nat,i<a.length→ele a (i:Int)=ele b (i:Int)):a=b:=by
 apply List.ext_getElem c;intro i hi e;have:=d i hi;simpa[C7,Dy,hi,e] using this
section
variable {l : Lp} {t : Tgt} {k : Krn} {order : List Int} {s : Sta}
def A4g (l:Lp) (t:Tgt) (k:Krn) (order:List Int) (s:Sta) (N:Nat) (c i:Int) (m σ:Nat):Prop:=(Aba l t k order s N).cyc m σ<c∨((Aba l t k order s N).cyc m σ=c∧ele order (m:Int)<i)
structure OpsI (l:Lp) (t:Tgt) (k:Krn) (order:List Int) (s:Sta) (N:Nat) (c i:Nat) (q:List Due) (M:List (List Int)):Prop where
 due:(Aba l t k order s N).Dues (A4g l t k order s N c i) (c+1) q
 wds:Words (A31 l) (A0x l s) (fun m σ=>(Aba l t k order s N).In m σ∧A4g l t k order s N c i m σ) s.mem M
 ok:MemOk l M
 len:q.length≤16 * c+i
structure PlayI (l:Lp) (t:Tgt) (k:Krn) (order:List Int) (s:Sta) (r0:List Int) (N c:Nat) (q:List Due) (r:List Int) (M:List (List Int)):Prop where
 due:(Aba l t k order s N).Dues (fun m σ=>(Aba l t k order s N).cyc m σ<c) c q
 regs:(Aba l t k order s N).Regs r0 r ((c:Int) - 1)
 wds:Words (A31 l) (A0x l s) (fun m σ=>(Aba l t k order s N).In m σ∧(Aba l t k order s N).cyc m σ<c) s.mem M
 ok:MemOk l M
 len:q.length≤16 * c
structure EndK (l:Lp) (t:Tgt) (k:Krn) (order:List Int) (s:Sta) (r0:List Int) (N:Nat) (r:List Int) (M:List (List Int)):Prop where
 len:(r.length:Int)=t.regs
 zero:N=0→r=r0
 outs:1≤N→∀ a:Nat,a<l.body.length→(a:Int)∈l.outs→ele r ((ele (Co l t k order).places (a:Int)+N - 1) % t.regs)=A0x l s (N - 1) a
 mem:M=(Oy l s N).2
end
section
variable {l : Lp} {t : Tgt} {k : Krn} {order : List Int} {s : Sta}
end
theorem A0t (l:Lp) (s:Sta) (t:Int) (b:l.Fine) (a:RowsOk s.bef) (c:RowsOk s.mem) (h:FitsP l s) (d:t<0∨t>200):Kw l s t=some (⟨[],[]⟩,3):=by
 unfold Kw;rw[Ayr l s b a c,bd_ret,Dm h,F0,br_false,show (Ao (t<0) || Ao (t>200))=true from by simpa using d];rfl
theorem Ao2 {y:LayD}{b:List (List Int)} (d:∀ r∈b,∀ x∈r,InR x) {s:Nat}{R:List Int} (c:∀ v∈R,InR v):∀ q:Nat,∀ v∈Aup y b s R q,InR v
 | 0=>c
 | q+1=>fun v a=>by
  rcases Aoq a with rfl | a
  ·exact T9 d _ _
  ·exact Ao2 d c q v a
theorem Ao1 {y:LayD}{b:List (List Int)} (a:∀ r∈b,∀ x∈r,InR x) {m:Nat}:∀ n:Nat,∀ v∈Afg y b m n,InR v
 | 0=>fun v c=>by
  obtain rfl:=Aqt c;constructor <;> omega
 | n+1=>Ao2 a (Ao1 a n) _
theorem Arw {l:Lp} (j:LoopOk l) {M:List (List Int)} (c:MemOk l M):As3 M∧Anw M=l.logs:=by
 have k:=c.len
 have key:∀ i:Nat,i<M.length→∃ L:Nat,L≤5∧ele l.logs (i:Int)=L∧lgN (ele M (i:Int)).length=L:=fun i hi=>by
  have d:=j.log i Aa;have a:=c.row i hi;rw[show l.logs.getD i 0=ele l.logs (i:Int) from rfl] at d a;rw[show M.getD i []=ele M (i:Int) from rfl] at a;obtain⟨L,b⟩:=H6 d.1;rw[b,Iw] at a;have m:=Aw9 (show L≤5 from Aa);exact⟨L,Aa,b,(Ato Aa).2 Aa⟩
 refine⟨fun i hi=>?_,Azw (by unfold Anw;simp;omega) fun i hi=>?_⟩
 ·obtain⟨L,h,_,e⟩:=key i hi;omega
 ·have hi:i<M.length:=by unfold Anw at hi;simpa using hi
  obtain⟨L,h,f,g⟩:=key i hi;rw[show ele (Anw M) (i:Int)=(lgN (ele M (i:Int)).length:Int) from H7 hi,f,g]
section
variable {t : Tgt} {k : Krn} {logs : List Int}
theorem A5u (b:KMayP t k logs) (l:∀ i:Nat,i<k.ops.length→InR (ele k.ops (i:Int)).n) {N:Nat} (G:N≤200) {r:List Int} (q:RegsG t r) {M:List (List Int)} (x:MemG logs M)
  (J:K8 M=some (logs,true)) (K:Kn t k logs=some true) :
  ∃ s M',Jf t k r M N=some (s,M',0)∧RegsG t s:=by
 have y:=Arx b x;have Q:=q.len;have a0:=b.pace;have a4:=b.stages;have W:=Fq.1 b.tgt;have a1:r.length≤1000:=Aa;unfold Jf
 rw[J,bd_ret,show (!!((logs,true):List Int×Bool).2)=true from rfl,bdG_t,K,bd_ret,
  show (ln r != t.regs)=Ay from by unfold ln;rw[Aqk];exact Q,F0,Rt,Rt,br_false,
  show (Ao ((N:Int)<0) || Ao ((N:Int)>200))=Ay from by rw[Ss,H5,H5];omega,br_false,
  show Abr r=some r from Au (Axp Aa Aa),bd_ret,Ays y.1 y.2,bd_ret]
 by_cases T:N=0
 ·subst T
  exact⟨r,M,rfl,q⟩
 have F:1≤N:=Aa;obtain⟨P,R,H,X,U,V,a5,a6,z,a7⟩:=lastK b G F;have h:InvS t logs 0 ([],r,M):=⟨q,x,fun d a=>(by cases a),fun j _=>Z0 _⟩;rw[Ce Aa,Av Aa Aa,Av Aa Aa]
 obtain⟨g,e,p⟩:=Amf (f:=Ju t k N) (ρ:=Empty) (n:=R) (fun (g:List Due×List (List Int)×List Int) i=>(g.1,g.2.1,g.2.2,i)) (fun pa g=>KInv t k logs N ([],r,M) (R * P) (pa * P) g) (fun pa g O p=>by
   obtain⟨g',e',E⟩:=A2k b l h H ⟨U,V⟩ Aa O z p;refine⟨g',?_,E⟩;unfold Ju;simp only;rw[Ce Aa,e',bd_ret,Out.on_go];simp only
   rw[Av Aa Aa]) (fun g=>by unfold Ju;exact Ch Aa) ([],M,r) ⟨by rw[Nat.zero_mul];exact I9 _,by rw[Nat.zero_mul];rfl,by rw[Nat.zero_mul];rfl⟩
 rw[show lp (Ju t k N) ([],M,r,0)=_ from e,bd_ret,Out.on_go];obtain⟨D,M',s⟩:=g;obtain⟨c,a2,a3⟩:=p;simp only at c a2 a3;subst a2 a3;have o:=Ac4 b l (N:=N) h (last:=R * P) (R * P) Aa;have w:=Ac4 b l (N:=N) h (last:=R * P) (R * P+7) Aa;have Y:=o.len;have u:∀ d∈D,((R * P:Nat):Int)≤d.due∧d.due≤((R * P:Nat):Int)+5∧0≤d.reg∧d.reg<t.regs∧InR d.v:=fun d a=>o.due d (c.mem.1 a);obtain⟨S,B,C,m⟩:=Ab7 (D:=D) (fun d a=>by have:=u d a;exact⟨Aa,Aa⟩) (by rw[c.1];omega);obtain⟨S',b0,t2,t3,t4,t5⟩:=An9 b l (N:=N) h z C (m.symm.trans c) 7 Aa
 have L:S'=[]:=by
  cases I:S' with
  | nil=>rfl
  | cons d S'' =>
   have a:d∈(stS t k logs N ([],r,M) (R * P) (R * P+7)).1:=t2.mem.1 (by rw[I];exact Z5 ..);have a8:=(w.due d a).1;have a9:=t5 d a;omega
 refine⟨(stS t k logs N ([],r,M) (R * P) (R * P+7)).2.1,(stS t k logs N ([],r,M) (R * P) (R * P+7)).2.2,?_,w.regs⟩;simp only;rw[Ayc (A:=S) (Z:=[]) B (Nl _).symm (fun d a=>by have:=u d (m.mem.2 a);have:=o.regs.len;omega) (fun d a=>by cases a) (by rw[←m.1,c.1];omega),bd_ret,t3,L,t4];rfl
end
noncomputable def F7 (a:Tgt) (c:List UInt8) (l:List Int):Option (List UInt8×Tgt) :=
 ck (SX 0 3 (ln l)) <|
 ck (3≤ln (sub l 0 3)) <|
 ck (SX 3 6 (ln l)) <|
 ck (3≤ln (sub l 3 6)) <|
 ck (IX 6 (ln l)) <|
 bd (Gn (Tgt.mk (ele (sub l 0 3) 0) (ele (sub l 0 3) 1) (ele (sub l 0 3) 2) (ele (sub l 3 6) 0) (ele (sub l 3 6) 1) (ele (sub l 3 6) 2) (ele l 6))) fun b =>
 br (!b) (
 some ([63],a)) (
 some ([111,107],(Tgt.mk (ele (sub l 0 3) 0) (ele (sub l 0 3) 1) (ele (sub l 0 3) 2) (ele (sub l 3 6) 0) (ele (sub l 3 6) 1) (ele (sub l 3 6) 2) (ele l 6))))
noncomputable def Dl (b:Tgt) (m:List UInt8) (l:Lp) (d:Int):Option (List UInt8) :=
 bd (Nx l) fun c =>
 bd (Kw l c d) fun f =>
 br (f.2 != 0) (
 some [63]) (
 bd (Da l b) fun a =>
 br (a.2.2 != 0) (
 some [110,111,110,101]) (
 bd (Hu l b a.1 a.2.1 c.bef) fun g =>
 bd (Jf b a.1 g.1 c.mem d) fun h =>
 bd (Ht l b a.1 a.2.1 c.bef h.1 d) fun i =>
 bd (Iu [] f.1.outs) fun e =>
 ck (SL (e++[32,58])) <|
 bd (Iu (e++[32,58]) i.1) fun j =>
 bd (Jl j [32]) fun k =>
 some k))
noncomputable def Eg (b:Krn×List Int×Int):((List UInt8)×Int)→Option (Stp ((List UInt8)×Int) (Empty)):=fun (c,a) =>
 br (Ao (a<(ln b.1.ops))) (
 ck (IX a (ln b.1.ops)) <|
 bd (Fs c [(ele b.1.ops a).slot,(ele b.1.ops a).stage,(ele b.1.ops a).dest]) fun d =>
 ck (IR (a+1)) <|
 some (.next (d,(a+1)))) (
 some (.brk (c,a)))
noncomputable def G6 (c:Tgt) (f:List UInt8) (l:Lp):Option (List UInt8) :=
 bd (Da l c) fun a =>
 br (a.2.2 != 0) (
 some [110,111,110,101]) (
 bd (Fm [a.1.pace,a.1.stages]) fun e =>
 bd (lp (Eg a) (e,0)) fun b=>b.on (fun (d,g) =>
 some d) (fun r=>r.elim))
noncomputable def B7 (b:Tgt) (c:List UInt8) (words:List (List UInt8)) (d:List Int):Option (List UInt8) :=
 bd (Mq c) fun a =>
 br (a.2.code != 0) (
 bd (Fs [98,97,100] [a.2.at']) fun f =>
 some f) (
 ck (IX 0 (ln words)) <|
 br ((ele words 0)==[101,100,103,101,115]) (
 bd (Fa a.1 b) fun g =>
 bd (Fm [(ln g.1)]) fun h =>
 some h) (
 br ((ele words 0)==[98,111,117,110,100]) (
 bd (Jx a.1 b) fun e =>
 bd (Fm [e.1,e.2.1]) fun i =>
 some i) (
 br ((ele words 0)==[98,117,105,108,100]) (
 bd (G6 b c a.1) fun j =>
 some j) (
 ck (IX 0 (ln d)) <|
 bd (Dl b c a.1 (ele d 0)) fun k =>
 some k))))
noncomputable def Dc (b:Tgt) (a s:List UInt8):Option (List UInt8×Tgt×List UInt8) :=
 bd (Mb s [61,32]) fun e =>
 br e.2 (
 ck (SL (e.1++[10])) <|
 ck (SL (a++(e.1++[10]))) <|
 bd (Fs [111,107] [(ln (a++(e.1++[10])))]) fun g =>
 some (g,b,(a++(e.1++[10])))) (
 br (s==[102,114,101,115,104]) (
 some ([111,107],b,[])) (
 bd (Sx s [32]) fun c =>
 ck (SX 1 (ln c) (ln c)) <|
 bd (Kv (sub c 1 (ln c))) fun d =>
 br (!d.2) (
 some ([63],b,a)) (
 ck (IX 0 (ln c)) <|
 br (((ele c 0)==[109,97,99,104,105,110,101])&&((ln d.1)==7)) (
 bd (F7 b a d.1) fun f =>
 some (f.1,f.2,a)) (
 br (s==[101,100,103,101,115]) (
 br (s==[101,100,103,101,115]) (
 bd (B7 b a c d.1) fun h =>
 some (h,b,a)) (
 some ([63],b,a))) (
 br (s==[98,111,117,110,100]) (
 br (s==[98,111,117,110,100]) (
 bd (B7 b a c d.1) fun i =>
 some (i,b,a)) (
 some ([63],b,a))) (
 br (s==[98,117,105,108,100]) (
 br (s==[98,117,105,108,100]) (
 bd (B7 b a c d.1) fun j =>
 some (j,b,a)) (
 some ([63],b,a))) (
 ck (IX 0 (ln c)) <|
 br (((ele c 0)==[116,117,114,110,115])&&((ln d.1)==1)) (
 bd (B7 b a c d.1) fun k =>
 some (k,b,a)) (
 some ([63],b,a)))))))))
noncomputable def Jv (b:List (List UInt8)):(Int×Int×Int×Int×Int×Int×Int×(List UInt8)×(List UInt8)×Int)→Option (Stp (Int×Int×Int×Int×Int×Int×Int×(List UInt8)×(List UInt8)×Int) (Empty)):=fun (e,f,g,h,i,j,k,l,d,c) =>
 br (Ao (c<(ln (sub b 0 (min (ln b) 60))))) (
 ck (IX c (ln (sub b 0 (min (ln b) 60)))) <|
 bd (Dc (Tgt.mk e f g h i j k) l (ele (sub b 0 (min (ln b) 60)) c)) fun a =>
 ck (SL (a.1++[10])) <|
 ck (SL (d++(a.1++[10]))) <|
 ck (IR (c+1)) <|
 some (.next (a.2.1.u0,a.2.1.u1,a.2.1.u2,a.2.1.w0,a.2.1.w1,a.2.1.w2,a.2.1.regs,a.2.2,(d++(a.1++[10])),(c+1)))) (
 some (.brk (e,f,g,h,i,j,k,l,d,c)))
noncomputable def Jj (f:List UInt8):Option (List UInt8) :=
 bd (Sx f [10]) fun a =>
 ck (IR ((ln a) - 1)) <|
 ck (IX ((ln a) - 1) (ln a)) <|
 bd (show Option (Out ((List (List UInt8))) (Empty)) from br ((ele a ((ln a) - 1))==[]) (
 ck (IR ((ln a) - 1)) <|
 ck (SX 0 ((ln a) - 1) (ln a)) <|
 some (.go (sub a 0 ((ln a) - 1)))) (
 some (.go a))) fun c=>c.on (fun b =>
 ck (SX 0 (min (ln b) 60) (ln b)) <|
 bd (lp (Jv b) (2,1,1,1,3,2,32,[],[],0)) fun d=>d.on (fun (g,h,i,j,k,l,m,n,e,o) =>
 some e) (fun r=>r.elim)) (fun r=>r.elim)
noncomputable def Kf (l:Lp):((List (List Int))×Int)→Option (Stp ((List (List Int))×Int) (Empty)):=fun (b,a) =>
 br (Ao (a<(ln l.body))) (
 ck (0≤(3:Int)) <|
 ck (AL (3:Int).toNat 8) <|
 ck (AL (b++[(List.replicate (3:Int).toNat (0:Int))]).length 24) <|
 ck (IR (a+1)) <|
 some (.next ((b++[(List.replicate (3:Int).toNat (0:Int))]),(a+1)))) (
 some (.brk (b,a)))
noncomputable def D7 (l:Lp):((List (List Int))×Int)→Option (Stp ((List (List Int))×Int) (Empty)):=fun (c,a) =>
 br (Ao (a<(ln l.logs))) (
 ck (IX a (ln l.logs)) <|
 bd (Y3 (ele l.logs a)) fun b =>
 ck (0≤b) <|
 ck (AL b.toNat 8) <|
 ck (AL (c++[(List.replicate b.toNat (0:Int))]).length 24) <|
 ck (IR (a+1)) <|
 some (.next ((c++[(List.replicate b.toNat (0:Int))]),(a+1)))) (
 some (.brk (c,a)))
noncomputable def Fi (c:Tgt) (s:List UInt8) (l:Lp) (d:Int):Option (List UInt8) :=
 bd (lp (Kf l) ([],0)) fun j=>j.on (fun (e,p) =>
 bd (lp (D7 l) ([],0)) fun i=>i.on (fun (f,q) =>
 bd (Kw l (Sta.mk e f) d) fun g =>
 br (g.2 != 0) (
 some [63]) (
 bd (Da l c) fun a =>
 br (a.2.2 != 0) (
 some [110,111,110,101]) (
 bd (Hu l c a.1 a.2.1 e) fun k =>
 bd (Jf c a.1 k.1 f d) fun m =>
 bd (Ht l c a.1 a.2.1 e m.1 d) fun h =>
 bd (B6 [] g.1.outs) fun b =>
 br (b != []) (
 ck (SL (b++[32])) <|
 ck (SL ((b++[32])++[58])) <|
 bd (B6 ((b++[32])++[58]) h.1) fun n =>
 some n) (
 ck (SL (b++[58])) <|
 bd (B6 (b++[58]) h.1) fun o =>
 some o)))) (fun r=>r.elim)) (fun r=>r.elim)
noncomputable def D8 (b:Krn×List Int×Int):((List UInt8)×Int)→Option (Stp ((List UInt8)×Int) (Empty)):=fun (c,a) =>
 br (Ao (a<(ln b.1.ops))) (
 ck (IX a (ln b.1.ops)) <|
 ck (IX a (ln b.1.ops)) <|
 ck (IX a (ln b.1.ops)) <|
 bd (B6 c [(ele b.1.ops a).slot,(ele b.1.ops a).stage,(ele b.1.ops a).dest]) fun d =>
 ck (IR (a+1)) <|
 some (.next (d,(a+1)))) (
 some (.brk (c,a)))
noncomputable def Bv (b:Tgt) (d word:List UInt8) (f:Int):Option (List UInt8) :=
 bd (Mq d) fun a =>
 br (a.2.code != 0) (
 bd (B6 [98,97,100] [a.2.at']) fun i =>
 some i) (
 br (word==[101,100,103,101,115]) (
 bd (Fa a.1 b) fun j =>
 bd (B6 [] [(ln j.1)]) fun k =>
 some k) (
 br (word==[98,111,117,110,100]) (
 bd (Jx a.1 b) fun e =>
 bd (B6 [] [e.1,e.2.1]) fun l =>
 some l) (
 br (word==[98,117,105,108,100]) (
 bd (Da a.1 b) fun c =>
 br (c.2.2 != 0) (
 some [110,111,110,101]) (
 bd (B6 [] [c.1.pace,c.1.stages]) fun m =>
 bd (lp (D8 c) (m,0)) fun g=>g.on (fun (h,o) =>
 some h) (fun r=>r.elim))) (
 bd (Fi b d a.1 f) fun n =>
 some n))))
noncomputable def Di (e:Tgt) (f:List UInt8) (c:List (List UInt8)):((List Int)×Int)→Option (Stp ((List Int)×Int) (List UInt8×Tgt×List UInt8)):=fun (b,a) =>
 br (Ao (a<(ln c))) (
 ck (IX a (ln c)) <|
 bd (Kq (ele c a)) fun d =>
 br (!d.2) (
 some (.ret ([63],e,f))) (
 ck (AL (b++[d.1]).length 8) <|
 ck (IR (a+1)) <|
 some (.next ((b++[d.1]),(a+1))))) (
 some (.brk (b,a)))
noncomputable def Ec (b:List Int):((List Int)×Int)→Option (Stp ((List Int)×Int) (Empty)):=fun (c,a) =>
 br (Ao (a<3)) (
 ck (IX a (ln b)) <|
 ck (IX a 3) <|
 ck (IX a (ln c)) <|
 ck (IR (3+a)) <|
 ck (IX (3+a) (ln b)) <|
 ck (IX a 3) <|
 ck (IX (3+a) (ln (upd c a (ele b a)))) <|
 ck (IR (a+1)) <|
 some (.next ((upd (upd c a (ele b a)) (3+a) (ele b (3+a))),(a+1)))) (
 some (.brk (c,a)))
noncomputable def Hm (b:Tgt) (a s:List UInt8):Option (List UInt8×Tgt×List UInt8) :=
 ck ((Ao ((ln s)≥2))=true→SX 0 2 (ln s)) <|
 br ((Ao ((ln s)≥2))&&((sub s 0 2)==[61,32])) (
 ck (SX 2 (ln s) (ln s)) <|
 ck (SL (a++(sub s 2 (ln s)))) <|
 ck (SL ((a++(sub s 2 (ln s)))++[10])) <|
 bd (B6 [111,107] [(ln ((a++(sub s 2 (ln s)))++[10]))]) fun i =>
 some (i,b,((a++(sub s 2 (ln s)))++[10]))) (
 br (s==[102,114,101,115,104]) (
 some ([111,107],b,[])) (
 bd (Pm s (32:UInt8)) fun d =>
 bd (lp (Di b a d) ([],1)) fun f=>f.on (fun (c,m) =>
 ck (IX 0 (ln d)) <|
 br (((ele d 0)==[109,97,99,104,105,110,101])&&((ln c)==7)) (
 ck (IX 6 (ln c)) <|
 bd (lp (Ec c) (([0,0,0,0,0,0,(ele c 6)]:List Int),0)) fun g=>g.on (fun (e,l) =>
 ck (e.length=7) <|
 bd (Gn (Ad6 e)) fun j =>
 br (!j) (
 some ([63],b,a)) (
 ck (e.length=7) <|
 some ([111,107],(Ad6 e),a))) (fun r=>r.elim)) (
 br (((s==[101,100,103,101,115]) || (s==[98,111,117,110,100])) || (s==[98,117,105,108,100])) (
 bd (Bv b a s 0) fun k =>
 some (k,b,a)) (
 ck (IX 0 (ln d)) <|
 br (((ele d 0)==[116,117,114,110,115])&&((ln c)==1)) (
 ck (IX 0 (ln c)) <|
 bd (Bv b a [116,117,114,110,115] (ele c 0)) fun h =>
 some (h,b,a)) (
 some ([63],b,a))))) (fun r=>some r)))
def Kg (l:Lp):Sta:=⟨(List.range l.body.length).map fun _=>List.replicate 3 (0:Int),(List.range l.logs.length).map fun i:Nat=>List.replicate ((2:Int) ^ (ele l.logs (i:Int)).toNat).toNat (0:Int)⟩
theorem Au8 {g:Int} (a:0≤g) (b:g≤5):shlD 1 g=2 ^ g.toNat:=by
 obtain⟨k,rfl⟩:=H6 a;have:∀ k:Nat,k≤5→shlD 1 (k:Int)=2 ^ k:=Ai;rw[Iw];exact this k Aa
theorem Yv {g:Int} (a:0≤g) (b:g≤5):1≤(2:Int) ^ g.toNat∧(2:Int) ^ g.toNat≤32:=by
 obtain⟨k,rfl⟩:=H6 a;have:∀ k:Nat,k≤5→1≤(2:Int) ^ k∧(2:Int) ^ k≤32:=Ai;rw[Iw];exact this k Aa
theorem As6 {l:Lp} (a:LoopOk l):lp (Ij l) ([],0)=some (.go ((Kg l).bef,(l.body.length:Int))):=by
 have b:=a.2.2.1
 have key:=Gy (f:=Ij l) (fun i=>((List.range i).map fun _=>List.replicate 3 (0:Int),(i:Int))) l.body.length (fun i hi=>by
  unfold Ij;simp only;rw[Ce (by rw[Ap];omega),Au Ai,Zl Ai Ai,Zl (by simp;omega) (by simp;omega),Av Aa Aa,show (3:Int).toNat=3 from rfl,Uy,Qh]
  rfl) (by
  unfold Ij;simp only;rw[Ch (by rw[Ap];omega)])
 exact key
theorem A1d {l:Lp} (b:LoopOk l):lp (Ii l) ([],0)=some (.go ((Kg l).mem,(l.logs.length:Int))):=by
 have c:=b.1
 have key:=Gy (f:=Ii l) (fun i=>((List.range i).map fun i:Nat=>List.replicate ((2:Int) ^ (ele l.logs (i:Int)).toNat).toNat (0:Int),(i:Int))) l.logs.length (fun i hi=>by
  have a:=b.log i hi;rw[←Abm] at a;have d:=Yv a.1 a.2;unfold Ii;simp only;rw[Ce (by rw[Ap];omega),A7 Aa (by rw[Ap];omega),Au a.1,Au8 a.1 a.2,Au Aa,Zl Aa Aa,Zl (by simp;omega) (by simp;omega),Av Aa Aa,Uy,Qh]
  rfl) (by
  unfold Ii;simp only;rw[Ch (by rw[Ap];omega)])
 exact key
theorem Ayt {l:Lp} (b:LoopOk l):lp (D7 l) ([],0)=some (.go ((Kg l).mem,(l.logs.length:Int))):=by
 have c:=b.1
 have key:=Gy (f:=D7 l) (fun i=>((List.range i).map fun i:Nat=>List.replicate ((2:Int) ^ (ele l.logs (i:Int)).toNat).toNat (0:Int),(i:Int))) l.logs.length (fun i hi=>by
  have a:=b.log i hi;rw[←Abm] at a;have d:=Yv a.1 a.2;unfold D7;simp only;rw[Ce (by rw[Ap];omega),A7 Aa (by rw[Ap];omega),Ayn _ a.2,bd_ret,Au Aa,Zl Aa Aa,Zl (by simp;omega) (by simp;omega),Av Aa Aa,Uy,Qh]
  rfl) (by
  unfold D7;simp only;rw[Ch (by rw[Ap];omega)])
 exact key
theorem Alz {l:Lp} (a:LoopOk l):Nx l=some (Kg l):=by
 unfold Nx;rw[As6 a,bd_ret,Out.on_go];simp only;rw[A1d a,bd_ret,Out.on_go]
theorem Ara {n:Nat}{f:Nat→Nat} (h:∀ i,f i≤100) (c:n≤100):RowsOk ((List.range n).map fun i=>List.replicate (f i) (0:Int)):=by
 refine⟨fun xs a x b=>?_,fun xs a=>?_,by rw[Ej];simp;omega⟩
 ·obtain⟨i,_,rfl⟩:=Iv.1 a
  obtain rfl:=Aqt b;exact .z
 ·obtain⟨i,_,rfl⟩:=Iv.1 a
  rw[Ej,Acy];have:=h i;omega
theorem Aus {l:Lp} (b:LoopOk l):FitsP l (Kg l)∧RowsOk (Kg l).bef∧RowsOk (Kg l).mem:=by
 have k:=b.2.2.1;have m:=b.1;have d:∀ i:Nat,i<l.body.length→(Kg l).bef.getD i []=List.replicate 3 0:=fun i hi=>H7 (g:=fun _=>List.replicate 3 (0:Int)) hi;have e:∀ i:Nat,i<l.logs.length→(Kg l).mem.getD i []=List.replicate ((2:Int) ^ (ele l.logs (i:Int)).toNat).toNat (0:Int):=fun i hi=>H7 (g:=fun i:Nat=>List.replicate ((2:Int) ^ (ele l.logs (i:Int)).toNat).toNat (0:Int)) hi;refine⟨⟨b,by simp[Kg],by simp[Kg],fun i hi=>?_,fun i hi=>?_⟩,Ara (f:=fun _=>3) (fun _=>Aa) Aa,?_⟩
 ·rw[d i (by simpa[Kg] using hi)];rfl
 ·have hi:i<l.logs.length:=by simpa[Kg] using hi
  have a:=b.log i hi;have h:=Yv a.1 a.2;rw[e i hi,Acy,Abm,Adz Aa]
 ·refine⟨fun xs c x j=>?_,fun xs c=>?_,by rw[Ej];simp[Kg];omega⟩
  ·obtain⟨i,_,rfl⟩:=Iv.1 c
   obtain rfl:=Aqt j;exact .z
  ·obtain⟨i,hi,rfl⟩:=Iv.1 c
   have a:=b.log i (Ux.1 hi);rw[←Abm] at a;have h:=Yv a.1 a.2;rw[Ej,Acy];omega
theorem Auh {l:Lp} (a:l.Fine) (c:LoopOk l) {t:Tgt} (d:C4 t=true) :
  (∃ p v,Da l t=some (M9 l t p v,G7 l.body.length,0)∧TakesP l t (M9 l t p v) (G7 l.body.length))∨Da l t=some (⟨0,0,[]⟩,[],1):=by
 rcases A3i a c d with ⟨p,v,e,_,_,b⟩ | ⟨e,_⟩
 ·exact .inl ⟨p,v,e,b⟩
 ·exact .inr e
theorem Azn {l:Lp} (a:l.Fine) {s:Sta} (h:StaOk l s) {n:Nat} (e:n≤200):(∀ v∈Aiw l s n,InR v)∧(Aiw l s n).length≤16:=by
 have b:=T4 h.loop;refine⟨fun v d=>?_,by unfold Aiw;rw[Ge];exact b⟩;obtain⟨k,_,rfl⟩:=Iv.1 d;exact T9 (fun r c=>((Ali a h n Aa).1 r c).rng) 0 k
theorem Avs {l:Lp}{t:Tgt}{y:LayD}{b:List (List Int)} (a:∀ r∈b,∀ x∈r,InR x) {r:List Int} (c:∀ x∈r,InR x) {n:Int}{m:Nat}:∀ v∈(List.range m).map (Aad l t y b r n),InR v:=fun v d=>by
 obtain⟨i,_,rfl⟩:=Iv.1 d;unfold Aad;split
 ·exact T9 a _ _
 ·exact Ae7 c _
theorem Auw {l:Lp} (a:l.Fine) (d:LoopOk l) {t:Tgt} (C:C4 t=true) {s:Sta} (c2:FitsP l s) (b:RowsOk s.bef) (j:RowsOk s.mem) {N:Nat} (h:N≤200) :
  ∃ O M0,(∀ v∈O,InR v)∧O.length≤16∧Kw l s N=some (⟨O,M0⟩,0) ∧
   ((∃ k order regs x M O',(∀ v∈O',InR v)∧O'.length≤16∧Da l t=some (k,order,0)∧Hu l t k order s.bef=some (regs,0)∧Jf t k regs s.mem N=some (x,M,0)∧Ht l t k order s.bef x N=some (O',0))∨Da l t=some (⟨0,0,[]⟩,[],1)):=by
 have hs:=c2.ok b j;obtain⟨F,G⟩:=Azn a hs h;refine⟨Aiw l s N,(Oy l s N).2,F,G,Run_s a hs (by rw[Ayr l s a b j,Dm c2]) N h,?_⟩;have I:1≤l.body.length∧l.body.length≤16:=⟨d.2.1,d.2.2.1⟩;have B:=T4 d;rcases Auh a d C with ⟨p,v,e,f⟩ | e
 ·left
  have c:Aeb l (M9 l t p v):=Ajn a
  have w:(G7 l.body.length).length≤9223372036854775807:=by rw[O9];omega
  have g:=f.lay;have o:Wu l s.bef:=⟨hs.len,fun i hi=>hs.bef i hi⟩;have q:s.bef.length≤9223372036854775807:=b.len;have H:=(Vg g).regs;have J:(Co l t (M9 l t p v) (G7 l.body.length)).regs=t.regs:=rfl;have u:=Arw hs.loop hs.mem;have K:=hs.mem.small hs.loop
  have A:((Afg (Co l t (M9 l t p v) (G7 l.body.length)) s.bef t.regs.toNat l.body.length).length:Int)=t.regs:=by rw[Ag6];omega
  obtain⟨L,M',E,z⟩:=A5u (r:=Afg (Co l t (M9 l t p v) (G7 l.body.length)) s.bef t.regs.toNat l.body.length) (M:=s.mem) g.may (fun i hi=>((c i hi).rbody (Gv (ele (M9 l t p v).ops (i:Int))) (Zf _ (Z5 ..))).2.2.2.2.2.2.2.2) h ⟨A,Ao1 b.rng _⟩ ⟨hs.mem.len,hs.mem.row,hs.mem.rng⟩
   (by rw[Avj Aa j.lens,Dm u.1,u.2];rfl) (by rw[Ax2 c,Dm g.may])
  refine⟨_,_,_,_,_,_,Avs (l:=l) (t:=t) (y:=Co l t (M9 l t p v) (G7 l.body.length)) (n:=(N:Int)) (m:=l.outs.length) b.rng z.rng,by rw[Ge,List.length_range];exact B,e,?_,E,?_⟩
  ·rw[A2u a c w q,Dm ⟨f,o⟩,Bg rfl]
  ·rw[A2d a c w q,Dm ⟨f,o,z.len⟩,Bg rfl,show (Ao ((N:Int)<0) || Ao ((N:Int)>200))=Ay from by rw[Ss,H5,H5];omega,Bb Ai]
 ·exact .inr e
theorem Ari {l:Lp} (s:l.Fine) (b:LoopOk l) {t:Tgt} (H:C4 t=true) {n:Int} (z:0≤n):∃ r,(∀ x,Dl t x l n=some r)∧(∀ x,Fi t x l n=some r)∧r.length≤2000:=by
 obtain⟨c2,q,u⟩:=Aus b
 have two:∀ r,(∀ x,Dl t x l n=some r)→(bd (Kw l (Kg l) n) fun v =>
   br (v.2 != 0) (some [63]) (bd (Da l t) fun c=>br (c.2.2 != 0) (some [110,111,110,101]) (
   bd (Hu l t c.1 c.2.1 (Kg l).bef) fun I=>bd (Jf t c.1 I.1 (Kg l).mem n) fun J=>bd (Ht l t c.1 c.2.1 (Kg l).bef J.1 n) fun w =>
   bd (B6 [] v.1.outs) fun d=>br (d != []) (ck (SL (d++[32]))<|ck (SL ((d++[32])++[58]))<|bd (B6 ((d++[32])++[58]) w.1) fun K=>some K) (
   ck (SL (d++[58]))<|bd (B6 (d++[58]) w.1) fun L=>some L))))=some r→r.length≤2000→∃ r,(∀ x,Dl t x l n=some r)∧(∀ x,Fi t x l n=some r)∧r.length≤2000:=fun r A B C=>⟨r,A,fun x=>by
  unfold Fi;rw[show lp (Kf l) ([],0)=_ from As6 b,bd_ret,Out.on_go];simp only;rw[Ayt b,bd_ret,Out.on_go];simp only
  exact B,C⟩
 by_cases c1:n>200
 ·have e:=A0t l (Kg l) n s q u c2 (.inr c1)
  refine two [63] (fun x=>?_) ?_ Ba
  ·unfold Dl
   rw[Alz b,bd_ret,e,bd_ret];rfl
  ·rw[e,bd_ret];rfl
 obtain⟨N,rfl⟩:=H6 z;obtain⟨O,M0,h,S,g,E⟩:=Auw s b H c2 q u (N:=N) Aa;rcases E with ⟨k,order,regs,x,M,O',i,T,f,m,o,p⟩ | f
 ·have a:=Kx h
  have P:=Kx i
  have Q:(En O++[32,58]++En O').length≤1000:=by simp only[B2,Dx,Ew];omega
  refine two ((En O++[32,58]++En O').drop 1) (fun y=>?_) ?_ (by rw[M5];omega)
  ·unfold Dl Jl
   rw[Alz b,bd_ret,g,bd_ret,show (((⟨O,M0⟩:Rst),(0:Int)).2 != 0)=Ay from rfl,br_false,f,bd_ret,show ((k,order,(0:Int)).2.2 != 0)=Ay from rfl,br_false];simp only;rw[m,bd_ret,o,bd_ret,p,bd_ret,Atf h Aa Ba,bd_ret,Ww,Au (Qg (by simp only[B2,Dx,Ew];omega)),Atf i Aa (by simp only[B2,Dx,Ew];omega),bd_ret,bd_ret];congr 1
   cases O with
   | nil=>rfl
   | cons n r=>rw[Pz];simp only[We];rw[Ahk];rfl
  ·rw[g,bd_ret,show (((⟨O,M0⟩:Rst),(0:Int)).2 != 0)=Ay from rfl,br_false,f,bd_ret,show ((k,order,(0:Int)).2.2 != 0)=Ay from rfl,br_false]
   simp only;rw[m,bd_ret,o,bd_ret,p,bd_ret,U2 h Aa Ba,bd_ret,T3];by_cases j:O=[]
   ·subst j
    rw[show (((En ([]:List Int)).drop 1) != [])=Ay from rfl,br_false,Au (Qg (by simp[En])),U2 i Aa (by simp[En]),bd_ret];rfl
   ·have G:=V1 h j
    have F:=Ate j
    have R:((En O).drop 1).length≤500:=by rw[M5];omega
    rw[show (((En O).drop 1) != [])=true by rw[Te];exact G,br_true,Au (Qg (by simp only[B2,Dx,Ew];omega)),Au (Qg (by simp only[B2,Dx,Ew];omega)),
     U2 i Aa (by simp only[B2,Dx,Ew];omega),bd_ret,Vf _ Ba]
    congr 1;rw[Gw (En O),List.drop_append_of_le_length F];simp
 ·refine two [110,111,110,101] (fun x=>?_) ?_ Ba
  ·unfold Dl
   rw[Alz b,bd_ret,g,bd_ret,show (((⟨O,M0⟩:Rst),(0:Int)).2 != 0)=Ay from rfl,br_false,f,bd_ret];rfl
  ·rw[g,bd_ret,show (((⟨O,M0⟩:Rst),(0:Int)).2 != 0)=Ay from rfl,br_false,f,bd_ret];rfl
def Lj (k:Krn) (i:Nat):List UInt8:=((List.range i).map fun j:Nat=>En [(ele k.ops (j:Int)).slot,(ele k.ops (j:Int)).stage,(ele k.ops (j:Int)).dest]).flatten
theorem V3 (k:Krn) (i:Nat):Lj k (i+1)=Lj k i++En [(ele k.ops (i:Int)).slot,(ele k.ops (i:Int)).stage,(ele k.ops (i:Int)).dest]:=by
 unfold Lj;rw[Uy,Qh,Xd];simp
def As2 (k:Krn):Prop:=k.ops.length≤16∧InR k.pace∧InR k.stages∧∀ i:Nat,i<k.ops.length→InR (ele k.ops (i:Int)).slot∧InR (ele k.ops (i:Int)).stage∧InR (ele k.ops (i:Int)).dest
theorem Agr {a b c:Int} (h:InR a∧InR b∧InR c):∀ v∈[a,b,c],InR v:=fun v d=>by
 simp only[Gl,Af3,or_false] at d;rcases d with rfl | rfl | rfl
 ·exact h.1
 ·exact h.2.1
 ·exact h.2.2
theorem Z9 {a b:Int} (h:InR a∧InR b):∀ v∈[a,b],InR v:=fun v c=>by
 simp only[Gl,Af3,or_false] at c;rcases c with rfl | rfl
 ·exact h.1
 ·exact h.2
theorem U3 {a:Int} (h:InR a):∀ v∈[a],InR v:=fun v b=>by rw[Gx] at b;subst b;exact h
theorem S0 {k:Krn} (h:As2 k):∀ i,i≤k.ops.length→(Lj k i).length≤i * 63
 | 0,_=>by simp[Lj]
 | i+1,hi=>by
  have a:=S0 h i Aa;have b:=Kx (Agr (h.2.2.2 i Aa));rw[V3,B2];simp only[Dx,Ew] at b;omega
theorem A0h {k:Krn}{order:List Int}{e:Int} (h:As2 k) {s:List UInt8} (hs:s.length≤1000):lp (Eg (k,order,e)) (s,0)=some (.go (s++Lj k k.ops.length,(k.ops.length:Int))):=by
 have d:=h.1
 have key:=Gy (f:=Eg (k,order,e)) (fun i=>(s++Lj k i,(i:Int))) k.ops.length (fun i hi=>by
  have a:=S0 h i Aa;have b:IX (i:Int) (ln k.ops):=⟨Aa,by rw[Ap];omega⟩;unfold Eg;simp only;rw[Ce b.2,Au b,Ans (Agr (h.2.2.2 i hi)) Ba (by rw[B2];omega),bd_ret,Av Aa Aa,V3,Gw]
  rfl) (by
  unfold Eg;simp only;rw[Ch (by rw[Ap];omega)])
 have c:s++Lj k 0=s:=by simp[Lj]
 simp only[c] at key;exact key
theorem Avw {k:Krn}{order:List Int}{e:Int} (h:As2 k) {s:List UInt8} (d:s≠[]) (hs:s.length≤1000):lp (D8 (k,order,e)) (s,0)=some (.go (s++Lj k k.ops.length,(k.ops.length:Int))):=by
 have g:=h.1
 have key:=Gy (f:=D8 (k,order,e)) (fun i=>(s++Lj k i,(i:Int))) k.ops.length (fun i hi=>by
  have a:=S0 h i Aa;have b:IX (i:Int) (ln k.ops):=⟨Aa,by rw[Ap];omega⟩;unfold D8;simp only;rw[Ce b.2,Au b,Au b,Au b,U2 (Agr (h.2.2.2 i hi)) Ba (by rw[B2];omega),bd_ret,Av Aa Aa,V3,Vf _ (by simp[d]),Gw]
  rfl) (by
  unfold D8;simp only;rw[Ch (by rw[Ap];omega)])
 have c:s++Lj k 0=s:=by simp[Lj]
 simp only[c] at key;exact key
theorem A0j {l:Lp} (f:l.Fine) (g:LoopOk l) {t:Tgt} (h:C4 t=true):(∃ k order,Da l t=some (k,order,0)∧As2 k)∨Da l t=some (⟨0,0,[]⟩,[],1):=by
 rcases Auh f g h with ⟨p,v,e,c⟩ | e
 ·left
  have a:=c.lay.may;have m:=a.pace;have hs:=a.stages;refine⟨_,_,e,a.n.2,⟨Aa,Aa⟩,⟨Aa,Aa⟩,fun i hi=>?_⟩;have b:=a.one i hi;have j:=Aac a b;have d:=b.1;unfold Axn at d;exact⟨⟨Aa,Aa⟩,⟨Aa,Aa⟩,⟨Aa,Aa⟩⟩
 ·exact .inr e
def edW:List UInt8:=[101,100,103,101,115]
def boW:List UInt8:=[98,111,117,110,100]
def buW:List UInt8:=[98,117,105,108,100]
def tuW:List UInt8:=[116,117,114,110,115]
theorem Ahy {t:Tgt} (o:C4 t=true) {x:List UInt8} (a:x.length≤1048576) {word:List UInt8} (U:word=edW∨word=boW∨word=buW∨word=tuW) {m:Int} (R:0≤m) :
  ∃ r,Bv t x word m=some r∧r.length≤2000∧∀ words n,0<ln words→ele words 0=word→(word=tuW→0<ln n∧ele n 0=m)→B7 t x words n=some r:=by
 have z:=Ars a
 have hat:InR (N8 x).2.at':=by
  obtain⟨n,u,a4,a5,N,a6,a7⟩:=Xp a
  have key:∀ (V:List (List UInt8)) (l:Lp) (i:Nat),(Qj l i V).2≤i+V.length:=by
   intro V
   induction V with
   | nil=>intro l i;simp[Qj]
   | cons s r W =>
    intro l i
    cases P:Q8 l s with
    | none=>rw[Vq P];simp
    | some q=>rw[Vp P];have:=W q (i+1);simp only[Dx];omega
  have j:=key (spl 10 x).dropLast ⟨[],[],[]⟩ 0;unfold N8 Aqa;split
  ·split
   ·exact .z
   ·exact⟨by simp only;omega,by simp only;omega⟩
  ·exact⟨by simp only;omega,by simp only;omega⟩
 by_cases C:(N8 x).2.code=0
 case neg =>
  have b:((N8 x).2.code != 0)=true:=by rw[Te];exact C
  have e:=Ans (word:=[98,97,100]) (U3 hat) Ba Ba;have h:=Kx (U3 hat);refine⟨[98,97,100]++En [(N8 x).2.at'],?_,by rw[B2];simp only[Dx,Ew] at h ⊢;omega,fun words n f g p=>?_⟩
  ·unfold Bv
   rw[Ku a,bd_ret,b,br_true,U2 (U3 hat) Ba Ba,bd_ret,Vf _ Ba]
  ·unfold B7
   rw[Ku a,bd_ret,b,br_true,e,bd_ret]
 have b:((N8 x).2.code != 0)=Ay:=by rw[C];rfl
 obtain⟨h,_⟩:=Art C;have v:=z.fine Aa;obtain⟨l,d⟩:∃ l,(N8 x).1=l:=⟨_,rfl⟩;rw[d] at h v;have S:=h.2.2.1;have G:(edW==[101,100,103,101,115])=true:=rfl;have H:(boW==[101,100,103,101,115])=Ay:=rfl;have I:(boW==[98,111,117,110,100])=true:=rfl;have y:(buW==[101,100,103,101,115])=Ay:=rfl;have A:(buW==[98,111,117,110,100])=Ay:=rfl;have B:(buW==[98,117,105,108,100])=true:=rfl;have J:(tuW==[101,100,103,101,115])=Ay:=rfl;have K:(tuW==[98,111,117,110,100])=Ay:=rfl;have M:(tuW==[98,117,105,108,100])=Ay:=rfl;rcases U with rfl | rfl | rfl | rfl
 ·obtain⟨E,u,_,_,_,O⟩:=Sh h v o
  have c:InR (ln E):=⟨by rw[Ap];omega,by rw[Ap];omega⟩;have w:=Kx (U3 c);simp only[Dx,Ew] at w;refine⟨(En [ln E]).drop 1,?_,by rw[M5];omega,fun words n f g p=>?_⟩
  ·unfold Bv
   rw[Ku a,bd_ret,b,br_false,G,br_true,d,u,bd_ret,U2 (U3 c) Ba Ba,bd_ret,T3]
  ·unfold B7
   rw[Ku a,bd_ret,b,br_false,Au ⟨E6 _,f⟩,g,G,br_true,d,u,bd_ret,Ama (U3 c) Ba,bd_ret]
 ·obtain⟨E,u,_,_,N,O⟩:=Sh h v o
  obtain⟨L,b1,b2,a2,a3,F⟩:=Aui h o u N O;have b4:=Aw5 S o 3;have a8:=Ae9 h o;have c:InR (uB l t 3:Int)∧InR (L:Int):=⟨⟨Aa,Aa⟩,⟨Aa,Aa⟩⟩;have w:=Kx (Z9 c);simp only[Dx,Ew] at w;refine⟨(En [(uB l t 3:Int),(L:Int)]).drop 1,?_,by rw[M5];omega,fun words n f g p=>?_⟩
  ·unfold Bv
   rw[Ku a,bd_ret,b,br_false,H,br_false,I,br_true,d,F,bd_ret,U2 (Z9 c) Ba Ba,bd_ret,T3]
  ·unfold B7
   rw[Ku a,bd_ret,b,br_false,Au ⟨E6 _,f⟩,g,H,br_false,I,br_true,d,F,bd_ret,Ama (Z9 c) Ba,bd_ret]
 ·rcases A0j v h o with ⟨k,order,e,j⟩ | e
  ·have c:InR k.pace∧InR k.stages:=⟨j.2.1,j.2.2.1⟩
   have w:=Kx (Z9 c);simp only[Dx,Ew] at w;have b3:=S0 j k.ops.length (Cf _);have b0:=j.1;have T:=V1 (Z9 c) Ba
   have a9:((En [k.pace,k.stages]).drop 1).length≤100:=by rw[M5];omega
   have Q:((k,order,(0:Int)).2.2 != 0)=Ay:=rfl;refine⟨(En [k.pace,k.stages]).drop 1++Lj k k.ops.length,?_,by rw[B2];omega,fun words n f g p=>?_⟩
   ·unfold Bv
    rw[Ku a,bd_ret,b,br_false,y,br_false,A,br_false,B,br_true,d,e,bd_ret,Q,br_false];simp only;rw[U2 (Z9 c) Ba Ba,bd_ret,T3,Avw j T Aa,bd_ret,Out.on_go]
   ·unfold B7 G6
    rw[Ku a,bd_ret,b,br_false,Au ⟨E6 _,f⟩,g,y,br_false,A,br_false,B,br_true,d,e,bd_ret,Q,br_false];simp only;rw[Ama (Z9 c) Ba,bd_ret,A0h j Aa,bd_ret,Out.on_go,bd_ret]
  ·refine⟨[110,111,110,101],?_,Ba,fun words n f g p=>?_⟩
   ·unfold Bv
    rw[Ku a,bd_ret,b,br_false,y,br_false,A,br_false,B,br_true,d,e,bd_ret];rfl
   ·unfold B7 G6
    rw[Ku a,bd_ret,b,br_false,Au ⟨E6 _,f⟩,g,y,br_false,A,br_false,B,br_true,d,e,bd_ret];rfl
 ·obtain⟨r,r1,a0,a1⟩:=Ari v h o R
  refine⟨r,?_,a1,fun words n f g p=>?_⟩
  ·unfold Bv
   rw[Ku a,bd_ret,b,br_false,J,br_false,K,br_false,M,br_false,d,a0,bd_ret]
  ·obtain⟨X,Y⟩:=p rfl
   unfold B7;rw[Ku a,bd_ret,b,br_false,Au ⟨E6 _,f⟩,g,J,br_false,K,br_false,M,br_false,Au ⟨E6 _,X⟩,Y,d,r1,bd_ret]
def maW:List UInt8:=[109,97,99,104,105,110,101]
def frW:List UInt8:=[102,114,101,115,104]
theorem Ajj {t:Tgt}{x:List UInt8}{l:List Int} (i:l.length=7):F7 t x l=some (if C4 (Ad6 l)=true then ([111,107],Ad6 l) else ([63],t)):=by
 match l,i with
 | [a,b,c,d,e,f,g],_ =>
  unfold F7
  rw[Au ⟨Ai,Ai,by simp[ln]⟩,Au (by rw[show sub [a,b,c,d,e,f,g] 0 3=[a,b,c] from rfl];simp[ln]),Au ⟨Ai,Ai,by simp[ln]⟩,Au (by rw[show sub [a,b,c,d,e,f,g] 3 6=[d,e,f] from rfl];simp[ln]),Au ⟨Ai,by simp[ln]⟩,
   show (Tgt.mk (ele (sub [a,b,c,d,e,f,g] 0 3) 0) (ele (sub [a,b,c,d,e,f,g] 0 3) 1) (ele (sub [a,b,c,d,e,f,g] 0 3) 2) (ele (sub [a,b,c,d,e,f,g] 3 6) 0) (ele (sub [a,b,c,d,e,f,g] 3 6) 1) (ele (sub [a,b,c,d,e,f,g] 3 6) 2) (ele [a,b,c,d,e,f,g] 6))=Ad6 [a,b,c,d,e,f,g] from rfl,Jd,bd_ret]
  cases h:C4 (Ad6 [a,b,c,d,e,f,g]) with
  | true=>rw[F0,br_false,Bg rfl]
  | false=>rw[Jz,br_true,Bb Ai]
theorem A19 {l:List Int}{i v:Int}:ln (upd l i v)=ln l:=by unfold ln upd;simp
theorem Ami {l B:List Int} (d:l.length=7) (b:B.length=7) {i:Nat} (hi:i<3):Ec l (B,(i:Int))=some (.next (upd (upd B (i:Int) (ele l (i:Int))) (3+(i:Int)) (ele l (3+(i:Int))),((i+1:Nat):Int))):=by
 have a:ln l=7:=by rw[Ap];omega
 have c:ln B=7:=by rw[Ap];omega
 unfold Ec;simp only;rw[Ce Aa,A7 Aa Aa,A7 Aa Aa,A7 Aa Aa,Av Aa Aa,A7 Aa Aa,A7 Aa Aa,A7 Aa (by rw[A19];omega),Av Aa Aa];rfl
theorem A3z {l:List Int} (h:l.length=7):lp (Ec l) (([0,0,0,0,0,0,ele l 6]:List Int),0)=some (.go (l,3)):=by
 match l,h with
 | [a,b,c,d,e,f,g],_ =>
  have j:=Ami (l:=[a,b,c,d,e,f,g]) (B:=[0,0,0,0,0,0,g]) rfl rfl (i:=0) Aa;have k:=Ami (l:=[a,b,c,d,e,f,g]) (B:=[a,0,0,d,0,0,g]) rfl rfl (i:=1) Aa;have m:=Ami (l:=[a,b,c,d,e,f,g]) (B:=[a,b,0,d,e,0,g]) rfl rfl (i:=2) Aa;have n:Ec [a,b,c,d,e,f,g] ([a,b,c,d,e,f,g],3)=some (.brk ([a,b,c,d,e,f,g],3)):=rfl;exact Bz j (Bz k (Bz m (C2 n)))
theorem Ar1 {t:Tgt}{x:List UInt8}{W:List (List UInt8)}{v:List Int}{i:Nat} (hi:i<W.length) (d:W.length≤4000000) (f:v.length≤i) :
  Di t x W (v,(i:Int))=some (Agp (Y7 (ele W (i:Int))) (fun n=>(v++[n],((i+1:Nat):Int))) ([63],t,x)):=by
 have c:IX (i:Int) (ln W):=⟨Aa,by rw[Ap];omega⟩;obtain⟨n,b,e,h⟩:=(Avm (s:=ele W (i:Int))).val;unfold Di;simp only;rw[Ce c.2,Au c,e,bd_ret]
 cases a:Y7 (ele W (i:Int)) with
 | none=>rw[a] at h;rw[show b=Ay from h];rfl
 | some m =>
  rw[a] at h;obtain⟨rfl,rfl⟩:=h;rw[F0,br_false,Zl (by simp;omega) (by simp;omega),Av Aa Aa];rfl
theorem Avu {t:Tgt}{x k:List UInt8}{a:List (List UInt8)} (c:a.length≤3000000):lp (Di t x (k::a)) ([],1)=some (R9 (Tu a) (fun l=>(l,(((k::a).length:Nat):Int))) ([63],t,x)):=by
 have key:=An3 (F:=Di t x (k::a)) (f:=fun v i=>(v,(i:Int))) (bad:=(([63]:List UInt8),t,x)) (k::a) 0 (fun i v hi b=>Ar1 hi (by simp only[Dx];omega) b) (fun v=>by
  unfold Di;simp only;rw[Ch (by rw[Ap];omega)]) a 1 [] rfl (by simp only[Dx];omega) Ba
 exact key
theorem Avr {t:Tgt} (f:C4 t=true) {x s:List UInt8} (W:x.length+s.length≤1048576) :
  ∃ r,Dc t x s=some r∧Hm t x s=some r∧r.1.length≤2000∧C4 r.2.1=true∧r.2.2.length≤x.length+s.length:=by
 unfold Dc Hm Mb;rw[bd_ret];by_cases w:∃ q,s=61::32::q
 ·obtain⟨q,rfl⟩:=w
  simp only[Dx] at W
  have U:Ru (61::32::q) [61,32]=q:=by simp[Ru,Og,List.isPrefixOf]
  have V:Og (61::32::q) [61,32]=true:=by simp[Og,List.isPrefixOf]
  have J:ln (61::32::q)=(q.length:Int)+2:=by rw[Ap];simp only[Dx];omega
  have es:sub (61::32::q) 2 (ln (61::32::q))=q:=by unfold Rd.sub;rw[J];simp
  have A:InR (ln (x++(q++[10]))):=⟨by rw[Ap];omega,by rw[Ap];simp only[B2,Dx,Ew];omega⟩;have T:=Kx (U3 A);simp only[Dx,Ew] at T;refine⟨([111,107]++En [ln (x++(q++[10]))],t,x++(q++[10])),?_,?_,by rw[B2];simp only[Dx,Ew];omega,f,by simp only[B2,Dx,Ew];omega⟩
  ·rw[U,V]
   simp only;rw[br_true,Au (Qg (by simp only[B2,Dx,Ew];omega)),Au (Qg (by simp only[B2,Dx,Ew];omega)),Ans (U3 A) Ba Ba,bd_ret]
  ·rw[Fc (fun _=>⟨E6 _,Aa,Aa⟩),Lr (show ln (61::32::q)≥2 from Aa),show (sub (61::32::q) 0 2==[61,32])=true from rfl,Afy,br_true,Au ⟨Aa,Aa,E6 _⟩,es,
    Au (Qg (by simp only[B2];omega)),Au (Qg (by simp only[B2,Dx,Ew];omega)),Gw,U2 (U3 A) Ba Ba,bd_ret,Vf _ Ba]
 have S:Og s [61,32]=Ay:=by
  cases h:Og s [61,32] with
  | false=>rfl
  | true =>
   exfalso
   match s with
   | []=>simp[Og,List.isPrefixOf] at h
   | [a]=>simp[Og,List.isPrefixOf] at h
   | a::b::q =>
    simp only[Og,List.isPrefixOf,Bool.and_true,E0,C8] at h;exact w ⟨q,by rw[←h.1,←h.2]⟩
 have P:((Ao ((ln s)≥2))&&((sub s 0 2)==[61,32]))=Ay:=by
  cases h:((Ao ((ln s)≥2))&&((sub s 0 2)==[61,32])) with
  | false=>rfl
  | true =>
   exfalso;rw[E0,C8] at h
   match s with
   | []=>exact absurd h.2 Ai
   | [a]=>have:=congrArg List.length h.2;simp[Rd.sub] at this
   | a::b::q =>
    have N:[a,b]=[61,32]:=h.2
    injection N with O z
    injection z with z _
    exact w ⟨q,by rw[O,z]⟩
 rw[S,Fc (fun h=>⟨E6 _,Aa,Af7 h⟩),P];simp only;rw[br_false,br_false];by_cases H:s=frW
 ·have e:(s==[102,114,101,115,104])=true:=C8.2 H
  rw[e,br_true,br_true];exact⟨_,rfl,rfl,Ba,f,Ba⟩
 have M:(s==[102,114,101,115,104])=Ay:=Wk H;obtain⟨k,a,e,a0,X,a1⟩:=Aoe (c:=32) (s:=s)
 have J:ln (k::a)=(a.length:Int)+1:=by rw[Ap];simp
 have c0:IX 0 (ln (k::a)):=⟨E6 _,Aa⟩;have d:ele (k::a) 0=k:=rfl;rw[M,br_false,br_false,Abq _ Aa,bd_ret,Az3 _ Aa,bd_ret,e,Au ⟨Aa,Aa,E6 _⟩,Eo,Ajh Aa (fun p w=>by have:=X p w;omega),bd_ret,Avu Aa,bd_ret];have bad:∃ r:List UInt8×Tgt×List UInt8,(some (([63]:List UInt8),t,x):Option _)=some r∧(some (([63]:List UInt8),t,x):Option _)=some r∧r.1.length≤2000∧C4 r.2.1=true∧r.2.2.length≤x.length+s.length:=⟨_,rfl,rfl,Ba,f,Ba⟩
 cases R:Tu a with
 | none =>
  simp only[R9,Out.on_ret,Jz];rw[br_true];exact bad
 | some l =>
  obtain⟨Y,a2⟩:=Aok R;simp only[R9,Out.on_go,F0];rw[br_false];by_cases K:k=maW∧l.length=7
  ·obtain⟨u,n⟩:=K
   have c1:((k==[109,97,99,104,105,110,101])&&(ln l==7))=true:=by rw[E0];exact⟨C8.2 u,by rw[C8,Ap];omega⟩
   have G:IX 6 (ln l):=⟨Aa,by rw[Ap];omega⟩
   cases v:C4 (Ad6 l) with
   | true =>
    refine⟨([111,107],Ad6 l,x),?_,?_,Ba,v,Ba⟩
    ·rw[Au c0,d,c1,br_true,Ajj n,bd_ret,v,Bg rfl]
    ·rw[Au c0,d,c1,br_true,Au G,A3z n,bd_ret,Out.on_go]
     simp only;rw[Au n,Jd,bd_ret,v,F0,br_false,Au n]
   | false =>
    refine⟨([63],t,x),?_,?_,Ba,f,Ba⟩
    ·rw[Au c0,d,c1,br_true,Ajj n,bd_ret,v,Bb Ai]
    ·rw[Au c0,d,c1,br_true,Au G,A3z n,bd_ret,Out.on_go]
     simp only;rw[Au n,Jd,bd_ret,v,Jz,br_true]
  have c1:((k==[109,97,99,104,105,110,101])&&(ln l==7))=Ay:=by
   rw[Af9];intro h;rw[E0,C8,C8,Ap] at h;exact K ⟨h.1,by have:=h.2;omega⟩
  have ask:∀ (word:List UInt8),(word=edW∨word=boW∨word=buW)→s=word→∃ r:List UInt8,B7 t x (k::a) l=some r∧Bv t x s 0=some r∧r.length≤2000:=fun word y hs=>by
   have u:k=word:=by
    have:spl 32 s=[s]:=T1 (by rw[hs];rcases y with rfl | rfl | rfl <;> decide);rw[e] at this
    injection this with F _
    rw[F,hs]
   obtain⟨r,r1,g,j⟩:=Ahy f (x:=x) Aa (word:=word) (by rcases y with h | h | h <;> simp[h]) (m:=0) (E6 _);exact⟨r,j _ _ c0.2 (by rw[d,u]) (fun h=>by rw[h] at y;exact absurd y Ai),by rw[hs];exact r1,g⟩
  by_cases B:s=edW
  ·obtain⟨r,r1,g,j⟩:=ask edW (.inl rfl) B
   have w1:(s==[101,100,103,101,115])=true:=C8.2 B;refine⟨(r,t,x),?_,?_,j,f,Ba⟩
   ·rw[Au c0,d,c1,br_false,w1,br_true,br_true,r1,bd_ret]
   ·rw[Au c0,d,c1,br_false,w1,Uw,Uw,br_true,g,bd_ret]
  have w1:(s==[101,100,103,101,115])=Ay:=Wk B;by_cases C:s=boW
  ·obtain⟨r,r1,g,j⟩:=ask boW (.inr (.inl rfl)) C
   have w2:(s==[98,111,117,110,100])=true:=C8.2 C;refine⟨(r,t,x),?_,?_,j,f,Ba⟩
   ·rw[Au c0,d,c1,br_false,w1,br_false,w2,br_true,br_true,r1,bd_ret]
   ·rw[Au c0,d,c1,br_false,w1,w2,Wb,Uw,br_true,g,bd_ret]
  have w2:(s==[98,111,117,110,100])=Ay:=Wk C;by_cases E:s=buW
  ·obtain⟨r,r1,g,j⟩:=ask buW (.inr (.inr rfl)) E
   have o:(s==[98,117,105,108,100])=true:=C8.2 E;refine⟨(r,t,x),?_,?_,j,f,Ba⟩
   ·rw[Au c0,d,c1,br_false,w1,br_false,w2,br_false,o,br_true,br_true,r1,bd_ret]
   ·rw[Au c0,d,c1,br_false,w1,w2,o,Wb,Wb,br_true,g,bd_ret]
  have o:(s==[98,117,105,108,100])=Ay:=Wk E;by_cases L:k=tuW∧l.length=1
  ·obtain⟨u,F⟩:=L
   have c2:((k==[116,117,114,110,115])&&(ln l==1))=true:=by rw[E0];exact⟨C8.2 u,by rw[C8,Ap];omega⟩
   have I:0<ln l:=by rw[Ap];omega
   have Q:ele l 0∈l:=Dt (l:=l) (i:=0) Aa;obtain⟨r,r1,g,j⟩:=Ahy f (x:=x) Aa (word:=tuW) (.inr (.inr (.inr rfl))) (m:=ele l 0) (Y _ Q).1;refine⟨(r,t,x),?_,?_,g,f,Ba⟩
   ·rw[Au c0,d,c1,br_false,w1,br_false,w2,br_false,o,br_false,Au c0,c2,br_true,j (k::a) l c0.2 (by rw[d];exact u) (fun _=>⟨I,rfl⟩),bd_ret]
   ·rw[Au c0,d,c1,br_false,w1,w2,o,Rt,Rt,br_false,Au c0,c2,br_true,Au ⟨E6 _,I⟩,show Bv t x [116,117,114,110,115] (ele l 0)=some r from r1,bd_ret]
  ·have c2:((k==[116,117,114,110,115])&&(ln l==1))=Ay:=by
    rw[Af9];intro h;rw[E0,C8,C8,Ap] at h;exact L ⟨h.1,by have:=h.2;omega⟩
   refine⟨([63],t,x),?_,?_,Ba,f,Ba⟩
   ·rw[Au c0,d,c1,br_false,w1,br_false,w2,br_false,o,br_false,Au c0,c2,br_false]
   ·rw[Au c0,d,c1,br_false,w1,w2,o,Rt,Rt,br_false,Au c0,c2,br_false]
noncomputable def G8 (a b:List UInt8):Option (Bool) :=
 ck (SL (a++[10])) <|
 bd (Jj (a++[10])) fun c =>
 ck (SL ((a++[10])++b)) <|
 bd (Jj ((a++[10])++b)) fun d =>
 bd (Jj [63]) fun e =>
 ck (((e==[63,10])&&(Ao ((ln d)≥(ln c))))=true→SX 0 (ln c) (ln d)) <|
 some (((e==[63,10])&&(Ao ((ln d)≥(ln c))))&&((sub d 0 (ln c))==c))
end Go.Rd
end