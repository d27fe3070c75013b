/- Texts for the law, 3. -/
import Derived.Test.YtaimbkndebaaiaaGreatDoorZLdriveTells2
import Derived.Shelf.Strconv.AtoiAll
import Derived.KernelRfl
set_option linter.unusedVariables false
set_option linter.unusedSimpArgs false
set_option maxRecDepth 8000
set_option linter.defProp false
open Go renaming World→Ak,Value→Al,Program→Bz,Operand→En
open Decidable renaming decide→Ap
open Bool renaming false→Az
open Go.Value renaming cells→Ea
open Go.Exit renaming inBlock→Hi
open Go.Lib renaming itoa→Fe,decDigits→L5,hasPrefix→P4,trimPrefix→Sj,parseUintM→T7,atoiAll→Vs
open ByteArray renaming mk→N1
open Go.Oper renaming wp→Ii
open Go.Result renaming andThen→Rk
open Go.Instr renaming sureAddr→Rb
open Go.Builtin renaming append_→T9
open UInt8 renaming ofNat→Qd
open Go.Addr renaming add→Ma
open Go.Code renaming region→Sp
section
namespace Go.Rd
def cT:List UInt8:=[99,111,110,115,116]
def tT:List UInt8:=[116,117,114,110]
def lT:List UInt8:=[108,111,97,100]
def sT:List UInt8:=[115,116,111,114,101]
noncomputable def rdC (a:List (List UInt8)):Option Stm:=match a with
 | [x]=>match Nq 19 x with
  | some n=>some ⟨1,⟨0,0⟩,⟨0,0⟩,0,0,0,n⟩
  | none=>none
 | _=>none
def rdU (a:List (List UInt8)):Option Stm:=match a with
 | []=>some ⟨2,⟨0,0⟩,⟨0,0⟩,0,0,0,0⟩
 | _=>none
noncomputable def rdL (a:List (List UInt8)):Option Stm:=match a with
 | [x,y,z]=>match Nq 18 x,Nq 18 y,Nq 18 z with
  | some n,some m,some p=>some ⟨3,⟨0,0⟩,⟨0,0⟩,n,m,p,0⟩
  | _,_,_=>none
 | _=>none
noncomputable def rdS (a:List (List UInt8)):Option Stm:=match a with
 | [x,y,z,q]=>match Nq 18 x,Nq 18 y,Nq 18 z,Un q with
  | some n,some m,some p,some r=>some ⟨4,r,⟨0,0⟩,n,m,p,0⟩
  | _,_,_,_=>none
 | _=>none
noncomputable def rdO (op:Int) (a:List (List UInt8)):Option Stm:=match a with
 | [x,y]=>match Un x,Un y with
  | some r,some q=>some ⟨op,r,q,0,0,0,0⟩
  | _,_=>none
 | _=>none
noncomputable def Tj (k:List UInt8) (a:List (List UInt8)):Option Stm :=
  if k=cT then rdC a else if k=tT then rdU a else if k=lT then rdL a else if k=sT then rdS a
  else if k∈opsW then rdO (11+(opsW.idxOf k:Nat)) a else none
theorem A6b {a:List (List UInt8)} (h:a.length≠1):rdC a=none:=by unfold rdC;split <;> first | exact absurd rfl h | rfl
theorem A56 {a:List (List UInt8)} (h:a.length≠0):rdU a=none:=by unfold rdU;split <;> first | exact absurd rfl h | rfl
theorem A6a {a:List (List UInt8)} (h:a.length≠3):rdL a=none:=by unfold rdL;split <;> first | exact absurd rfl h | rfl
theorem A58 {a:List (List UInt8)} (h:a.length≠4):rdS a=none:=by unfold rdS;split <;> first | exact absurd rfl h | rfl
theorem A59 {op:Int}{a:List (List UInt8)} (h:a.length≠2):rdO op a=none:=by unfold rdO;split <;> first | exact absurd rfl h | rfl
noncomputable def Agj:List (List UInt8)→Option Stm
 | []=>none
 | k::a=>Tj k a
theorem R4 (k:List UInt8) (a:List (List UInt8)):Agj (k::a)=Tj k a:=rfl
theorem Akd:ln opsW=8:=rfl
theorem At4:∀ i:Nat,i<8→opsW.idxOf (ele opsW (i:Int))=i:=by
 have:∀ i:Nat,i<8→opsW.idxOf (opsW.getD i [])=i:=Ah;exact this
theorem Am3 {k:List UInt8}:k∈opsW↔∃ i:Nat,i<8∧ele opsW (i:Int)=k:=by
 constructor
 ·intro h
  obtain⟨i,hi,e⟩:=List.mem_iff_getElem.1 h;refine⟨i,hi,?_⟩;rw[Dj,Ec,E7 hi,e];rfl
 ·rintro⟨i,hi,rfl⟩
  exact D9 (l:=opsW) (by exact hi)
theorem Azy (k:List UInt8):(k∈opsW∧lp (G0 k opsW) 0=some (.ret (11+(opsW.idxOf k:Nat),[114,114],true)))∨(k∉opsW∧lp (G0 k opsW) 0=some (.go 8)):=by
 have key:=Tl (f:=G0 k opsW) (n:=8) (p:=fun i=>ele opsW (i:Int)≠k) (fun i=>((11+(i:Int)),([114,114]:List UInt8),true)) 8 0 Aa (fun i _ hi=>?_) ?_
 ·rcases key with ⟨h,e⟩ | ⟨i,_,hi,d,_,e⟩
  ·right
   refine⟨fun c=>?_,e⟩;obtain⟨i,hi,a⟩:=Am3.1 c;exact h i Aa hi a
  ·left
   have a:=P5.1 d;refine⟨Am3.2 ⟨i,hi,a⟩,?_⟩;have b:=At4 i hi;rw[a] at b;rw[b];exact e
 ·have e:G0 k opsW (i:Int)=br (ele opsW (i:Int)==k) (some (.ret (11+(i:Int),[114,114],true))) (some (.next ((i:Int)+1))):=by
   unfold G0;rw[Akd,Ck Aa,A8 Aa Aa,Ay Aa Aa,Ay Aa Aa,Ay Aa Aa,show (10+(i:Int)+1)=11+(i:Int) from Aa]
  rw[e];refine⟨fun h=>?_,fun h=>?_⟩
  ·rw[Xr.2 h];rfl
  ·rw[Dk.2 (P5.1 h)];rfl
 ·unfold G0
  rw[Akd,Cn Aa]
def Jc (k:List UInt8):Int×List UInt8×Bool :=
 if k=cT then (1,[110],true) else if k=tT then (2,[],true) else if k=lT then (3,[110,110,110],true) else if k=sT then (4,[110,110,110,114],true)
 else if k∈opsW then (11+(opsW.idxOf k:Nat),[114,114],true) else (0,[],Az)
theorem Xe {α:Type} [BEq α] [LawfulBEq α] {a b:α} (h:¬a=b):(a==b)=Az:=Xr.2 h
theorem A2l (k:List UInt8):Pu k=some (Jc k):=by
 unfold Pu Jc;by_cases a:k=cT
 ·rw[Bj a,show (k==[99,111,110,115,116])=true from Dk.2 a];rfl
 rw[Bg a,show (k==[99,111,110,115,116])=Az from Xe a,br_false];by_cases b:k=tT
 ·rw[Bj b,show (k==[116,117,114,110])=true from Dk.2 b];rfl
 rw[Bg b,show (k==[116,117,114,110])=Az from Xe b,br_false];by_cases c:k=lT
 ·rw[Bj c,show (k==[108,111,97,100])=true from Dk.2 c];rfl
 rw[Bg c,show (k==[108,111,97,100])=Az from Xe c,br_false];by_cases d:k=sT
 ·rw[Bj d,show (k==[115,116,111,114,101])=true from Dk.2 d];rfl
 rw[Bg d,show (k==[115,116,111,114,101])=Az from Xe d,br_false,A1k,bd_ret];rcases Azy k with ⟨f,e⟩ | ⟨f,e⟩
 ·rw[Bj f,e,bd_ret,Out.on_ret]
 ·rw[Bg f,e,bd_ret,Out.on_go]
theorem Ads {body:List Stm}{words:List (List UInt8)}{x5:Int×List UInt8×Bool}{B N R:List Int}{i:Nat}{n0 v:Int}{b:Bool} (hi:(i:Int)<ln (sub words 1 (ln words))) (c:(i:Int)<ln x5.2.1) (f:ele x5.2.1 (i:Int)=110) (k:N.length≤100) (a:ele N 0=n0) (l:0<N.length) (g:IX n0 (ln B))
  (m:i<1000) (d:Ft (ele (sub words 1 (ln words)) (i:Int))=some (v,b)) :
  Da body words x5 (B,N,R,(i:Int))=some (if b=true then .next (upd B n0 v,N.drop 1,R,((i+1:Nat):Int)) else .ret (Az,body)):=by
 unfold Da;simp only
 have es:sub N 1 (ln N)=N.drop 1:=by
  unfold Rd.sub;rw[Ao];exact W9 (by rw[Nn];omega)
 have h:IR ((i:Int)+1):=by clear hi c d a;exact⟨Aa,Aa⟩
 have e:((((ele x5.2.1 (i:Int)).toNat:Int))==110)=true:=by rw[f];rfl
 have j:IX 0 (ln N):=⟨Fo _,by rw[Ao];omega⟩;rw[Ck hi,A8 Aa hi,A8 Aa c,e,br_true,Ax j,d,bd_ret,a,Ax g,Rz Aa (by rw[Ao];omega) (Fo _),es]
 cases b with
 | true=>rw[F9,br_false,Bj rfl,Ax h];rfl
 | false=>rw[Kc,br_true,Bg Ah]
theorem Arp {body:List Stm}{words:List (List UInt8)}{x5:Int×List UInt8×Bool}{B N R:List Int}{i:Nat}{r0:Int}{v:Rf}{b:Bool} (hi:(i:Int)<ln (sub words 1 (ln words))) (c:(i:Int)<ln x5.2.1) (f:ele x5.2.1 (i:Int)=114) (l:R.length≤100) (a:ele R 0=r0) (m:0<R.length) (g:IX r0 (ln B)) (h:IX (r0+1) (ln B))
  (n:i<1000) (d:M4 (ele (sub words 1 (ln words)) (i:Int))=some (v,b)) :
  Da body words x5 (B,N,R,(i:Int))=some (if b=true then .next (upd (upd B r0 v.st) (r0+1) v.bk,N,R.drop 1,((i+1:Nat):Int)) else .ret (Az,body)):=by
 unfold Da;simp only
 have es:sub R 1 (ln R)=R.drop 1:=by
  unfold Rd.sub;rw[Ao];exact W9 (by rw[Nn];omega)
 have j:IR ((i:Int)+1):=by clear hi c d a;exact⟨Aa,Aa⟩
 have e:((((ele x5.2.1 (i:Int)).toNat:Int))==110)=Az:=by rw[f];rfl
 have k:IX 0 (ln R):=⟨Fo _,by rw[Ao];omega⟩;rw[Ck hi,A8 Aa hi,A8 Aa c,e,br_false,Ax k,d,bd_ret,a,Ax g,Ax h,Rz Aa (by rw[Ao];omega) (Fo _),es]
 cases b with
 | true=>rw[F9,br_false,Bj rfl,Ax j];rfl
 | false=>rw[Kc,br_true,Bg Ah]
theorem Ack {body:List Stm}{words:List (List UInt8)}{x5:Int×List UInt8×Bool}{B N R:List Int}{i:Nat} (hi:¬((i:Int)<ln (sub words 1 (ln words)))) :
  Da body words x5 (B,N,R,(i:Int))=some (.brk (B,N,R,(i:Int))):=by
 unfold Da;simp only;rw[Cn hi]
theorem Ex (k:List UInt8) (a:List (List UInt8)):sub (k::a) 1 (ln (k::a))=a:=by unfold Rd.sub;rw[Ao];simp
def A47 (o:Option Stm) (body:List Stm) (b:Bool) (B:List Stm):Prop :=
 match o with
 | some s=>b=true∧B=body++[s]
 | none=>b=Az
theorem A2i {logs:List Int}{body:List Stm}{outs:List Int}{k:List UInt8}{a:List (List UInt8)} (a2:body.length≤4000000) (a3:a.length≤4000000) (f:∀ p∈a,p.length≤4000000) :
  ∃ b B,I3 logs body outs (k::a)=some (b,B)∧A47 (if outs=[] then Agj (k::a) else none) body b B:=by
 have X:ln (k::a)=(a.length:Int)+1:=by rw[Ao];simp
 have F:∀ s:Stm,AL (body++[s]).length 72:=fun s=>⟨by rw[Ev];simp;omega,by simp;omega⟩;unfold I3;rw[A8 (Fo _) Aa,show ele (k::a) 0=k from rfl,A2l,bd_ret,Fv (fun _=>⟨Aa,Aa⟩)];by_cases M:outs=[]
 case neg =>
  have:(Ap ((ln outs)>0))=true:=Ls (by rw[Ao];have:=Aen.2 M;omega);rw[this,Agt,br_true,Bg M];exact⟨_,_,rfl,rfl⟩
 subst M;rw[show (Ap ((ln ([]:List Int))>0))=Az from rfl,Bool.or_false,Bj rfl]
 have bad:∀ (op:Int) (I:List UInt8),Jc k=(op,I,true)→a.length≠I.length→Agj (k::a)=none→∃ b B,(br ((!(Jc k).2.2) || (((ln (k::a)) - 1) != (ln (Jc k).2.1))) (some (Az,body)) (br ((Jc k).1==1) (
   ck (IX 1 (ln (k::a)))<|bd (Kx (ele (k::a) 1) 19) fun O=>ck (AL (body++[(Stm.mk (Jc k).1 (Rf.mk 0 0) (Rf.mk 0 0) 0 0 0 O.1)]).length 72)<|some (O.2,(body++[(Stm.mk (Jc k).1 (Rf.mk 0 0) (Rf.mk 0 0) 0 0 0 O.1)]))) (
   ck (SX 1 (ln (k::a)) (ln (k::a)))<|bd (lp (Da body (k::a) (Jc k)) (([(Jc k).1,0,0,0,0,0,0,0,0]:List Int),([5,6,7]:List Int),([1,3]:List Int),0)) fun a1=>a1.on (fun (J,a6,a7,a8) =>
    ck (J.length=9)<|ck (AL (body++[(Z6 J)]).length 72)<|some (true,(body++[(Z6 J)]))) (fun r=>some r))))=some (b,B)∧A47 (Agj (k::a)) body b B:=by
  intro op I hs a4 Y;rw[hs,Y]
  have:((ln (k::a)) - 1 != ln I)=true:=by rw[T4,X,Ao];omega
  simp only[this,Agt,br_true];exact⟨_,_,rfl,rfl⟩
 by_cases l:k=cT
 ·have hs:Jc k=(1,[110],true):=by unfold Jc;rw[Bj l]
  by_cases d:a.length=1
  case neg=>exact bad _ _ hs (by simpa using d) (by
   rw[R4];unfold Tj;rw[Bj l]
   exact A6b d)
  match a,d,f with
  | [x],_,f =>
   rw[hs];have:(ln [k,x] - 1 != ln ([110]:List UInt8))=Az:=rfl;simp only[this,F9,Si,br_false];rw[show ((1:Int)==1)=true from rfl,br_true,A8 Aa (by rw[Ao];simp),show ele [k,x] 1=x from rfl];obtain⟨v,b,e,h⟩:=(Atu (s:=x) (most:=19) (f x Bf)).val;rw[e,bd_ret,Ax (F _)];refine⟨_,_,rfl,?_⟩;rw[R4];unfold Tj;rw[Bj l];unfold rdC;simp only
   cases P:Nq 19 x with
   | none=>rw[P] at h;exact h
   | some n=>rw[P] at h;obtain⟨rfl,rfl⟩:=h;exact⟨rfl,rfl⟩
 by_cases m:k=tT
 ·have hs:Jc k=(2,[],true):=by unfold Jc;rw[Bg l,Bj m]
  by_cases d:a.length=0
  case neg=>exact bad _ _ hs (by simpa using d) (by
   rw[R4];unfold Tj;rw[Bg l,Bj m]
   exact A56 d)
  obtain rfl:a=[]:=Z5.1 d;rw[hs];have:(ln [k] - 1 != ln ([]:List UInt8))=Az:=rfl;simp only[this,F9,Si,br_false];rw[show ((2:Int)==1)=Az from rfl,br_false,Rz Aa (by rw[Ao];simp) (Fo _)];have V:=Ack (body:=body) (words:=[k]) (x5:=(2,[],true)) (B:=[2,0,0,0,0,0,0,0,0]) (N:=[5,6,7]) (R:=[1,3]) (i:=0) (by rw[Ex];simp[ln]);rw[show lp (Da body [k] (2,[],true)) (([2,0,0,0,0,0,0,0,0]:List Int),([5,6,7]:List Int),([1,3]:List Int),0)=_ from Db V,bd_ret,Out.on_go];simp only;rw[Ax (by rfl),Ax (F _)];refine⟨_,_,rfl,?_⟩;rw[R4];unfold Tj;rw[Bg l,Bj m];exact⟨rfl,rfl⟩
 by_cases t:k=lT
 ·have hs:Jc k=(3,[110,110,110],true):=by unfold Jc;rw[Bg l,Bg m,Bj t]
  have o:∀ a,Agj (k::a)=rdL a:=fun a=>by rw[R4];unfold Tj;rw[Bg l,Bg m,Bj t]
  by_cases d:a.length=3
  case neg=>exact bad _ _ hs (by simpa using d) (by
   rw[o];exact A6a d)
  match a,d,f with
  | [x,y,z],_,f =>
   rw[hs];have:(ln [k,x,y,z] - 1 != ln ([110,110,110]:List UInt8))=Az:=rfl;simp only[this,F9,Si,br_false];rw[show ((3:Int)==1)=Az from rfl,br_false,Rz Aa (by rw[Ao];simp) (Fo _),o];unfold rdL;simp only;obtain⟨v1,b1,C,g1⟩:=(Qu (s:=x) (f x Bf)).val;obtain⟨v2,b2,E,g⟩:=(Qu (s:=y) (f y Bf)).val;obtain⟨v3,K,L,g3⟩:=(Qu (s:=z) (f z Bf)).val;have c:=Ads (body:=body) (words:=[k,x,y,z]) (x5:=(3,[110,110,110],true)) (B:=[3,0,0,0,0,0,0,0,0]) (N:=[5,6,7]) (R:=[1,3]) (i:=0) (n0:=5) (by rw[Ex];simp[ln]) Ah rfl Ah rfl Ah ⟨Ah,by simp[ln]⟩ Ah (by rw[Ex];exact C)
   cases u:Nq 18 x with
   | none =>
    rw[u] at g1;rw[show b1=Az from g1,Bg Ah] at c;have run:=Hw c;rw[show lp _ (_,_,_,(0:Int))=_ from run,bd_ret,Out.on_ret];exact⟨_,_,rfl,rfl⟩
   | some S =>
    rw[u] at g1;obtain⟨rfl,rfl⟩:=g1;rw[Bj rfl] at c;have t2:=Ads (body:=body) (words:=[k,x,y,z]) (x5:=(3,[110,110,110],true)) (B:=[3,0,0,0,0,v1,0,0,0]) (N:=[6,7]) (R:=[1,3]) (i:=1) (n0:=6) (by rw[Ex];simp[ln]) Ah rfl Ah rfl Ah ⟨Ah,by simp[ln]⟩ Ah (by rw[Ex];exact E)
    cases w:Nq 18 y with
    | none =>
     rw[w] at g;rw[show b2=Az from g,Bg Ah] at t2;have run:=B4 c (Hw t2);rw[show lp _ (_,_,_,(0:Int))=_ from run,bd_ret,Out.on_ret];exact⟨_,_,rfl,rfl⟩
    | some T =>
     rw[w] at g;obtain⟨rfl,rfl⟩:=g;rw[Bj rfl] at t2;have t3:=Ads (body:=body) (words:=[k,x,y,z]) (x5:=(3,[110,110,110],true)) (B:=[3,0,0,0,0,v1,v2,0,0]) (N:=[7]) (R:=[1,3]) (i:=2) (n0:=7) (by rw[Ex];simp[ln]) Ah rfl Ah rfl Ah ⟨Ah,by simp[ln]⟩ Ah (by rw[Ex];exact L)
     cases G:Nq 18 z with
     | none =>
      rw[G] at g3;rw[show K=Az from g3,Bg Ah] at t3;have run:=B4 c (B4 t2 (Hw t3));rw[show lp _ (_,_,_,(0:Int))=_ from run,bd_ret,Out.on_ret];exact⟨_,_,rfl,rfl⟩
     | some a0 =>
      rw[G] at g3;obtain⟨rfl,rfl⟩:=g3;rw[Bj rfl] at t3;have t4:=Ack (body:=body) (words:=[k,x,y,z]) (x5:=(3,[110,110,110],true)) (B:=[3,0,0,0,0,v1,v2,v3,0]) (N:=[]) (R:=[1,3]) (i:=3) (by rw[Ex];simp[ln]);have run:=B4 c (B4 t2 (B4 t3 (Db t4)));rw[show lp _ (_,_,_,(0:Int))=_ from run,bd_ret,Out.on_go];simp only;rw[Ax (by rfl),Ax (F _)];exact⟨_,_,rfl,rfl,rfl⟩
 by_cases A:k=sT
 ·have hs:Jc k=(4,[110,110,110,114],true):=by unfold Jc;rw[Bg l,Bg m,Bg t,Bj A]
  have o:∀ a,Agj (k::a)=rdS a:=fun a=>by rw[R4];unfold Tj;rw[Bg l,Bg m,Bg t,Bj A]
  by_cases d:a.length=4
  case neg=>exact bad _ _ hs (by simpa using d) (by
   rw[o];exact A58 d)
  match a,d,f with
  | [x,y,z,q],_,f =>
   rw[hs];have:(ln [k,x,y,z,q] - 1 != ln ([110,110,110,114]:List UInt8))=Az:=rfl;simp only[this,F9,Si,br_false];rw[show ((4:Int)==1)=Az from rfl,br_false,Rz Aa (by rw[Ao];simp) (Fo _),o];unfold rdS;simp only;obtain⟨v1,b1,C,g1⟩:=(Qu (s:=x) (f x Bf)).val;obtain⟨v2,b2,E,g⟩:=(Qu (s:=y) (f y Bf)).val;obtain⟨v3,K,L,g3⟩:=(Qu (s:=z) (f z Bf)).val;obtain⟨v4,U,W,g4⟩:=(Am1 (s:=q) (f q Bf)).val;have c:=Ads (body:=body) (words:=[k,x,y,z,q]) (x5:=(4,[110,110,110,114],true)) (B:=[4,0,0,0,0,0,0,0,0]) (N:=[5,6,7]) (R:=[1,3]) (i:=0) (n0:=5) (by rw[Ex];simp[ln]) Ah rfl Ah rfl Ah ⟨Ah,by simp[ln]⟩ Ah (by rw[Ex];exact C)
   cases u:Nq 18 x with
   | none =>
    rw[u] at g1;rw[show b1=Az from g1,Bg Ah] at c;have run:=Hw c;rw[show lp _ (_,_,_,(0:Int))=_ from run,bd_ret,Out.on_ret];exact⟨_,_,rfl,rfl⟩
   | some S =>
    rw[u] at g1;obtain⟨rfl,rfl⟩:=g1;rw[Bj rfl] at c;have t2:=Ads (body:=body) (words:=[k,x,y,z,q]) (x5:=(4,[110,110,110,114],true)) (B:=[4,0,0,0,0,v1,0,0,0]) (N:=[6,7]) (R:=[1,3]) (i:=1) (n0:=6) (by rw[Ex];simp[ln]) Ah rfl Ah rfl Ah ⟨Ah,by simp[ln]⟩ Ah (by rw[Ex];exact E)
    cases w:Nq 18 y with
    | none =>
     rw[w] at g;rw[show b2=Az from g,Bg Ah] at t2;have run:=B4 c (Hw t2);rw[show lp _ (_,_,_,(0:Int))=_ from run,bd_ret,Out.on_ret];exact⟨_,_,rfl,rfl⟩
    | some T =>
     rw[w] at g;obtain⟨rfl,rfl⟩:=g;rw[Bj rfl] at t2;have t3:=Ads (body:=body) (words:=[k,x,y,z,q]) (x5:=(4,[110,110,110,114],true)) (B:=[4,0,0,0,0,v1,v2,0,0]) (N:=[7]) (R:=[1,3]) (i:=2) (n0:=7) (by rw[Ex];simp[ln]) Ah rfl Ah rfl Ah ⟨Ah,by simp[ln]⟩ Ah (by rw[Ex];exact L)
     cases G:Nq 18 z with
     | none =>
      rw[G] at g3;rw[show K=Az from g3,Bg Ah] at t3;have run:=B4 c (B4 t2 (Hw t3));rw[show lp _ (_,_,_,(0:Int))=_ from run,bd_ret,Out.on_ret];exact⟨_,_,rfl,rfl⟩
     | some a0 =>
      rw[G] at g3;obtain⟨rfl,rfl⟩:=g3;rw[Bj rfl] at t3;have t4:=Arp (body:=body) (words:=[k,x,y,z,q]) (x5:=(4,[110,110,110,114],true)) (B:=[4,0,0,0,0,v1,v2,v3,0]) (N:=[]) (R:=[1,3]) (i:=3) (r0:=1) (by rw[Ex];simp[ln]) Ah rfl Ah rfl Ah ⟨Ah,by simp[ln]⟩ ⟨Ah,by simp[ln]⟩ Ah (by rw[Ex];exact W)
      cases Q:Un q with
      | none =>
       rw[Q] at g4;rw[show U=Az from g4,Bg Ah] at t4;have run:=B4 c (B4 t2 (B4 t3 (Hw t4)));rw[show lp _ (_,_,_,(0:Int))=_ from run,bd_ret,Out.on_ret];exact⟨_,_,rfl,rfl⟩
      | some a5 =>
       rw[Q] at g4;obtain⟨rfl,rfl⟩:=g4;rw[Bj rfl] at t4;have t5:=Ack (body:=body) (words:=[k,x,y,z,q]) (x5:=(4,[110,110,110,114],true)) (B:=[4,v4.st,v4.bk,0,0,v1,v2,v3,0]) (N:=[]) (R:=[3]) (i:=4) (by rw[Ex];simp[ln]);have run:=B4 c (B4 t2 (B4 t3 (B4 t4 (Db t5))));rw[show lp _ (_,_,_,(0:Int))=_ from run,bd_ret,Out.on_go];simp only;rw[Ax (by rfl),Ax (F _)];exact⟨_,_,rfl,rfl,rfl⟩
 by_cases H:k∈opsW
 ·have hs:Jc k=((11+((opsW.idxOf k:Nat):Int)),([114,114]:List UInt8),true):=by unfold Jc;rw[Bg l,Bg m,Bg t,Bg A,Bj H]
  have o:∀ a,Agj (k::a)=rdO (11+(opsW.idxOf k:Nat)) a:=fun a=>by rw[R4];unfold Tj;rw[Bg l,Bg m,Bg t,Bg A,Bj H]
  by_cases d:a.length=2
  case neg=>exact bad _ _ hs (by simpa using d) (by
   rw[o];exact A59 d)
  match a,d,f with
  | [x,y],_,f =>
   rw[hs];generalize opsW.idxOf k=j at o ⊢;have:(ln [k,x,y] - 1 != ln ([114,114]:List UInt8))=Az:=rfl;simp only[this,F9,Si,br_false];rw[show ((11+(j:Int))==1)=Az from Xe Aa,br_false,Rz Aa (by rw[Ao];simp) (Fo _),o];unfold rdO;simp only;obtain⟨v1,b1,C,g1⟩:=(Am1 (s:=x) (f x Bf)).val;obtain⟨v2,b2,E,g⟩:=(Am1 (s:=y) (f y Bf)).val;have c:=Arp (body:=body) (words:=[k,x,y]) (x5:=(11+(j:Int),[114,114],true)) (B:=[11+(j:Int),0,0,0,0,0,0,0,0]) (N:=[5,6,7]) (R:=[1,3]) (i:=0) (r0:=1) (by rw[Ex];simp[ln]) (by simp[ln]) rfl Ah rfl Ah ⟨Ah,by simp[ln]⟩ ⟨Ah,by simp[ln]⟩ Ah (by rw[Ex];exact C)
   cases u:Un x with
   | none =>
    rw[u] at g1;rw[show b1=Az from g1,Bg Ah] at c;have run:=Hw c;rw[show lp _ (_,_,_,(0:Int))=_ from run,bd_ret,Out.on_ret];exact⟨_,_,rfl,rfl⟩
   | some S =>
    rw[u] at g1;obtain⟨rfl,rfl⟩:=g1;rw[Bj rfl] at c;have t2:=Arp (body:=body) (words:=[k,x,y]) (x5:=(11+(j:Int),[114,114],true)) (B:=[11+(j:Int),v1.st,v1.bk,0,0,0,0,0,0]) (N:=[5,6,7]) (R:=[3]) (i:=1) (r0:=3) (by rw[Ex];simp[ln]) (by simp[ln]) rfl Ah rfl Ah ⟨Ah,by simp[ln]⟩ ⟨Ah,by simp[ln]⟩ Ah (by rw[Ex];exact E)
    cases w:Un y with
    | none =>
     rw[w] at g;rw[show b2=Az from g,Bg Ah] at t2;have run:=B4 c (Hw t2);rw[show lp _ (_,_,_,(0:Int))=_ from run,bd_ret,Out.on_ret];exact⟨_,_,rfl,rfl⟩
    | some T =>
     rw[w] at g;obtain⟨rfl,rfl⟩:=g;rw[Bj rfl] at t2;have t3:=Ack (body:=body) (words:=[k,x,y]) (x5:=(11+(j:Int),[114,114],true)) (B:=[11+(j:Int),v1.st,v1.bk,v2.st,v2.bk,0,0,0,0]) (N:=[5,6,7]) (R:=[]) (i:=2) (by rw[Ex];simp[ln]);have run:=B4 c (B4 t2 (Db t3));rw[show lp _ (_,_,_,(0:Int))=_ from run,bd_ret,Out.on_go];simp only;rw[Ax (by rfl),Ax (F _)];exact⟨_,_,rfl,rfl,rfl⟩
 ·have hs:Jc k=(0,[],Az):=by unfold Jc;rw[Bg l,Bg m,Bg t,Bg A,Bg H]
  rw[hs];simp only[Kc,Vu,br_true];refine⟨_,_,rfl,?_⟩;rw[R4];unfold Tj;rw[Bg l,Bg m,Bg t,Bg A,Bg H];rfl
end Go.Rd
end
section
namespace Go.Rd
def aW:List UInt8:=[97,114,114,97,121]
def oW:List UInt8:=[111,117,116]
noncomputable def rdA (l:Lp) (a:List (List UInt8)):Option Lp:=match a with
 | [x]=>match Nq 18 x with
  | some n=>some ⟨l.logs++[n],l.body,l.outs⟩
  | none=>none
 | _=>none
noncomputable def rdT (l:Lp) (a:List (List UInt8)):Option Lp:=match a with
 | [x]=>match Nq 18 x with
  | some n=>some ⟨l.logs,l.body,l.outs++[n]⟩
  | none=>none
 | _=>none
def rdB (l:Lp) (o:Option Stm):Option Lp:=match o with
 | some s=>some ⟨l.logs,l.body++[s],l.outs⟩
 | none=>none
theorem A6c {l:Lp}{a:List (List UInt8)} (h:a.length≠1):rdA l a=none:=by unfold rdA;split <;> first | exact absurd rfl h | rfl
theorem A57 {l:Lp}{a:List (List UInt8)} (h:a.length≠1):rdT l a=none:=by unfold rdT;split <;> first | exact absurd rfl h | rfl
noncomputable def Ati (l:Lp) (k:List UInt8) (a:List (List UInt8)):Option Lp :=
 if k=aW then (if l.body=[]∧l.outs=[] then rdA l a else none)
 else if k=oW then rdT l a
 else rdB l (if l.outs=[] then Tj k a else none)
noncomputable def Rw (l:Lp) (s:List UInt8):Option Lp:=match spl 32 s with
 | []=>none
 | k::a=>Ati l k a
def Azf (o:Option Lp) (b:Bool) (r:Lp):Prop:=match o with
 | some l=>b=true∧r=l
 | none=>b=Az
structure Sz (i:Nat) (l:Lp):Prop where
 lo:l.logs.length≤i
 bo:l.body.length≤i
 ou:l.outs.length≤i
 rlogs:∀ x∈l.logs,InR x
 rbody:∀ x∈l.body,x.InR
 routs:∀ x∈l.outs,InR x
theorem Sz.fine {i:Nat}{l:Lp} (h:Sz i l) (hi:i≤4000000):l.Fine:=by
 have:=h.lo;have:=h.bo;have:=h.ou;exact⟨h.rlogs,h.rbody,h.routs,by rw[Ev];omega,by rw[Ev];omega,by rw[Ev];omega⟩
theorem Amw:Sz 0 ⟨[],[],[]⟩:=⟨Co _,Co _,Co _,Bf,Bf,Bf⟩
theorem InR.z:InR 0:=⟨Ah,Ah⟩
theorem InR.s {n:Int} (h:-5≤n) (k:n≤5):InR n:=⟨Aa,Aa⟩
theorem Az6 {k:List UInt8}{a:List (List UInt8)}{s:Stm} (h:Tj k a=some s):s.InR:=by
 unfold Tj at h;split at h
 ·unfold rdC at h
  split at h
  ·split at h
   ·rename_i n g;injection h with h;subst h
    exact⟨InR.s (show -5≤(1:Int) from Ah) (show (1:Int)≤5 from Ah),.z,.z,.z,.z,.z,.z,.z,(Ej.1 g).1⟩
   ·cases h
  ·cases h
 split at h
 ·unfold rdU at h
  split at h
  ·injection h with h;subst h;exact⟨InR.s (show -5≤(2:Int) from Ah) (show (2:Int)≤5 from Ah),.z,.z,.z,.z,.z,.z,.z,.z⟩
  ·cases h
 split at h
 ·unfold rdL at h
  split at h
  ·split at h
   ·rename_i n m p b c d;injection h with h;subst h
    exact⟨InR.s (show -5≤(3:Int) from Ah) (show (3:Int)≤5 from Ah),.z,.z,.z,.z,(Ej.1 b).1,(Ej.1 c).1,(Ej.1 d).1,.z⟩
   ·cases h
  ·cases h
 split at h
 ·unfold rdS at h
  split at h
  ·split at h
   ·rename_i n m p r b c d f;injection h with h;subst h
    exact⟨InR.s (show -5≤(4:Int) from Ah) (show (4:Int)≤5 from Ah),(Pr f).1,(Pr f).2.1,.z,.z,(Ej.1 b).1,(Ej.1 c).1,(Ej.1 d).1,.z⟩
   ·cases h
  ·cases h
 split at h
 ·rename_i e
  have e:=List.idxOf_lt_length_of_mem e;rw[show opsW.length=8 from rfl] at e;unfold rdO at h;split at h
  ·split at h
   ·rename_i r q b c;injection h with h;subst h
    exact⟨⟨by show _≤(11+(opsW.idxOf k:Nat):Int);omega,by show (11+(opsW.idxOf k:Nat):Int)≤_;omega⟩,(Pr b).1,(Pr b).2.1,(Pr c).1,(Pr c).2.1,.z,.z,.z,.z⟩
   ·cases h
  ·cases h
 ·cases h
theorem Ah5 {α:Type}{p:α→Prop}{l:List α}{x:α} (h:∀ y∈l,p y) (b:p x):∀ y∈l++[x],p y:=fun y a=>by
 rcases F8.1 a with a | a
 ·exact h y a
 ·rw[G7] at a;subst a;exact b
theorem Ao3 {i:Nat}{l r:Lp}{s:List UInt8} (hs:Sz i l) (h:Rw l s=some r):Sz (i+1) r:=by
 obtain⟨f,g,j,a,b,c⟩:=hs;unfold Rw at h;split at h
 ·cases h
 unfold Ati at h;split at h
 ·split at h
  ·unfold rdA at h
   split at h
   ·split at h
    ·rename_i n d;injection h with h;subst h
     exact⟨by simp;omega,by show l.body.length≤_;omega,by show l.outs.length≤_;omega,Ah5 a (Ej.1 d).1,b,c⟩
    ·cases h
   ·cases h
  ·cases h
 split at h
 ·unfold rdT at h
  split at h
  ·split at h
   ·rename_i n d;injection h with h;subst h
    exact⟨by show l.logs.length≤_;omega,by show l.body.length≤_;omega,by simp;omega,a,b,Ah5 c (Ej.1 d).1⟩
   ·cases h
  ·cases h
 ·unfold rdB at h
  split at h
  ·rename_i st e;injection h with h;subst h
   split at e
   ·exact⟨by show l.logs.length≤_;omega,by simp;omega,by show l.outs.length≤_;omega,a,Ah5 b (Az6 e),c⟩
   ·cases e
  ·cases h
theorem Ao1 {c:UInt8}{s:List UInt8}:∃ k a,spl c s=k::a∧a.length≤s.length∧(∀ p∈a,p.length≤s.length)∧k.length≤s.length:=by
 cases h:spl c s with
 | nil=>exact absurd h (Aa3 s)
 | cons k a =>
  have b:=Am0 (c:=c) s;rw[h] at b;simp only[Ef] at b;exact⟨k,a,rfl,Aa,fun p d=>(Zc (c:=c) (s:=s) (by rw[h];simp[d])).2,(Zc (c:=c) (s:=s) (by rw[h];simp)).2⟩
theorem Aus {α:Type}{l:List α}{x:α}{k:Nat} (h:l.length≤2000000) (a:k≤100):AL (l++[x]).length k:=by
 have e:(l++[x]).length=l.length+1:=Bf;rw[e];refine⟨by rw[Ev];omega,?_⟩;have:(l.length+1) * k≤2000001 * 100:=Nat.mul_le_mul Aa a;omega
theorem At8 {l:Lp}:(((ln l.body+ln l.outs)==0)=true)↔(l.body=[]∧l.outs=[]):=by
 rw[Dk,Ao,Ao];constructor
 ·intro h;exact⟨Z5.1 Aa,Z5.1 Aa⟩
 ·rintro⟨a,b⟩;rw[a,b];rfl
theorem A2f {l:Lp}{s:List UInt8} (z:l.logs.length≤2000000) (E:l.body.length≤2000000) (A:l.outs.length≤2000000) (hs:s.length≤2000000) :
  ∃ b r,I4 l.logs l.body l.outs s=some (b,r.logs,r.body,r.outs)∧Azf (Rw l s) b r:=by
 obtain⟨k,a,e,I,lp,J⟩:=Ao1 (c:=32) (s:=s);unfold I4 Rw;rw[Af3 _ Aa,bd_ret,e]
 have G:ln (k::a)=(a.length:Int)+1:=by rw[Ao];simp
 have c0:IX 0 (ln (k::a)):=⟨Ah,Aa⟩;rw[Ax c0,Fv (fun _=>c0),show ele (k::a) 0=k from rfl];simp only;unfold Ati
 have one:∀ (j:Bool),j=(k==[97,114,114,97,121])→∃ b r,(br ((ln (k::a)) != 2) (some (Az,l.logs,l.body,l.outs)) (
   ck (IX 1 (ln (k::a)))<|bd (Ft (ele (k::a) 1)) fun f=>ck (IX 0 (ln (k::a)))<|br j (
   ck ((f.2)=true→IR ((ln l.body)+(ln l.outs)))<|ck (AL (l.logs++[f.1]).length 8) <|
   some ((f.2&&(((ln l.body)+(ln l.outs))==0)),(l.logs++[f.1]),l.body,l.outs)) (
   ck (AL (l.outs++[f.1]).length 8)<|some (f.2,l.logs,l.body,(l.outs++[f.1])))))=some (b,r.logs,r.body,r.outs) ∧
   Azf (if j=true then (if l.body=[]∧l.outs=[] then rdA l a else none) else rdT l a) b r:=by
  intro j F;by_cases u:a.length=1
  ·match a,u,lp with
   | [x],_,lp =>
    rw[show (ln [k,x] != 2)=Az from rfl,br_false,Ax (show IX 1 (ln [k,x]) from ⟨Ah,by simp[ln]⟩),show ele [k,x] 1=x from rfl];have H:=lp x Bf;obtain⟨v,b,d,g1⟩:=(Qu (s:=x) Aa).val;rw[d,bd_ret,Ax (show IX 0 (ln [k,x]) from ⟨Ah,by simp[ln]⟩)]
    cases j with
    | true =>
     rw[br_true,Fv (fun _=>⟨by rw[Ao,Ao];omega,by rw[Ao,Ao];omega⟩),Ax (Aus z Ah),Bj rfl];refine⟨_,⟨l.logs++[v],l.body,l.outs⟩,rfl,?_⟩;by_cases m:l.body=[]∧l.outs=[]
     ·rw[At8.2 m,Bool.and_true,Bj m]
      unfold rdA;simp only
      cases i:Nq 18 x with
      | none=>rw[i] at g1;exact g1
      | some n=>rw[i] at g1;obtain⟨rfl,rfl⟩:=g1;exact⟨rfl,rfl⟩
     ·rw[Ag5.2 (fun h=>m (At8.1 h)),Bool.and_false,Bg m];rfl
    | false =>
     rw[br_false,Ax (Aus A Ah),Bg Ah];refine⟨_,⟨l.logs,l.body,l.outs++[v]⟩,rfl,?_⟩;unfold rdT;simp only
     cases i:Nq 18 x with
     | none=>rw[i] at g1;exact g1
     | some n=>rw[i] at g1;obtain⟨rfl,rfl⟩:=g1;exact⟨rfl,rfl⟩
  ·rw[show (ln (k::a) != 2)=true by rw[T4];omega,br_true,A6c u,A57 u,ite_self]
   exact⟨_,l,rfl,by rw[ite_self];rfl⟩
 by_cases o:k=aW
 ·have d:(k==[97,114,114,97,121])=true:=Dk.2 o
  have:=one true d.symm;rw[Bj rfl] at this;rw[Bj o,show (k != [97,114,114,97,121])=Az by unfold bne;rw[d];rfl,Adj,br_false,d];exact this
 have d:(k==[97,114,114,97,121])=Az:=Xe o;rw[Bg o,show (k != [97,114,114,97,121])=true by unfold bne;rw[d];rfl,Rl];by_cases q:k=oW
 ·have t:(k==[111,117,116])=true:=Dk.2 q
  have:=one Az d.symm;rw[Bg Ah] at this;rw[Bj q,show (k != [111,117,116])=Az by unfold bne;rw[t];rfl,br_false,d];exact this
 have t:(k==[111,117,116])=Az:=Xe q;rw[Bg q,show (k != [111,117,116])=true by unfold bne;rw[t];rfl,br_true];obtain⟨b,B,y,g⟩:=A2i (logs:=l.logs) (body:=l.body) (outs:=l.outs) (k:=k) (a:=a) Aa Aa (fun p C=>by have:=lp p C;omega);rw[y,bd_ret];refine⟨b,⟨l.logs,B,l.outs⟩,rfl,?_⟩;rw[R4] at g;unfold rdB;split
 ·rename_i st w;rw[w] at g;obtain⟨rfl,rfl⟩:=g;exact⟨rfl,rfl⟩
 ·rename_i w;rw[w] at g;exact g
def Ayj {γ:Type} (o:Option Lp) (f:Lp→γ) (k:Int):Stp γ (Lp×Flt):=match o with
 | some r=>.next (f r)
 | none=>.ret (⟨[],[],[]⟩,⟨2,k⟩)
theorem A5q {X V:List (List UInt8)}{l:Lp}{i:Nat} (c:sub X 0 (ln X - 1)=V) (hi:(i:Int)<ln V) (n:V.length≤2000000) (hs:(ele V (i:Int)).length≤2000000) (z:Sz i l) :
  H5 X (l.outs,l.body,l.logs,(i:Int))=some (Ayj (Rw l (ele V (i:Int))) (fun r=>(r.outs,r.body,r.logs,((i+1:Nat):Int))) (i:Int)):=by
 have j:=z.lo;have k:=z.bo;have m:=z.ou;have d:=hi;rw[Ao] at d;have f:IR ((i:Int)+1):=⟨Aa,Aa⟩;have g:IX (i:Int) (ln V):=⟨Aa,hi⟩;obtain⟨b,r,e,h⟩:=A2f (l:=l) (s:=ele V (i:Int)) Aa Aa Aa hs;unfold H5;simp only;rw[c,Ck hi,Ax g,e,bd_ret]
 cases a:Rw l (ele V (i:Int)) with
 | none=>rw[a] at h;rw[show b=Az from h];rfl
 | some o =>
  rw[a] at h;obtain⟨rfl,rfl⟩:=h;rw[F9,br_false,Ax f];rfl
noncomputable def Q2:Lp→Nat→List (List UInt8)→Option Lp×Nat
 | l,i,[]=>(some l,i)
 | l,i,s::r=>match Rw l s with
  | some a=>Q2 a (i+1) r
  | none=>(none,i)
def Axy {γ:Type} (o:Option Lp×Nat) (f:Lp→Nat→γ):Out γ (Lp×Flt):=match o.1 with
 | some l=>.go (f l o.2)
 | none=>.ret (⟨[],[],[]⟩,⟨2,(o.2:Int)⟩)
theorem Wm {l:Lp}{i:Nat}{s:List UInt8}{r:List (List UInt8)} (h:Rw l s=none):Q2 l i (s::r)=(none,i):=by rw[Q2,h]
theorem Wl {l a:Lp}{i:Nat}{s:List UInt8}{r:List (List UInt8)} (h:Rw l s=some a):Q2 l i (s::r)=Q2 a (i+1) r:=by rw[Q2,h]
theorem Ao4 {l d:Lp}{i j:Nat}{A:List (List UInt8)} (h:Q2 l i A=(some d,j)) (c:Sz i l):Sz j d∧j=i+A.length:=by
 induction A generalizing l i with
 | nil=>rw[Q2] at h;injection h with a e;injection a with a;subst a;subst e;exact⟨c,rfl⟩
 | cons s r f =>
  cases b:Rw l s with
  | none=>rw[Wm b] at h;cases h
  | some m =>
   rw[Wl b] at h;have:=f h (Ao3 c b);exact⟨this.1,by simp only[Ef];omega⟩
theorem A0n {γ:Type}{F:γ→Option (Stp γ (Lp×Flt))}{f:Lp→Nat→γ} (V:List (List UInt8)) (step:∀ (i:Nat) l,i<V.length→Sz i l→F (f l i)=some (Ayj (Rw l (ele V (i:Int))) (fun r=>f r (i+1)) (i:Int))) (k:∀ l,F (f l V.length)=some (.brk (f l V.length))) :
  ∀ (r:List (List UInt8)) (i:Nat) (l:Lp),V.drop i=r→i+r.length=V.length→Sz i l→lp F (f l i)=some (Axy (Q2 l i r) f):=by
 intro r
 induction r with
 | nil =>
  intro i l d b c
  obtain rfl:i=V.length:=by simpa using b
  exact Db (k l)
 | cons s r n =>
  intro i l d b c;simp only[Ef] at b;have g:i<V.length:=Aa;have e:=Zq g;rw[d] at e
  injection e with h j
  have st:=step i l g c;rw[←h] at st
  cases a:Rw l s with
  | none=>rw[a] at st;rw[Wm a];exact Hw st
  | some m=>rw[a] at st;rw[Wl a];exact B4 st (n (i+1) m j.symm Aa (Ao3 c a))
open Classical in
noncomputable def Aqy (o:Option Lp×Nat) (last:List UInt8):Lp×Flt:=match o.1 with
 | some l=>if last=[]∧LoopOk l then (l,⟨0,0⟩) else (⟨[],[],[]⟩,⟨2,(o.2:Int)⟩)
 | none=>(⟨[],[],[]⟩,⟨2,(o.2:Int)⟩)
noncomputable def On (s:List UInt8):Lp×Flt:=Aqy (Q2 ⟨[],[],[]⟩ 0 (spl 10 s).dropLast) (ele (spl 10 s) (ln (spl 10 s) - 1))
theorem end_s {X:List (List UInt8)}{l:Lp}{n:Nat}{m:Option Bool} (c:ln X - 1=(n:Int)) (f:X.length≤4000000) (d:m=some (tb (LoopOk l))) :
  (ck (IX (ln X - 1) (ln X))<|bdG (!((ele X ((ln X) - 1)) != [])) m fun e=>br (((ele X ((ln X) - 1)) != []) || (!e)) (some ((Lp.mk [] [] []),(Flt.mk 2 ((ln X) - 1)))) (some (l,(Flt.mk 0 0))))=some (Aqy (some l,n) (ele X (ln X - 1))):=by
 rw[Ax ⟨Aa,Aa⟩,c,d];unfold Aqy;simp only;by_cases a:ele X (n:Int)=[]
 ·have:(ele X (n:Int) != [])=Az:=by rw[a];rfl
  rw[this,Kc,bdG_t,bd_ret,W6];by_cases b:LoopOk l
  ·rw[Dz b,Bj ⟨a,b⟩];rfl
  ·rw[C3 b,Bg (fun h=>b h.2)];rfl
 ·have:(ele X (n:Int) != [])=true:=by rw[T4];exact a
  rw[this,F9,bdG_f,Vu,br_true,Bg (fun h=>a h.1)]
theorem U2 {s:List UInt8} (hs:s.length≤1048576):∃ n:Nat,ln (spl 10 s) - 1=(n:Int)∧(spl 10 s).dropLast.length=n∧n≤1048576∧(spl 10 s).length=n+1∧sub (spl 10 s) 0 (ln (spl 10 s) - 1)=(spl 10 s).dropLast ∧
  (∀ i:Nat,i<n→ele (spl 10 s).dropLast (i:Int)=ele (spl 10 s) (i:Int)∧(ele (spl 10 s) (i:Int)).length≤1048576):=by
 have b:=Am0 (c:=10) s;have a:=Aen.2 (Aa3 (c:=10) s);refine⟨(spl 10 s).length - 1,by rw[Ao];omega,Bf,Aa,Aa,?_,fun i hi=>⟨?_,?_⟩⟩
 ·unfold Rd.sub
  rw[Ao,List.dropLast_eq_take];congr 1;omega
 ·rw[Dj,Dj,Ec,Ec,List.getElem?_dropLast,Bj hi]
 ·exact Nl (Zc (D9 (l:=spl 10 s) Aa)).2 hs
theorem K8 {s:List UInt8} (hs:s.length≤1048576):M5 s=some (On s):=by
 obtain⟨n,c,h,k,m,b,d⟩:=U2 hs;unfold M5 On;rw[Af3 _ Aa,bd_ret];generalize hX:spl 10 s=X at *;generalize hV:X.dropLast=V at *;rw[Ax ⟨Aa,Aa⟩,Rz Aa Aa Aa]
 have e:=A0n (F:=H5 X) (f:=fun l i=>(l.outs,l.body,l.logs,(i:Int))) V (fun i l hi a=>by
   have:=d i Aa
   exact A5q b (by rw[Ao];omega) Aa (by rw[this.1];omega) a) (fun l=>by
   unfold H5;simp only;rw[b,Cn (by rw[Ao];omega)]) V 0 ⟨[],[],[]⟩ rfl Aa Amw
 rw[show lp (H5 X) ([],[],[],(0:Int))=_ from e,bd_ret]
 cases g:Q2 ⟨[],[],[]⟩ 0 V with
 | mk o j =>
  cases o with
  | none=>simp only[Axy,Out.on_ret];rfl
  | some l =>
   obtain⟨a,p⟩:=Ao4 g Amw;obtain rfl:j=n:=Aa;simp only[Axy,Out.on_go];exact end_s c Aa (Agr l (a.fine Aa))
theorem Asi {s:List UInt8} (hs:s.length≤1048576):Sz 1048576 (On s).1:=by
 obtain⟨n,k,m,p,q,r,t⟩:=U2 hs;unfold On;have g:Sz 1048576 ⟨[],[],[]⟩:=⟨Bf,Bf,Bf,Bf,Bf,Bf⟩
 cases h:Q2 ⟨[],[],[]⟩ 0 (spl 10 s).dropLast with
 | mk o j =>
  cases o with
  | none=>exact g
  | some l =>
   obtain⟨i,u⟩:=Ao4 h Amw;unfold Aqy;simp only;split
   ·obtain⟨a,b,c,d,e,f⟩:=i
    exact⟨by simp only;omega,by simp only;omega,by simp only;omega,d,e,f⟩
   ·exact g
end Go.Rd
end
section
namespace Go.Rd
open Go.RowKit
def Wg (s:List UInt8):Int×Bool :=
 match Vs s with
 | .ok v=>(v,Az)
 | .range=>(Lib.atoiSat s,true)
 | _=>(0,true)
def Amp (s:List UInt8):Option (Int×Bool):=ck (s.length≤281474976710656) (some (Wg s))
section
variable {P : Bz} {n : Nat} {σ : Env} {d : Option Tmp} {T U : TypeId} {pos : String} {after : Array Edge} {gd : Option (Nat × Bool)} {x : En} {g : Bool} {v : Al} {C : Ak → Prop}
theorem Ak7 {p:Addr}{len sz:Nat} (b:Amq P U len sz) (k:σ.ev x=some (g,v)) (h:g=true) (j:∃ l c,v=.slice (some p) l c∧len≤l):QV P ⟨d,.sliceToArrayPointer U x,T,pos,after,gd⟩ σ C (.pointer (some p)):=.of_run fun n m f w o=>by
 obtain⟨l,c,rfl,i⟩:=j;obtain⟨E,e,_⟩:=b;have a:=f.ev k h;simp[execOp,a,Instr.arrayAt,E5 e,Nat.not_lt.2 i]
end
theorem Aur {w:Ak}{v:Al}{xs:List Int} (b:Arr w v 1 (xs.map Ar)) (h:3≤ln xs):∃ p,(∃ l c,v=.slice (some p) l c∧3≤l)∧CellsAt w p [.int .i64 (ele xs 0),.int .i64 (ele xs 1),.int .i64 (ele xs 2)] 0:=by
 have f:3≤xs.length:=by rw[Ao] at h;omega
 obtain⟨a,c,rfl,hs,d⟩:=b.len;rw[Gl] at hs d;obtain⟨p,rfl⟩:=Aha.1 (hs Aa);rw[Gl] at b ⊢;refine⟨p,⟨_,_,rfl,f⟩,?_⟩
 have key:∀ i:Nat,i<xs.length→w.cell? (p.add i)=some (.int .i64 (ele xs (i:Int))):=fun i hi=>by
  have g:(xs.map Ar)[i]?=some (Ar (ele xs (i:Int))):=by
   rw[Zz,E7 hi,show ele xs (i:Int)=xs.getD i default from rfl,Ec,E7 hi];rfl
  have:=b.row i _ (p.add i) g ⟨p,_,_,rfl,Aa,Aa,Bf⟩;have e:=this.1;rw[show (p.add i).add 0=p.add i from by simp[Ma]] at e;exact e
 exact⟨key 0 Aa,key 1 Aa,key 2 Aa,trivial⟩
section
open Go.Shelf Go.Proofs
variable {P : Bz} {ρ : Ren}
set_option maxHeartbeats 4000000 in
set_option maxRecDepth 100000 in
theorem A1b (L:LaysC.n172 P ρ) (s:ByteArray) (te:TypeId) (b:Al) (w:Ak) (l:s.size≤281474976710656) (h:Vs s.data.toList=Vs []) (d:w.cell? ⟨(ρ.g 15),0,none⟩=some (.iface te b)) :
  Calls P (ρ.f 172) #[.string s] w fun e w'=>∃ N,e=.returned (.tuple #[.int .i64 (0),.iface (ρ.t 168) (.pointer (some ⟨N,0,none⟩))])∧Grow w w':=by
 have mixed:=L.mixed;have t9:=L.t9;have a9:=L.a9;have z9:=L.z9;have v9:=L.v9;have t3:=L.t3;have a3:=L.a3;have z3:=L.z3;have v3:=L.v3;have t75:=L.t75;have a75:=L.a75;have z75:=L.z75;have v75:=L.v75;have t76:=L.t76;have a76:=L.a76;have z76:=L.z76;have v76:=L.v76;have t4:=L.t4;have a4:=L.a4;have z4:=L.z4;have v4:=L.v4;have p:∀ args w,(callFunc (ρ.f 244) args).run P w=.ok (.enter (ρ.f 244) args) w:=enters_of L.f244 Ag rfl;have q:∀ args w,(callFunc (ρ.f 245) args).run P w=.ok (.enter (ρ.f 245) args) w:=enters_of L.f245 Ag rfl;have a:=Any.internal_strconv_Atoi_all { L with } s Aa w;rw[h] at a;generalize Lib.atoiSat s.data.toList=sat at a ⊢
 have a:Calls P (ρ.f 244) #[.string s] w fun e w'=>e=.returned (.tuple #[.int .i64 (0),.iface (ρ.t 167) (.int .i64 2)])∧Grow w w':=a.mono fun e w' ⟨k,n⟩=>⟨k,by
  rcases n with rfl | ⟨t,rfl⟩
  ·exact Anz _
  ·exact Qp _ _ _⟩
 clear h;go_enter L.f172,Body.n172_ntmps ρ;go_wp2_with (go_at_fn (ρ.f 244);refine a.mono ?_);rintro e i ⟨rfl,c⟩;have m:i.cell? ⟨(ρ.g 15),0,none⟩=some (.iface te b):=(c.cell (show (⟨(ρ.g 15),0,none⟩:Addr).block<w.heap.size from Adi d)).trans d;go_wp2_with (go_at_fn (ρ.f 245);refine(Ajx { L with } ⟨#[65,116,111,105]⟩ s 0 0 te b _ l ?_).mono ?_)
 ·exact m
 rintro e o ⟨N,rfl,j⟩;go_wp2;go_ret2;exact⟨N,rfl,c.trans j⟩
set_option maxHeartbeats 4000000 in
set_option maxRecDepth 100000 in
theorem A1c (L:LaysC.n172 P ρ) (s:ByteArray) (te:TypeId) (b:Al) (w:Ak) (l:s.size≤281474976710656) (h:Vs s.data.toList=.range) (d:w.cell? ⟨(ρ.g 16),0,none⟩=some (.iface te b)) :
  Calls P (ρ.f 172) #[.string s] w fun e w'=>∃ N,e=.returned (.tuple #[.int .i64 (Lib.atoiSat s.data.toList),.iface (ρ.t 168) (.pointer (some ⟨N,0,none⟩))])∧Grow w w':=by
 have mixed:=L.mixed;have t9:=L.t9;have a9:=L.a9;have z9:=L.z9;have v9:=L.v9;have t3:=L.t3;have a3:=L.a3;have z3:=L.z3;have v3:=L.v3;have t75:=L.t75;have a75:=L.a75;have z75:=L.z75;have v75:=L.v75;have t76:=L.t76;have a76:=L.a76;have z76:=L.z76;have v76:=L.v76;have t4:=L.t4;have a4:=L.a4;have z4:=L.z4;have v4:=L.v4;have r:∀ args w,(callFunc (ρ.f 244) args).run P w=.ok (.enter (ρ.f 244) args) w:=enters_of L.f244 Ag rfl;have u:∀ args w,(callFunc (ρ.f 245) args).run P w=.ok (.enter (ρ.f 245) args) w:=enters_of L.f245 Ag rfl;have a:=Any.internal_strconv_Atoi_all { L with } s Aa w;rw[h] at a;obtain⟨o,p⟩:=Lib.atoiSat_bounds s.data.toList;generalize Lib.atoiSat s.data.toList=sat at a o p ⊢
 have a:Calls P (ρ.f 244) #[.string s] w fun e w'=>e=.returned (.tuple #[.int .i64 (sat),.iface (ρ.t 167) (.int .i64 1)])∧Grow w w':=a.mono fun e w' ⟨k,n⟩=>⟨k,by
  rcases n with rfl | ⟨t,rfl⟩
  ·exact Anz _
  ·exact Qp _ _ _⟩
 clear h;go_enter L.f172,Body.n172_ntmps ρ;go_wp2_with (go_at_fn (ρ.f 244);refine a.mono ?_);rintro e i ⟨rfl,c⟩;have m:i.cell? ⟨(ρ.g 16),0,none⟩=some (.iface te b):=(c.cell (show (⟨(ρ.g 16),0,none⟩:Addr).block<w.heap.size from Adi d)).trans d;go_wp2_with (go_at_fn (ρ.f 245);refine(Ajy { L with } ⟨#[65,116,111,105]⟩ s 0 0 te b _ l ?_).mono ?_)
 ·exact m
 rintro e q ⟨N,rfl,j⟩;go_wp2;go_ret2;exact⟨N,rfl,c.trans j⟩
theorem A1d (L:LaysC.n172 P ρ) {s:List UInt8}{r:Int×Bool}{a:Ak} (u:Amp s=some r) (M:Nat→Prop) (w:Ak) (m:GlbM P M w) (q:Base M a w) (y:Own M w [] w) :
  Calls P (ρ.f 172) #[B5 s] w (fun e w'=>∃ X:Al×Ak,e=.returned (.tuple #[.int .i64 r.1,X.1])∧Own M w (kn M w.heap.size a X.2::[]) w'∧Aq2 X.1 r.2):=by
 obtain⟨o,p⟩:=Qw u;obtain rfl:=Ad p;have hs:=Av q y;have j:∀ {w'},Grow w w'→Own M w (kn M w.heap.size a a::[]) w':=fun c=>Ga _ _ hs c
 have n:(N1 s.toArray).size≤281474976710656:=by rw[Qt];exact o
 unfold Wg
 cases k:Vs s with
 | ok v =>
  refine(Any.strconv_Atoi_ok L ⟨s.toArray⟩ Aa v (by rw[E8];exact k) w).mono ?_;rintro e w' ⟨b,x⟩;refine⟨(.nilIface,a),b,j ?_,rfl⟩;rcases x with rfl | ⟨t,rfl⟩
  ·exact Anz _
  ·exact Qp _ _ _
 | range =>
  obtain⟨te,d,l⟩:=m.glb.rng (by rw[L.m16];rfl)
  have i:w.cell? ⟨(ρ.g 16),0,none⟩=some (.iface te d):=by have h:=All L.m16 l 0;simpa using h
  refine(A1c L ⟨s.toArray⟩ te d w n (by rw[E8];exact k) i).mono ?_;rintro e w' ⟨N,b,c⟩;rw[E8] at b;exact⟨(_,a),b,j c,⟨_,_,rfl⟩⟩
 | _ =>
  obtain⟨te,d,l⟩:=m.glb.syn (by rw[L.m15];rfl)
  have i:w.cell? ⟨(ρ.g 15),0,none⟩=some (.iface te d):=by have h:=All L.m15 l 0;simpa using h
  refine(A1b L ⟨s.toArray⟩ te d w n (by rw[E8];exact k) i).mono ?_;rintro e w' ⟨N,b,c⟩;exact⟨(_,a),b,j c,⟨_,_,rfl⟩⟩
end
end Go.Rd
end
section
namespace Go.Rd
noncomputable def Gd (l:List Int):((List UInt8)×Int)→Option (Stp ((List UInt8)×Int) (Empty)):=fun (b,a) =>
 br (Ap (a<(ln l))) (
 ck (IX a (ln l)) <|
 bd (Mn (ele l a) 10) fun c =>
 ck (SL ([32]++c)) <|
 ck (SL (b++([32]++c))) <|
 ck (IR (a+1)) <|
 some (.next ((b++([32]++c)),(a+1)))) (
 some (.brk (b,a)))
noncomputable def F3 (word:List UInt8) (l:List Int):Option (List UInt8) :=
 bd (lp (Gd l) (word,0)) fun a=>a.on (fun (b,c) =>
 some b) (fun r=>r.elim)
noncomputable def Ny (l:List Int):((List UInt8)×Int)→Option (Stp ((List UInt8)×Int) (Empty)):=fun (b,a) =>
 br (Ap (a<(ln l))) (
 ck (IX a (ln l)) <|
 bd (Mn (ele l a) 10) fun c =>
 ck (SL ([32]++c)) <|
 ck (SL (b++([32]++c))) <|
 ck (IR (a+1)) <|
 some (.next ((b++([32]++c)),(a+1)))) (
 some (.brk (b,a)))
noncomputable def I6 (word:List UInt8) (l:List Int):Option (List UInt8) :=
 bd (lp (Ny l) (word,0)) fun a=>a.on (fun (b,c) =>
 some b) (fun r=>r.elim)
noncomputable def Fx (l:List Int):Option (List UInt8) :=
 bd (F3 [] l) fun a =>
 bd (Jy a [32]) fun b =>
 some b
noncomputable def F4 (words:List (List UInt8)):((List Int)×Int)→Option (Stp ((List Int)×Int) (List Int×Bool)):=fun (c,b) =>
 br (Ap (b<(ln words))) (
 ck (IX b (ln words)) <|
 bd (Amp (ele words b)) fun a =>
 bdG (!((a.2 || (Ap (a.1<0))) || (Ap (a.1>999999)))) (Ahj a.1) fun d =>
 br (((a.2 || (Ap (a.1<0))) || (Ap (a.1>999999))) || (d != (ele words b))) (
 some (.ret ([],Az))) (
 ck (AL (c++[a.1]).length 8) <|
 ck (IR (b+1)) <|
 some (.next ((c++[a.1]),(b+1))))) (
 some (.brk (c,b)))
noncomputable def K9 (words:List (List UInt8)):Option (List Int×Bool) :=
 bd (lp (F4 words) ([],0)) fun a=>a.on (fun (b,c) =>
 some (b,true)) (fun r=>some r)
noncomputable def Ix (l:Lp):((List (List Int))×Int)→Option (Stp ((List (List Int))×Int) (Empty)):=fun (b,a) =>
 br (Ap (a<(ln l.body))) (
 ck (0≤(3:Int)) <|
 ck (AL (3:Int).toNat 8) <|
 ck (AL (b++[(List.replicate (3:Int).toNat (0:Int))]).length 24) <|
 ck (IR (a+1)) <|
 some (.next ((b++[(List.replicate (3:Int).toNat (0:Int))]),(a+1)))) (
 some (.brk (b,a)))
noncomputable def Iw (l:Lp):((List (List Int))×Int)→Option (Stp ((List (List Int))×Int) (Empty)):=fun (b,a) =>
 br (Ap (a<(ln l.logs))) (
 ck (IX a (ln l.logs)) <|
 ck (0≤(ele l.logs a)) <|
 ck (0≤(shlD 1 (ele l.logs a))) <|
 ck (AL (shlD 1 (ele l.logs a)).toNat 8) <|
 ck (AL (b++[(List.replicate (shlD 1 (ele l.logs a)).toNat (0:Int))]).length 24) <|
 ck (IR (a+1)) <|
 some (.next ((b++[(List.replicate (shlD 1 (ele l.logs a)).toNat (0:Int))]),(a+1)))) (
 some (.brk (b,a)))
noncomputable def Oc (l:Lp):Option (Sta) :=
 bd (lp (Ix l) ([],0)) fun b=>b.on (fun (d,f) =>
 bd (lp (Iw l) ([],0)) fun a=>a.on (fun (c,e) =>
 some (Sta.mk d c)) (fun r=>r.elim)) (fun r=>r.elim)
noncomputable def K5 (s:List UInt8) (d:UInt8):((List (List UInt8))×Int×Int)→Option (Stp ((List (List UInt8))×Int×Int) (Empty)):=fun (c,b,a) =>
 br (Ap (a≤(ln s))) (
 ck ((!(a==(ln s)))=true→IX a (ln s)) <|
 br ((a==(ln s)) || (((ele s a).toNat:Int)==((d).toNat:Int))) (
 ck (SX b a (ln s)) <|
 ck (AL (c++[(sub s b a)]).length 16) <|
 ck (IR (a+1)) <|
 ck (IR (a+1)) <|
 some (.next ((c++[(sub s b a)]),(a+1),(a+1)))) (
 ck (IR (a+1)) <|
 some (.next (c,b,(a+1))))) (
 some (.brk (c,b,a)))
noncomputable def Gt (s:List UInt8) (a:UInt8):Option (List (List UInt8)) :=
 bd (lp (K5 s a) ([],0,0)) fun b=>b.on (fun (c,d,e) =>
 some c) (fun r=>r.elim)
noncomputable def Er (l:List Int):((List UInt8)×Int)→Option (Stp ((List UInt8)×Int) (Empty)):=fun (b,a) =>
 br (Ap (a<(ln l))) (
 br (b != []) (
 ck (SL (b++[32])) <|
 ck (IX a (ln l)) <|
 bd (Nd (ele l a)) fun c =>
 ck (SL ((b++[32])++c)) <|
 ck (IR (a+1)) <|
 some (.next (((b++[32])++c),(a+1)))) (
 ck (IX a (ln l)) <|
 bd (Nd (ele l a)) fun d =>
 ck (SL (b++d)) <|
 ck (IR (a+1)) <|
 some (.next ((b++d),(a+1))))) (
 some (.brk (b,a)))
noncomputable def B1 (s:List UInt8) (l:List Int):Option (List UInt8) :=
 bd (lp (Er l) (s,0)) fun a=>a.on (fun (b,c) =>
 some b) (fun r=>r.elim)
noncomputable def Dn (s:List UInt8):(Int×Int)→Option (Stp (Int×Int) (Int×Bool)):=fun (b,a) =>
 br (Ap (a<(ln s))) (
 ck (IX a (ln s)) <|
 ck ((!(Ap (((ele s a).toNat:Int)<48)))=true→IX a (ln s)) <|
 br ((Ap (((ele s a).toNat:Int)<48)) || (Ap (((ele s a).toNat:Int)>57))) (
 some (.ret (0,Az))) (
 ck (IR (10 * b)) <|
 ck (IX a (ln s)) <|
 ck (IR ((10 * b)+(IntKind.i64.wrap (IntKind.u8.wrap (((ele s a).toNat:Int) - 48))))) <|
 ck (IR (a+1)) <|
 some (.next (((10 * b)+(IntKind.i64.wrap (IntKind.u8.wrap (((ele s a).toNat:Int) - 48)))),(a+1))))) (
 some (.brk (b,a)))
noncomputable def Gf (s:List UInt8):Option (Int×Bool) :=
 ck ((!((Ap ((ln s)<1)) || (Ap ((ln s)>6))))=true→IX 0 (ln s)) <|
 br (((Ap ((ln s)<1)) || (Ap ((ln s)>6))) || ((((ele s 0).toNat:Int)==48)&&(Ap ((ln s)>1)))) (
 some (0,Az)) (
 bd (lp (Dn s) (0,0)) fun b=>b.on (fun (a,c) =>
 some (a,true)) (fun r=>some r))
def Ew (l:List Int):List UInt8:=(l.map fun n=>32::Fe n).flatten
theorem Ql (n:Int) (l:List Int):Ew (n::l)=32::(Fe n++Ew l):=by simp[Ew]
theorem Aj7 (l m:List Int):Ew (l++m)=Ew l++Ew m:=by simp[Ew]
theorem Lc {l:List Int} (h:∀ v∈l,InR v):(Ew l).length≤21 * l.length:=by
 induction l with
 | nil=>simp[Ew]
 | cons n r d =>
  have a:=Ahz (h n Bf);have b:=d (fun v c=>h v (by simp[c]));rw[Ql];simp only[Ef,Ca];omega
theorem Ahp {α:Type} [Inhabited α] {l:List α}{i:Nat} (h:i<l.length):l.take (i+1)=l.take i++[ele l (i:Int)]:=by
 rw[Ag4,E7 h,Dj,Ec,E7 h];rfl
theorem Amv {l:List Int} (h:∀ v∈l,InR v) (i:Nat):∀ v∈l.take i,InR v:=fun v a=>h v (Z2 a)
theorem SL.le {l:List UInt8} (h:l.length≤100000000):SL l:=by unfold SL;omega
def Qz:=@SL.le
theorem Aqo {n:Int} (h:InR n):Mn n 10=some (Fe n):=Ax ⟨h,rfl⟩
theorem Aoe {word:List UInt8}{l:List Int} (h:∀ v∈l,InR v) (e:l.length≤1000) (g:word.length≤4000000):F3 word l=some (word++Ew l):=by
 have key:=G8 (f:=Gd l) (fun i=>(word++Ew (l.take i),(i:Int))) l.length (fun i hi=>by
  have d:IX (i:Int) (ln l):=⟨Aa,by rw[Ao];omega⟩;have c:InR (ele l (i:Int)):=Wf h hi;have a:=Ahz c;have b:=Lc (Amv h i);rw[I8] at b;unfold Gd;simp only;rw[Ck d.2,Ax d,Aqo c,bd_ret,Ax (Qz (by simp only[Ca,Ef,E6];omega)),Ax (Qz (by simp only[Ca,Ef,E6];omega)),Ay Aa Aa];rw[Ahp hi,Aj7,Ql]
  simp[Ew]) (by
  unfold Gd;simp only;rw[Cn (by rw[Ao];omega)])
 unfold F3;rw[show lp (Gd l) (word,0)=_ from (by simpa[Ew] using key),bd_ret,Out.on_go];simp[Ew]
theorem At2 {word:List UInt8}{l:List Int} (h:∀ v∈l,InR v) (a:l.length≤1000) (b:word.length≤4000000):I6 word l=some (word++Ew l):=by
 rw[←Aoe h a b];rfl
theorem Aie {l:List UInt8}:Sj (32::l) [32]=l:=by simp[Sj,P4,List.isPrefixOf]
theorem Avo (l:List Int):Sj (Ew l) [32]=(Ew l).drop 1:=by
 cases l with
 | nil=>rfl
 | cons n r=>rw[Ql,Aie];rfl
theorem Am2 {l:List Int} (h:∀ v∈l,InR v) (a:l.length≤1000):Fx l=some ((Ew l).drop 1):=by
 unfold Fx Jy;rw[Aoe h a Bf,bd_ret,bd_ret,Ua,Avo]
theorem A28 {n:Int} (h:InR n):Fe n≠[]:=by
 unfold Fe;split
 ·simp
 ·exact Ajt _
def Xu (s:List UInt8) (l:List Int):List UInt8:=if s=[] then (Ew l).drop 1 else s++Ew l
theorem Ux (l:List Int):Xu [] l=(Ew l).drop 1:=Bj rfl
theorem Wb {s:List UInt8} (l:List Int) (h:s≠[]):Xu s l=s++Ew l:=Bg h
theorem Av2 {s:List UInt8}{l:List Int} (h:∀ v∈l,InR v):(Xu s l).length≤s.length+21 * l.length:=by
 have:=Lc h;unfold Xu;split
 ·rw[Nn];omega
 ·rw[Ca];omega
theorem Wv {l:List Int} (h:∀ v∈l,InR v) (a:l≠[]):(Ew l).drop 1≠[]:=by
 cases l with
 | nil=>exact absurd rfl a
 | cons n r =>
  rw[Ql];have:=A28 (h n Bf);simp[this]
theorem At1 {l:List Int} (a:l≠[]):1≤(Ew l).length:=by
 cases l with
 | nil=>exact absurd rfl a
 | cons n r=>rw[Ql];simp
theorem Av1 {s:List UInt8}{l:List Int}{n:Int} (h:∀ v∈l,InR v):Xu s (l++[n])=if Xu s l=[] then Fe n else (Xu s l++[32])++Fe n:=by
 have e:Ew (l++[n])=Ew l++(32::Fe n):=by rw[Aj7];simp[Ew]
 by_cases hs:s=[]
 ·subst hs
  rw[Ux,Ux,e];by_cases a:l=[]
  ·subst a;simp[Ew]
  ·rw[Bg (Wv h a),List.drop_append_of_le_length (At1 a)]
   simp
 ·rw[Wb _ hs,Wb _ hs,e,Bg (by simp[hs])]
  simp
theorem V1 {s:List UInt8}{l:List Int} (h:∀ v∈l,InR v) (m:l.length≤1000) (o:s.length≤4000000):B1 s l=some (Xu s l):=by
 have key:=G8 (f:=Er l) (fun i=>(Xu s (l.take i),(i:Int))) l.length (fun i hi=>by
  have e:IX (i:Int) (ln l):=⟨Aa,by rw[Ao];omega⟩;have d:InR (ele l (i:Int)):=Wf h hi;have a:=Ahz d;have b:=Av2 (s:=s) (Amv h i);rw[I8] at b;have g:=Av1 (s:=s) (n:=ele l (i:Int)) (Amv h i);rw[←Ahp hi] at g;rw[g];generalize Xu s (l.take i)=q at b;unfold Er;simp only;rw[Ck e.2];by_cases c:q=[]
  ·rw[show (q != [])=Az by rw[c];rfl,br_false,Ax e,Ap3 d,bd_ret,Ax (Qz (by simp only[Ca];omega)),Ay Aa Aa,Bj c,c]
   rfl
  ·rw[show (q != [])=true by rw[T4];exact c,br_true,Ax (Qz (by simp only[Ca,Ef,E6];omega)),Ax e,Ap3 d,bd_ret,Ax (Qz (by simp only[Ca,Ef,E6];omega)),Ay Aa Aa,Bg c]
   rfl) (by
  unfold Er;simp only;rw[Cn (by rw[Ao];omega)])
 have j:Xu s (l.take 0)=s:=by
  by_cases hs:s=[]
  ·subst hs;rfl
  ·rw[Wb _ hs];simp[Ew]
 unfold B1;rw[show lp (Er l) (s,0)=_ from (by have k:=key;simp only[j] at k;exact k),bd_ret,Out.on_go];simp
noncomputable def Zu (s:List UInt8):Option Int:=match Nq 6 s with
 | some n=>if 0≤n then some n else none
 | none=>none
theorem A44:∀ (k u:Nat),(L5 u).length≤k+1→u<10 ^ (k+1)
 | 0,u,h=>by
  by_cases a:u<10
  ·simpa using a
  ·exfalso
   rw[V7 a,Ca] at h;have:0<(L5 (u / 10)).length:=Aen.2 (Ajt _);simp only[Ef,E6] at h;omega
 | k+1,u,h=>by
  by_cases a:u<10
  ·have:1≤10 ^ (k+1):=Nat.one_le_pow _ _ Aa
   rw[Adb];omega
  ·rw[V7 a,Ca] at h
   have:=A44 k (u / 10) (by simp only[Ef,E6] at h;omega);rw[Adb];omega
theorem U0 {s:List UInt8}{n:Int}:Zu s=some n↔(0≤n∧n≤999999∧s=Fe n):=by
 unfold Zu;constructor
 ·intro h
  split at h
  ·rename_i v c
   split at h
   ·rename_i a
    injection h with h
    subst h;have k:=Ej.1 c;have:=A44 5 v.natAbs (by have:=k.2.2;omega);exact⟨a,Aa,k.2.1⟩
   ·cases h
  ·cases h
 ·rintro⟨a,d,b⟩
  have e:=Adx 5 n.natAbs Aa;rw[Ej.2 (⟨⟨Aa,Aa⟩,b,Aa⟩:NumOk 6 s n)];simp only;rw[Bj a]
theorem A4i:∀ (l:List UInt8) (a:Nat),Lib.parseUint10 a l=T7 18446744073709551615 a l
 | [],a=>rfl
 | c::r,a=>by
  unfold Lib.parseUint10 T7;rw[A4i r];have:(18446744073709551616≤a * 10+(c.toNat - 48))=(18446744073709551615<a * 10+(c.toNat - 48)):=propext ⟨fun h=>Aa,fun h=>Aa⟩;simp only[this]
theorem Awy {n:Int} (b:0≤n) (d:n≤999999):Vs (Fe n)=.ok n:=by
 have e:Fe n=L5 n.toNat:=by unfold Fe;rw[Bg Aa]
 obtain⟨c,r,ec,c1,c2⟩:=Acq n.toNat;have a:=Axx n.toNat Aa;rw[e];rw[ec] at a ⊢;rw[Lib.atoiAll_plain c r Aa Aa];unfold Lib.parseMag;rw[Bg Bf,A4i,a];unfold Lib.signless;simp only;rw[Bg Aa];congr 1;omega
def Ahk {γ ρ:Type} (o:Option Int) (f:Int→γ) (bad:ρ):Stp γ ρ:=match o with
 | some n=>.next (f n)
 | none=>.ret bad
theorem Awx {words:List (List UInt8)}{v:List Int}{i:Nat} (hi:(i:Int)<ln words) (r:v.length≤4000000) (m:(ele words (i:Int)).length≤4000000) (q:i≤4000000) :
  F4 words (v,(i:Int))=some (Ahk (Zu (ele words (i:Int))) (fun n=>(v++[n],((i+1:Nat):Int))) ([],Az)):=by
 have o:IX (i:Int) (ln words):=⟨Aa,hi⟩;unfold F4 Amp;simp only;generalize ele words (i:Int)=s at m ⊢;rw[Ck hi,Ax o,Ax Aa,bd_ret];have fin:∀ n:Int,0≤n→n≤999999→s=Fe n→Zu s=some n:=fun n a b c=>U0.2 ⟨a,b,c⟩
 have bad:∀ (x:Int×Bool),Zu s=none→InR x.1→(x.2=Az→Vs s=.ok x.1)→(bdG (!((x.2 || (Ap (x.1<0))) || (Ap (x.1>999999)))) (Ahj x.1) fun p =>
   br (((x.2 || (Ap (x.1<0))) || (Ap (x.1>999999))) || (p != s)) (some (.ret (([]:List Int),Az))) (ck (AL (v++[x.1]).length 8)<|ck (IR ((i:Int)+1))<|some (Stp.next ((v++[x.1]),((i:Int)+1)))))=some (.ret ([],Az)):=by
  rintro⟨n,b⟩ j g l;simp only at g l ⊢;by_cases d:((b || Ap (n<0)) || Ap (n>999999))=true
  ·rw[d];rfl
  ·have d:=Ag5.2 d
   rw[d,Kc,bdG_t,Azg g,bd_ret,W6];simp only[Th,Hs] at d
   have:¬Fe n=s:=fun e=>by rw[fin n Aa Aa e.symm] at j;cases j
   rw[show (Fe n != s)=true by rw[T4];exact this,br_true]
 cases f:Zu s with
 | some n =>
  obtain⟨a,b,c⟩:=U0.1 f
  have:Wg s=(n,Az):=by unfold Wg;rw[c,Awy a b]
  rw[this];simp only
  rw[W7 (show ¬n<0 from Aa),W7 (show ¬n>999999 from Aa),show (!((Az || false) || false))=true from rfl,bdG_t,Azg ⟨Aa,Aa⟩,bd_ret,←c,show (((Az || false) || false) || (s != s))=Az from Bf,br_false,
   Z9 (by simp;omega) (by simp;omega),Ay Aa Aa]
  rfl
 | none =>
  have:=bad (Wg s) f (by
   unfold Wg
   cases k:Vs s with
   | ok v=>exact Lib.atoiAll_bounds k
   | range=>exact Lib.atoiSat_bounds s
   | _=>exact⟨Bf,Bf⟩) (by
   unfold Wg
   cases k:Vs s with
   | ok v=>exact fun _=>rfl
   | range=>exact fun h=>by cases h
   | _=>exact fun h=>by cases h)
  rw[this];rfl
theorem A6p {c:UInt8} (h:Zv c):IntKind.i64.wrap (IntKind.u8.wrap ((c.toNat:Int) - 48))=(c.toNat:Int) - 48:=by
 unfold Zv at h;rw[Azm Aa Aa,Ar4 ⟨Aa,Aa⟩]
def Td (a:Nat) (c:UInt8):Nat:=10 * a+(c.toNat - 48)
theorem Atv:∀ (k:Nat) (t:List UInt8),t.length≤k→(∀ c∈t,Zv c)→t.foldl Td 0<10 ^ k:=by
 intro k
 induction k with
 | zero=>intro t h _;obtain rfl:=Z5.1 (show t.length=0 from Aa);simp
 | succ k g =>
  intro t h d
  cases e:t.reverse with
  | nil=>obtain rfl:=List.reverse_eq_nil_iff.1 e;simp only[Alh];exact Nat.pow_pos Aa
  | cons c r =>
   have f:t=r.reverse++[c]:=by rw[←List.reverse_reverse t,e];simp
   subst f;have:=g r.reverse (by simp at h ⊢;omega) (fun c b=>d c (by simp[List.mem_reverse.1 b]));have b:=d c Bf;unfold Zv at b;rw[Aau,Adk,Alh];generalize r.reverse.foldl Td 0=a at this ⊢;unfold Td;rw[Adb];omega
theorem A3m:∀ (k:Nat) (t:List UInt8),t.length=k→t≠[]→(∀ c∈t,Zv c)→(t.length≤1∨t.head?≠some 48)→L5 (t.foldl Td 0)=t:=by
 intro k
 induction k with
 | zero=>intro t h f;exact absurd (Z5.1 h) f
 | succ k s =>
  intro t h f d a
  cases i:t.reverse with
  | nil=>exact absurd (List.reverse_eq_nil_iff.1 i) f
  | cons c r =>
   have m:t=r.reverse++[c]:=by rw[←List.reverse_reverse t,i];simp
   subst m;have b:=d c Bf;unfold Zv at b
   have g:Qd (48+(c.toNat - 48))=c:=by rw[show 48+(c.toNat - 48)=c.toNat from Aa];exact UInt8.ofNat_toNat
   rw[Aau,Adk,Alh]
   cases p:r.reverse with
   | nil =>
    simp only[Alh,Ua];unfold Td;rw[Mc Aa,show 48+(10 * 0+(c.toNat - 48))=48+(c.toNat - 48) from Aa,g]
   | cons x y =>
    rw[p] at h d a;have q:Zv x:=d x Bf;unfold Zv at q
    have j:x≠48:=by
     rcases a with a | a
     ·simp at a
     ·simpa using a
    have e:=s (x::y) (by simp at h ⊢;omega) Bf (fun c b=>d c (by simp at b ⊢;rcases b with h | h <;> simp[h])) (.inr (by simpa using j))
    have pos:1≤(x::y).foldl Td 0:=by
     by_cases n:(x::y).foldl Td 0=0
     ·rw[n,Mc Aa] at e
      injection e with l u
      exact absurd l.symm j
     ·omega
    generalize (x::y).foldl Td 0=w at e pos
    have o:¬Td w c<10:=by unfold Td;omega
    rw[V7 o,show Td w c / 10=w by unfold Td;omega,show Td w c % 10=c.toNat - 48 by unfold Td;omega,e,g]
theorem Asl {s:List UInt8} (hs:s.length≤6):((∀ i:Nat,i<s.length→Zv (ele s (i:Int)))∧lp (Dn s) (0,0)=some (.go (((s.foldl Td 0:Nat):Int),(s.length:Int))))∨((∃ i:Nat,i<s.length∧¬Zv (ele s (i:Int)))∧lp (Dn s) (0,0)=some (.ret (0,Az))):=by
 have key:=Lz (f:=Dn s) (fun i=>((((s.take i).foldl Td 0:Nat):Int),(i:Int))) s.length (fun i=>Zv (ele s (i:Int))) (fun _=>((0:Int),Az)) (fun i hi o=>?_) ?_
 ·rcases key with ⟨e,b⟩ | ⟨i,e,b,_,g⟩
  ·left
   refine⟨e,?_⟩;rw[W9 (Co _)] at b;simpa using b
  ·right
   exact⟨⟨i,e,b⟩,by simpa using g⟩
 ·have d:IX (i:Int) (ln s):=⟨Aa,by rw[Ao];omega⟩
  have k:=Atv 6 (s.take i) (by rw[I8];omega) (fun c l=>by
   obtain⟨j,n,rfl⟩:=Qv l;rw[I8] at n;have:=o j Aa;rw[Dj,Ec,Rp,Bj Aa]
   rwa [Dj,Ec] at this)
  have p:(s.take (i+1)).foldl Td 0=Td ((s.take i).foldl Td 0) (ele s (i:Int)):=by rw[Ahp hi,Aau];rfl
  rw[p];generalize (s.take i).foldl Td 0=a at k;unfold Dn;simp only;rw[Ck d.2,Ax d,Fv (fun _=>d)];refine⟨fun h=>?_,fun h=>?_⟩
  ·have m:=A6p h
   unfold Zv at h;rw[show (Ap (((ele s (i:Int)).toNat:Int)<48) || Ap (((ele s (i:Int)).toNat:Int)>57))=Az by simp;omega,br_false,m,Ay Aa Aa,Ax d,Ay Aa Aa,Ay Aa Aa];unfold Td;rw[show (10 * (a:Int)+(((ele s (i:Int)).toNat:Int) - 48))=((10 * a+((ele s (i:Int)).toNat - 48):Nat):Int) from Aa];rfl
  ·unfold Zv at h
   rw[show (Ap (((ele s (i:Int)).toNat:Int)<48) || Ap (((ele s (i:Int)).toNat:Int)>57))=true by simp;omega,br_true]
 ·unfold Dn
  simp only;rw[Cn (by rw[Ao];omega)]
theorem Awd {s:List UInt8}:Tells (Gf s) (Zu s):=by
 have no:∀ {m:Option (Int×Bool)},m=some (0,Az)→(∀ n,Zu s≠some n)→Tells m (Zu s):=fun {m} H h=>by
  cases o:Zu s with
  | none=>exact⟨0,H,fun a p=>by cases p⟩
  | some n=>exact absurd o (h n)
 unfold Gf;by_cases d:(((Ap ((ln s)<1)) || (Ap ((ln s)>6))) || ((((ele s 0).toNat:Int)==48)&&(Ap ((ln s)>1))))=true
 ·rw[Fv (fun h=>by
   have f:¬(ln s<1):=fun E=>by rw[Ls E] at h;simp at h
   rw[Ao] at f
   exact⟨Fo _,by rw[Ao];omega⟩),d,br_true]
  refine no rfl (fun n t=>?_);obtain⟨a,b,c⟩:=U0.1 t
  have e:s=L5 n.toNat:=by rw[c];unfold Fe;rw[Bg Aa]
  have G:=Adx 5 n.toNat Aa;rw[←e] at G
  have k:s≠[]:=by rw[e];exact Ajt _
  have J:=Aen.2 k;rw[W8,W8,Fa,Ag6,Ag6,Ag6,Dk,Ao] at d;rcases d with (d | d) | ⟨f,l⟩
  ·omega
  ·omega
  ·obtain⟨x,r,ex,_,_⟩:=Acq n.toNat
   have I:ele s 0=x:=by rw[e,ex];rfl
   rw[I] at f;have B:x=48:=UInt8.toNat_inj.1 (by show x.toNat=48;omega)
   have A:n.toNat=0:=by
    rcases Als n.toNat with h | h
    ·exact h
    ·exact absurd (by rw[ex,B];rfl) (A3n n.toNat h)
   rw[e,A,Mc Aa] at l;exact absurd l Ah
 ·have d:=Ag5.2 d
  have v:=d;rw[Th,Th,Hs,Hs,Ao] at v;obtain⟨⟨f,l⟩,u⟩:=v
  have k:s≠[]:=fun h=>by rw[h] at f;exact f Ah
  rw[Fv (fun _=>⟨Fo _,by rw[Ao];omega⟩),d,br_false];rcases Asl (s:=s) Aa with ⟨q,e⟩ | ⟨⟨i,hi,q⟩,e⟩
  ·rw[e,bd_ret,Out.on_go]
   have w:∀ c∈s,Zv c:=fun c g=>by obtain⟨j,F,rfl⟩:=Qv g;exact q j F
   have K:=Atv 6 s Aa w
   have C:=A3m s.length s rfl k w (by
    cases s with
    | nil=>exact absurd rfl k
    | cons c r =>
     by_cases z:r=[]
     ·left;subst z;simp
     ·right
      intro g
      injection g with g
      subst g
      have y:ln ((48:UInt8)::r)>1:=by rw[Ao];have:=Aen.2 z;simp only[Ef];omega
      rw[Ao] at y;rw[show ele (48::r) 0=48 from rfl,Ls y] at u
      exact absurd u Ah)
   have o:Zu s=some ((s.foldl Td 0:Nat):Int):=U0.2 ⟨Aa,Aa,by
    unfold Fe;rw[Bg Aa,I9];exact C.symm⟩
   rw[o];exact⟨_,rfl,fun a p=>by injection p⟩
  ·rw[e,bd_ret,Out.on_ret]
   refine no rfl (fun n t=>?_);obtain⟨a,b,c⟩:=U0.1 t
   have e:s=L5 n.toNat:=by rw[c];unfold Fe;rw[Bg Aa]
   exact q (Amk n.toNat _ (by rw[←e];exact D9 hi))
noncomputable def Xd:List (List UInt8)→Option (List Int)
 | []=>some []
 | w::r=>match Zu w,Xd r with
  | some n,some l=>some (n::l)
  | _,_=>none
theorem Ao7:∀ {d:List (List UInt8)}{l:List Int},Xd d=some l→(∀ n∈l,0≤n∧n≤999999)∧l.length=d.length
 | [],l,h=>by rw[Xd] at h;injection h with h;subst h;simp
 | w::r,l,h=>by
  rw[Xd] at h;split at h
  ·rename_i n g e f
   injection h with h
   subst h;have a:=U0.1 e;have b:=Ao7 f;refine⟨fun m c=>?_,by simp[b.2]⟩;rcases Gw.1 c with rfl | c
   ·exact⟨a.1,a.2.1⟩
   ·exact b.1 m c
  ·cases h
def Sv {γ ρ:Type} (o:Option (List Int)) (f:List Int→γ) (bad:ρ):Out γ ρ:=match o with
 | some l=>.go (f l)
 | none=>.ret bad
theorem Aor {γ ρ:Type}{F:γ→Option (Stp γ ρ)}{f:List Int→Nat→γ}{bad:ρ} (W:List (List UInt8)) (B:Nat) (step:∀ (i:Nat) v,i<W.length→v.length≤i→F (f v i)=some (Ahk (Zu (ele W (i:Int))) (fun n=>f (v++[n]) (i+1)) bad)) (k:∀ v,F (f v W.length)=some (.brk (f v W.length))) :
  ∀ (r:List (List UInt8)) (i:Nat) (v:List Int),W.drop i=r→i+r.length=W.length→v.length≤i→lp F (f v i)=some (Sv (Xd r) (fun l=>f (v++l) W.length) bad):=by
 intro r
 induction r with
 | nil =>
  intro i v b a g
  obtain rfl:i=W.length:=by simpa using a
  rw[Db (k v),Xd];simp[Sv]
 | cons s r o =>
  intro i v b a g;simp only[Ef] at a;have d:i<W.length:=Aa;have c:=Zq d;rw[b] at c
  injection c with h j
  have st:=step i v d g;rw[←h] at st;rw[Xd]
  cases e:Zu s with
  | none=>rw[e] at st;exact Hw st
  | some m =>
   rw[e] at st;have:=o (i+1) (v++[m]) j.symm Aa (by simp;omega);rw[B4 st this]
   cases Xd r <;> simp[Sv]
theorem Awc {W:List (List UInt8)} (b:W.length≤4000000) (a:∀ w∈W,w.length≤4000000):K9 W=some (match Xd W with
  | some l=>(l,true)
  | none=>([],Az)):=by
 have key:=Aor (F:=F4 W) (f:=fun v i=>(v,(i:Int))) (bad:=(([]:List Int),Az)) W 0 (fun i v hi c=>Awx (by rw[Ao];omega) Aa (a _ (D9 hi)) Aa) (fun v=>by
  unfold F4;simp only;rw[Cn (by rw[Ao];omega)]) W 0 [] rfl Aa Bf
 unfold K9;rw[show lp (F4 W) ([],0)=_ from key]
 cases Xd W with
 | none=>rfl
 | some l=>simp[Sv,bd_ret,Out.on_go]
theorem Aph {s:List UInt8} (c:UInt8) (hs:s.length≤4000000):Gt s c=some (spl c s):=by
 have:=Azz (s:=s) c hs;exact this
theorem Asg {l r:Lp}{s:List UInt8} (h:Rw l s=some r):V0 r=V0 l++(s++[10]):=by
 have o:=Zk (c:=32) s;unfold Rw at h;split at h
 ·cases h
 rename_i k a e;rw[e] at o;unfold Ati at h;split at h
 ·rename_i d
  split at h
  ·rename_i v
   unfold rdA at h;split at h
   ·split at h
    ·rename_i x _ n j;injection h with h;subst h
     have u:=(Ej.1 j).2.1
     have:aW++32::x=s:=by rw[←d];exact o
     unfold V0;simp only[v.1,v.2,Q0,Aeo,List.map_nil,List.flatten_nil,N2,Vv,Z0];rw[←this,u];simp[arrT,aW]
    ·cases h
   ·cases h
  ·cases h
 split at h
 ·rename_i d
  unfold rdT at h;split at h
  ·split at h
   ·rename_i x _ n j;injection h with h;subst h
    have u:=(Ej.1 j).2.1
    have:oW++32::x=s:=by rw[←d];exact o
    unfold V0;simp only[Q0,Aeo,List.map_nil,List.flatten_nil,N2,Vv,Z0];rw[←this,u];simp[outT,oW]
   ·cases h
  ·cases h
 ·unfold rdB at h
  split at h
  ·rename_i st b;injection h with h;subst h
   split at b
   ·rename_i A
    have key:A1q st=s:=by
     rw[←o];unfold Tj at b;split at b
     ·rename_i d
      unfold rdC at b;split at b
      ·split at b
       ·rename_i x n j;injection b with b;subst b
        rw[d,(Ej.1 j).2.1];rfl
       ·cases b
      ·cases b
     split at b
     ·rename_i d
      unfold rdU at b;split at b
      ·injection b with b;subst b;rw[d];rfl
      ·cases b
     split at b
     ·rename_i d
      unfold rdL at b;split at b
      ·split at b
       ·rename_i x y z n m p f g t;injection b with b;subst b
        rw[d,(Ej.1 f).2.1,(Ej.1 g).2.1,(Ej.1 t).2.1];rfl
       ·cases b
      ·cases b
     split at b
     ·rename_i d
      unfold rdS at b;split at b
      ·split at b
       ·rename_i x y z q n m p r f g t w;injection b with b;subst b
        rw[d,(Ej.1 f).2.1,(Ej.1 g).2.1,(Ej.1 t).2.1,(Pr w).2.2.2];simp[A1q,Art,Aby,sT]
       ·cases b
      ·cases b
     split at b
     ·rename_i d
      obtain⟨i,hi,rfl⟩:=Am3.1 d;unfold rdO at b;split at b
      ·split at b
       ·rename_i x y r q f g;injection b with b;subst b
        rw[(Pr f).2.2.2,(Pr g).2.2.2,At4 i hi];unfold A1q;simp only;rw[Bg Aa,Bg Aa,Bg Aa,Bg Aa,show (11+(i:Int) - 11)=(i:Int) from Aa];rfl
       ·cases b
      ·cases b
     ·cases b
    unfold V0;simp only[A,Q0,Aeo,List.map_nil,List.flatten_nil,N2,Vv,Z0,lnT];rw[key];simp
   ·cases b
  ·cases h
theorem Ash {l r:Lp}{i j:Nat}{V:List (List UInt8)} (h:Q2 l i V=(some r,j)):V0 r=V0 l++(V.map (·++[10])).flatten:=by
 induction V generalizing l i with
 | nil=>rw[Q2] at h;injection h with a d;injection a with a;subst a;simp
 | cons s t c =>
  cases b:Rw l s with
  | none=>rw[Wm b] at h;cases h
  | some m =>
   rw[Wl b] at h;rw[c h,Asg b];simp
theorem Aid:∀ {V:List (List UInt8)},Aby 10 (V++[[]])=(V.map (·++[10])).flatten
 | []=>rfl
 | [x]=>by simp[Aby]
 | x::y::r=>by
  have:=Aid (V:=y::r);rw[Vz,Vz,Aby,←Vz,this];simp
theorem Asj {s:List UInt8} (h:(On s).2.code=0):LoopOk (On s).1∧V0 (On s).1=s:=by
 have b:=Aa3 (c:=10) s;have i:=Zk (c:=10) s;have k:=Aen.2 b
 have g:ele (spl 10 s) (ln (spl 10 s) - 1)=(spl 10 s).getLast b:=by
  rw[Ao,show ((spl 10 s).length:Int) - 1=(((spl 10 s).length - 1:Nat):Int) from Aa,Dj,Ec,List.getLast_eq_getElem,E7 Aa];rfl
 have f:=List.dropLast_concat_getLast b;unfold On at h ⊢;rw[g] at h ⊢
 cases d:Q2 ⟨[],[],[]⟩ 0 (spl 10 s).dropLast with
 | mk o j =>
  rw[d] at h
  cases o with
  | none=>exact absurd h (by unfold Aqy;simp)
  | some l =>
   unfold Aqy at h ⊢;simp only at h ⊢;by_cases a:(spl 10 s).getLast b=[]∧LoopOk l
   ·rw[Bj a]
    refine⟨a.2,?_⟩;show V0 l=s;have e:=Ash d;rw[e,←Aid]
    conv=>rhs;rw[←i,←f,a.1]
    rfl
   ·rw[Bg a] at h
    exact absurd (show (2:Int)=0 from h) Ah
noncomputable def Axu (a:Al) (s:List Int):Option (List Int) :=
 br (Ahg a) (
 some []) (
 ck (AL ([]++s).length 8) <|
 some ([]++s))
noncomputable def O8 (l:List (List Int)):((List (List Int))×Int)→Option (Stp ((List (List Int))×Int) (Empty)):=fun (b,a) =>
 br (Ap (a<(ln l))) (
 ck (IX a (ln l)) <|
 bd (Acg (ele l a)) fun c =>
 ck (AL (b++[c]).length 24) <|
 ck (IR (a+1)) <|
 some (.next ((b++[c]),(a+1)))) (
 some (.brk (b,a)))
noncomputable def Qk (l:List (List Int)):Option (List (List Int)) :=
 bd (lp (O8 l) ([],0)) fun a=>a.on (fun (b,c) =>
 some b) (fun r=>r.elim)
noncomputable def E9 (a:List (List Int)) (x:Rf) (now:List Int):Option (Int) :=
 br (x.bk==0) (
 ck (IX x.st (ln now)) <|
 some (ele now x.st)) (
 ck (IR (x.bk - 1)) <|
 ck (IX (x.bk - 1) (ln a)) <|
 ck (IX x.st (ln (ele a (x.bk - 1)))) <|
 some (ele (ele a (x.bk - 1)) x.st))
noncomputable def Fw (g:List Int) (d:List Stm) (h:List (List Int)) (t:Int):((List Int)×(List (List Int))×Int)→Option (Stp ((List Int)×(List (List Int))×Int) (Empty)):=fun (e,f,c) =>
 br (Ap (c<(ln d))) (
 ck (IX c (ln d)) <|
 br ((ele d c).op==1) (
 ck (AL (e++[(ele d c).n]).length 8) <|
 ck (IR (c+1)) <|
 some (.next ((e++[(ele d c).n]),f,(c+1)))) (
 br ((ele d c).op==2) (
 ck (AL (e++[t]).length 8) <|
 ck (IR (c+1)) <|
 some (.next ((e++[t]),f,(c+1)))) (
 br ((ele d c).op==3) (
 ck (IX ((ele d c).ar) (ln f)) <|
 ck (IX ((ele d c).ar) (ln g)) <|
 bd (Mg ((ele d c).sp) ((ele d c).pl) t (ele g ((ele d c).ar))) fun i =>
 ck (IX i (ln (ele f ((ele d c).ar)))) <|
 ck (AL (e++[(ele (ele f ((ele d c).ar)) i)]).length 8) <|
 ck (IR (c+1)) <|
 some (.next ((e++[(ele (ele f ((ele d c).ar)) i)]),f,(c+1)))) (
 br ((ele d c).op==4) (
 bd (E9 h ((ele d c).a) e) fun j =>
 ck (IX ((ele d c).ar) (ln f)) <|
 ck (IX ((ele d c).ar) (ln g)) <|
 bd (Mg ((ele d c).sp) ((ele d c).pl) t (ele g ((ele d c).ar))) fun k =>
 ck (IX k (ln (ele f ((ele d c).ar)))) <|
 ck (AL (e++[j]).length 8) <|
 ck (IR (c+1)) <|
 some (.next ((e++[j]),(updG f ((ele d c).ar) k j),(c+1)))) (
 ck (IR ((ele d c).op - 10)) <|
 bd (E9 h ((ele d c).a) e) fun m =>
 bd (E9 h ((ele d c).b) e) fun o =>
 bd (Uz ((ele d c).op - 10) m o) fun l =>
 ck (AL (e++[l]).length 8) <|
 ck (IR (c+1)) <|
 some (.next ((e++[l]),f,(c+1)))))))) (
 some (.brk (e,f,c)))
noncomputable def J0 (f:List Int) (e:List Stm) (h:List Int) (a:List (List Int)) (g:List (List Int)) (t:Int):Option (List (List Int)×List (List Int)) :=
 bd (lp (Fw f e a t) ([],g,0)) fun c=>c.on (fun (b,d,i) =>
 ck (SX 0 2 (ln a)) <|
 ck (AL (([b]:List (List Int))++(sub a 0 2)).length 24) <|
 some ((([b]:List (List Int))++(sub a 0 2)),d)) (fun r=>r.elim)
noncomputable def Ov (s:Sta) (c:Int):((List Int)×Int)→Option (Stp ((List Int)×Int) (Empty)):=fun (b,a) =>
 br (Ap (a<(ln s.bef))) (
 ck (IX a (ln s.bef)) <|
 ck (IX c (ln (ele s.bef a))) <|
 ck (AL (b++[(ele (ele s.bef a) c)]).length 8) <|
 ck (IR (a+1)) <|
 some (.next ((b++[(ele (ele s.bef a) c)]),(a+1)))) (
 some (.brk (b,a)))
noncomputable def Qj (s:Sta):((List (List Int))×Int)→Option (Stp ((List (List Int))×Int) (Empty)):=fun (b,a) =>
 br (Ap (a<3)) (
 bd (lp (Ov s a) ([],0)) fun d=>d.on (fun (c,e) =>
 ck (AL (b++[c]).length 24) <|
 ck (IR (a+1)) <|
 some (.next ((b++[c]),(a+1)))) (fun r=>r.elim)) (
 some (.brk (b,a)))
noncomputable def Qi (l:Lp) (e:Int):((List (List Int))×(List (List Int))×Int)→Option (Stp ((List (List Int))×(List (List Int))×Int) (Empty)):=fun (c,b,a) =>
 br (Ap (a<e)) (
 bd (J0 l.logs l.body l.outs b c a) fun d =>
 ck (IR (a+1)) <|
 some (.next (d.2,d.1,(a+1)))) (
 some (.brk (c,b,a)))
noncomputable def Ou (l:Lp) (b:List (List Int)):((List Int)×Int)→Option (Stp ((List Int)×Int) (Empty)):=fun (c,a) =>
 br (Ap (a<(ln l.outs))) (
 ck (IX a (ln l.outs)) <|
 ck (IX 0 (ln b)) <|
 ck (IX (ele l.outs a) (ln (ele b 0))) <|
 ck (AL (c++[(ele (ele b 0) (ele l.outs a))]).length 8) <|
 ck (IR (a+1)) <|
 some (.next ((c++[(ele (ele b 0) (ele l.outs a))]),(a+1)))) (
 some (.brk (c,a)))
noncomputable def Lb (l:Lp) (s:Sta) (a:Int):Option (Rst×Int) :=
 bd (Pc l s) fun j =>
 br (!j) (
 some ((Rst.mk [] []),2)) (
 br ((Ap (a<0)) || (Ap (a>200))) (
 some ((Rst.mk [] []),3)) (
 bd (Qk s.mem) fun i =>
 bd (lp (Qj s) ([],0)) fun c=>c.on (fun (g,k) =>
 bd (lp (Qi l a) (i,g,0)) fun d=>d.on (fun (f,b,m) =>
 bd (lp (Ou l b) ([],0)) fun e=>e.on (fun (h,n) =>
 some ((Rst.mk h f),0)) (fun r=>r.elim)) (fun r=>r.elim)) (fun r=>r.elim)))
def FitsP (l:Lp) (s:Sta):Prop:=LoopOk l∧s.bef.length=l.body.length∧s.mem.length=l.logs.length∧(∀ i,i<s.bef.length→(s.bef.getD i []).length=3)∧(∀ i,i<s.mem.length→((s.mem.getD i []).length:Int)=2 ^ (l.logs.getD i 0).toNat)
theorem Azh (l:Lp) (s:Sta) (k:l.Fine) (o:RowsOk s.bef) (u:RowsOk s.mem):Pc l s=some (tb (FitsP l s)):=by
 have q:=o.len;have v:=u.len;have r:=k.lbody;have t:=k.llogs;rw[Ev] at q v r t;unfold Pc;rw[Agr l k,bd_ret];by_cases a:LoopOk l∧s.bef.length=l.body.length∧s.mem.length=l.logs.length
 ·rw[show (((!tb (LoopOk l)) || (ln s.bef != ln l.body)) || (ln s.mem != ln l.logs))=Az from by
   rw[Dz a.1];unfold ln;simp only[F9,W6,Th,Aq9];omega,br_false]
  rcases V3 (f:=K1 s) (n:=s.bef.length) (p:=fun i=>(s.bef.getD i []).length=3) (fun i hi _=>by
    have e:K1 s i=br (!tb ((s.bef.getD i []).length=3)) (some (.ret Az)) (some (.next ((i:Int)+1))):=by
     unfold K1;rw[Ck (by unfold ln;omega),A8 Aa (by unfold ln;omega),Ay Aa Aa,Apu,neB];rw[Ht (show ln (s.bef.getD i [])=3↔(s.bef.getD i []).length=3 from by unfold ln;omega)]
    rw[e]
    exact⟨fun h=>by rw[Dz h];rfl,fun h=>by rw[C3 h];rfl⟩) (by unfold K1;exact Cn (by unfold ln;omega)) with ⟨d,b⟩ | ⟨d,b⟩
  ·rw[b,bd_ret,Out.on_go]
   rcases V3 (f:=Kz l s) (n:=s.mem.length) (p:=fun i=>((s.mem.getD i []).length:Int)=2 ^ (l.logs.getD i 0).toNat) (fun i hi _=>by
     have m:=a.1.log i Aa
     have e:Kz l s i=br (!tb (((s.mem.getD i []).length:Int)=2 ^ (l.logs.getD i 0).toNat)) (some (.ret Az)) (some (.next ((i:Int)+1))):=by
      unfold Kz;rw[Ck (by unfold ln;omega),A8 Aa (by unfold ln;omega),A8 Aa (by unfold ln;omega),Acb,Ax m.1,Ay Aa Aa,Apu,neB];have hs:shlD 1 (l.logs.getD i 0)=2 ^ (l.logs.getD i 0).toNat:=Afr _ m.1 m.2;rw[hs];rfl
     rw[e]
     exact⟨fun h=>by rw[Dz h];rfl,fun h=>by rw[C3 h];rfl⟩) (by unfold Kz;exact Cn (by unfold ln;omega)) with ⟨g,c⟩ | ⟨g,c⟩
   ·rw[c,bd_ret,Out.on_go,Dz ⟨a.1,a.2.1,a.2.2,d,g⟩]
   ·rw[c,bd_ret,Out.on_ret,C3 fun h=>g h.2.2.2.2]
  ·rw[b,bd_ret,Out.on_ret,C3 fun h=>d h.2.2.2.1]
 ·have:(((!tb (LoopOk l)) || (ln s.bef != ln l.body)) || (ln s.mem != ln l.logs))=true:=by
   cases j:(((!tb (LoopOk l)) || (ln s.bef != ln l.body)) || (ln s.mem != ln l.logs)) with
   | true=>rfl
   | false =>
    unfold ln at j;simp only[Th,Aq9,Aq8] at j;exact absurd ⟨Al8.1 j.1.1,Aa,Aa⟩ a
  rw[this,br_true,C3 fun h=>a ⟨h.1,h.2.1,h.2.2.1⟩]
def Ac7 (a:List (List Int)) (now:List Int) (x:Rf):Int:=if x.bk=0 then ele now x.st else ele (ele a (x.bk - 1)) x.st
def Abz (logs:List Int) (c:List (List Int)) (t:Int) (p:List Int×List (List Int)) (s:Stm):List Int×List (List Int) :=
 if s.op=1 then (p.1++[s.n],p.2)
 else if s.op=2 then (p.1++[t],p.2)
 else if s.op=3 then (p.1++[ele (ele p.2 s.ar) (idx s.sp s.pl t (ele logs s.ar))],p.2)
 else if s.op=4 then (p.1++[Ac7 c p.1 s.a],updG p.2 s.ar (idx s.sp s.pl t (ele logs s.ar)) (Ac7 c p.1 s.a))
 else (p.1++[opV (s.op - 10) (Ac7 c p.1 s.a) (Ac7 c p.1 s.b)],p.2)
def Xt (l:Lp) (a mem:List (List Int)) (t:Int):List Int×List (List Int):=l.body.foldl (Abz l.logs a t) ([],mem)
def Aq0 (bef:List (List Int)) (j:Nat):List Int:=bef.map fun b=>b.getD j 0
def Pg (l:Lp) (s:Sta):Nat→List (List Int)×List (List Int)
 | 0=>([Aq0 s.bef 0,Aq0 s.bef 1,Aq0 s.bef 2],s.mem)
 | t+1=>((Xt l (Pg l s t).1 (Pg l s t).2 t).1::(Pg l s t).1,(Xt l (Pg l s t).1 (Pg l s t).2 t).2)
def Ajs (l:Lp) (s:Sta) (t:Nat):List Int:=l.outs.map fun k=>ele (ele (Pg l s t).1 0) k
structure MemOk (l:Lp) (m:List (List Int)):Prop where
 len:m.length=l.logs.length
 row:∀ i:Nat,i<m.length→((m.getD i []).length:Int)=2 ^ (l.logs.getD i 0).toNat
 rng:∀ r∈m,∀ x∈r,InR x
structure RowOk (l:Lp) (r:List Int):Prop where
 len:r.length=l.body.length
 rng:∀ x∈r,InR x
theorem Afy {r:List Int} (h:∀ x∈r,InR x) (i:Int):InR (ele r i):=Ah0 h (by unfold InR;decide) i.toNat
theorem U4 {m:List (List Int)} (h:∀ r∈m,∀ x∈r,InR x) (i j:Int):InR (ele (ele m i) j):=Afy (Ah0 (p:=fun r:List Int=>∀ x∈r,InR x) h (fun x a=>by cases a) i.toNat) j
theorem At9 {α:Type}{l:List α}{i:Int}{z x:α} (h:x∈upd l i z):x∈l∨x=z:=Ahb h
theorem A3k {m:List (List Int)}{i x:Int} (h:x∈ele m i):∃ r∈m,x∈r:=by
 unfold ele at h;by_cases hi:i.toNat<m.length
 ·rw[Ec,E7 hi] at h
  exact⟨_,Vy hi,h⟩
 ·rw[Ec,Q1 Aa] at h
  cases h
theorem MemOk.updG {l:Lp}{m:List (List Int)} (h:MemOk l m) (i j z:Int) (e:InR z):MemOk l (updG m i j z):=by
 refine⟨by unfold Rd.updG;rw[El];exact h.len,fun k c=>?_,fun r a x b=>?_⟩
 ·unfold Rd.updG at c ⊢
  rw[El] at c;rw[N4];split
  ·rename_i d
   rw[El,A00,d.1];exact h.row k c
  ·exact h.row k c
 ·unfold Rd.updG at a
  rcases At9 a with a | rfl
  ·exact h.rng r a x b
  ·rcases At9 b with b | rfl
   ·obtain⟨r,a,b⟩:=A3k b
    exact h.rng r a x b
   ·exact e
theorem Ao2 {a:List (List Int)}{now:List Int} (c:∀ r∈a,∀ x∈r,InR x) (b:∀ x∈now,InR x) (x:Rf):InR (Ac7 a now x):=by
 unfold Ac7;split
 ·exact Afy b _
 ·exact U4 c _ _
theorem At6 (op a b:Int):InR (opV op a b):=A6e op a b
theorem Yn {r:List Int}{v:Int} (h:∀ x∈r,InR x) (b:InR v):∀ x∈r++[v],InR x:=fun x c=>by
 rcases F8.1 c with a | a
 ·exact h x a
 ·simp at a;subst a;exact b
theorem Azu {l:Lp} (f:l.Fine) {c:List (List Int)}{t:Int} (e:InR t) {p:List Int×List (List Int)} (d:∀ r∈c,∀ x∈r,InR x) (a:∀ x∈p.1,InR x) (b:MemOk l p.2) {s:Stm} (hs:s.InR) :
  (Abz l.logs c t p s).1.length=p.1.length+1∧(∀ x∈(Abz l.logs c t p s).1,InR x)∧MemOk l (Abz l.logs c t p s).2:=by
 unfold Abz;split
 ·exact⟨Bf,Yn a hs.2.2.2.2.2.2.2.2,b⟩
 split
 ·exact⟨Bf,Yn a e,b⟩
 split
 ·exact⟨Bf,Yn a (U4 b.rng _ _),b⟩
 split
 ·exact⟨Bf,Yn a (Ao2 d a _),b.updG _ _ _ (Ao2 d a _)⟩
 ·exact⟨Bf,Yn a (At6 _ _ _),b⟩
def P6 (l:Lp) (a mem:List (List Int)) (t:Int) (i:Nat):List Int×List (List Int):=(l.body.take i).foldl (Abz l.logs a t) ([],mem)
theorem Wo {l:Lp}{a mem:List (List Int)}{t:Int}{i:Nat} (h:i<l.body.length):P6 l a mem t (i+1)=Abz l.logs a t (P6 l a mem t i) (ele l.body i):=by
 unfold P6;rw[Kg h,Aau];rfl
theorem Ahu {l:Lp} (b:l.Fine) {a mem:List (List Int)}{t:Int} (e:InR t) (d:∀ r∈a,∀ x∈r,InR x) (c:MemOk l mem):∀ i,i≤l.body.length→(P6 l a mem t i).1.length=i∧(∀ x∈(P6 l a mem t i).1,InR x)∧MemOk l (P6 l a mem t i).2
 | 0,_=>⟨rfl,fun x k=>(by cases k),c⟩
 | i+1,h=>by
  obtain⟨f,g,j⟩:=Ahu b e d c i Aa;rw[Wo Aa];have:=Azu b e d g j (Wf (p:=Stm.InR) b.rbody (i:=i) Aa);exact⟨by rw[this.1,f],this.2⟩
theorem Wi (l:Lp) (a mem:List (List Int)) (t:Int):Xt l a mem t=P6 l a mem t l.body.length:=by unfold Xt P6;rw[X3]
theorem At3 {l:Lp}{a:List (List Int)}{now:List Int}{x:Rf}{k:Nat} (c:RefOk l.body.length k x) (j:now.length=k) (g:k≤l.body.length) (f:l.body.length≤9223372036854775807) (e:3≤a.length) (b:∀ r∈a,r.length=l.body.length):E9 a x now=some (Ac7 a now x):=by
 obtain⟨d,a2,a3,a4,a5⟩:=c;unfold E9 Ac7;rw[Aaa];simp only[Dk];by_cases h:x.bk=0
 ·rw[Bj h,Bj h,A8 a3 (by unfold ln;have:=a4 h;omega)]
 ·have m:(ele a (x.bk - 1)).length=l.body.length:=by
   have:=Wf (p:=fun r:List Int=>r.length=l.body.length) b (i:=(x.bk - 1).toNat) Aa;rwa [show (((x.bk - 1).toNat:Nat):Int)=x.bk - 1 from Aa] at this
  rw[Bg h,Bg h,Ay Aa Aa,A8 Aa (by unfold ln;omega),A8 a3 (by unfold ln;have:=a5 h;omega)]
theorem A6k {step plus t log:Int} (a:0≤log) (b:log≤5):0≤idx step plus t log∧idx step plus t log<2 ^ log.toNat:=by
 have c:=My log.toNat Aa;unfold idx;split
 ·exact⟨Ro _ Aa,Rq _ Aa⟩
 ·omega
theorem Amt {l:Lp} (c:LoopOk l) {m:List (List Int)} (b:MemOk l m) {s:Stm} (f:Lr l.logs.length s) (t:Int) :
  IX s.ar (ln m)∧IX s.ar (ln l.logs)∧IX (idx s.sp s.pl t (ele l.logs s.ar)) (ln (ele m s.ar)):=by
 have g:=b.len;obtain⟨w1,w2,_⟩:=f;have e:((s.ar.toNat:Nat):Int)=s.ar:=Aa;have a:=c.log s.ar.toNat Aa;have d:=b.row s.ar.toNat Aa;have hi:=A6k (step:=s.sp) (plus:=s.pl) (t:=t) a.1 a.2;refine⟨⟨w1,by unfold ln;omega⟩,⟨w1,by unfold ln;omega⟩,hi.1,?_⟩;have:ln (ele m s.ar)=2 ^ (l.logs.getD s.ar.toNat 0).toNat:=d;rw[this];exact hi.2
theorem Avm {l:Lp} (g:LoopOk l) (B:l.Fine) {c mem:List (List Int)}{t:Int} (G:InR t) (n:∀ r∈c,RowOk l r) (y:3≤c.length) (E:MemOk l mem) (i:Nat) (hi:i<l.body.length) :
  Fw l.logs l.body c t ((P6 l c mem t i).1,(P6 l c mem t i).2,i)=some (.next ((P6 l c mem t (i+1)).1,(P6 l c mem t (i+1)).2,((i+1:Nat):Int))):=by
 obtain⟨u,H,w⟩:=Ahu B G (fun r e=>(n r e).rng) E i Aa;rw[Wo hi];generalize hP:P6 l c mem t i=p at u H w;have M:=g.2.2.1;have o:=g.stm i hi;rw[show l.body.getD i Stm.zero=ele l.body (i:Int) from rfl] at o;generalize hs:ele l.body (i:Int)=s at o;obtain⟨I,J,z⟩:=o;have d:∀ v:Int,AL (p.1++[v]).length 8:=fun v=>AL8 (by simp;omega);have A:(s.op=4∨s.op>10)→E9 c s.a p.1=some (Ac7 c p.1 s.a):=fun h=>At3 (I h) u Aa Aa y (fun r e=>(n r e).len);have K:s.op>10→E9 c s.b p.1=some (Ac7 c p.1 s.b):=fun h=>At3 (J h) u Aa Aa y (fun r e=>(n r e).len);have C:IX (i:Int) (ln l.body):=⟨Aa,by unfold ln;omega⟩;have F:((i+1:Nat):Int)=(i:Int)+1:=rfl;unfold Fw Abz;simp only;rw[Ck (by unfold ln;omega),Ax C,hs,F];by_cases j:s.op=1
 ·rw[show (s.op==1)=true from by simpa using j,br_true,Ax (d _),Ay Aa Aa,Bj j]
 rw[show (s.op==1)=Az from by simpa using j,br_false,Bg j];by_cases k:s.op=2
 ·rw[show (s.op==2)=true from by simpa using k,br_true,Ax (d _),Ay Aa Aa,Bj k]
 rw[show (s.op==2)=Az from by simpa using k,br_false,Bg k];by_cases m:s.op=3
 ·have q:Lr l.logs.length s:=by rcases z with h | h | h | h | h <;> first | exact h.2.2.1 | omega
  obtain⟨w1,w2,x⟩:=Amt g w q t;rw[show (s.op==3)=true from by simpa using m,br_true,Ax w1,Ax w2,Yy,bd_ret,Ax x,Ax (d _),Ay Aa Aa,Bj m]
 rw[show (s.op==3)=Az from by simpa using m,br_false,Bg m];by_cases f:s.op=4
 ·have q:Lr l.logs.length s:=by rcases z with h | h | h | h | h <;> first | exact h.2.2.1 | omega
  obtain⟨w1,w2,x⟩:=Amt g w q t;rw[show (s.op==4)=true from by simpa using f,br_true,A (.inl f),bd_ret,Ax w1,Ax w2,Yy,bd_ret,Ax x,Ax (d _),Ay Aa Aa,Bj f]
 have L:11≤s.op∧s.op≤18:=Aa;rw[show (s.op==4)=Az from by simpa using f,br_false,Bg f,Ay Aa Aa,A (.inr Aa),bd_ret,K Aa,bd_ret,Ao9,bd_ret,Ax (d _),Ay Aa Aa]
theorem Ajw {l:Lp} (d:LoopOk l) (c:l.Fine) {a mem:List (List Int)}{t:Int} (g:InR t) (f:∀ r∈a,RowOk l r) (b:3≤a.length) (e:MemOk l mem):∀ (m i:Nat),i+m=l.body.length →
  lp (Fw l.logs l.body a t) ((P6 l a mem t i).1,(P6 l a mem t i).2,(i:Int))=some (.go ((Xt l a mem t).1,(Xt l a mem t).2,(l.body.length:Int)))
 | 0,i,h=>by
  have hi:i=l.body.length:=Aa;subst hi;rw[Wi];refine Db ?_;unfold Fw;exact Cn (by unfold ln;omega)
 | m+1,i,h=>B4 (Avm d c g f b e i Aa) (Ajw d c g f b e m (i+1) Aa)
theorem Azn {l:Lp} (c:LoopOk l) (b:l.Fine) {a mem:List (List Int)}{t:Int} (f:InR t) (e:∀ r∈a,RowOk l r) (g:a.length=3) (d:MemOk l mem) :
  J0 l.logs l.body l.outs a mem t=some ((Xt l a mem t).1::a.take 2,(Xt l a mem t).2):=by
 unfold J0;have h:=Ajw c b f e Aa d l.body.length 0 Aa;rw[show P6 l a mem t 0=([],mem) from rfl,show (((0:Nat)):Int)=0 from rfl] at h;rw[h,bd_ret,Out.on_go];simp only;rw[Rz Aa Aa (by unfold ln;omega),Ax (A11 (by simp[Rd.sub];omega))];rfl
theorem Azi {m:List (List Int)} (c:m.length≤100) (a:∀ r∈m,r.length≤100000):Qk m=some m:=by
 have e:lp (O8 m) ([],0)=some (.go ((List.range m.length).map (fun i:Nat=>ele m (i:Int)),(m.length:Int))):=by
  refine Acp (fun i hi=>?_) ?_
  ·have b:=Wf (p:=fun r:List Int=>r.length≤100000) a hi
   unfold O8 Acg;simp only;rw[Ck (by unfold ln;omega),A8 Aa (by unfold ln;omega),Ax (AL8 b),bd_ret,Ax (A11 (by simp;omega)),Ay Aa Aa]
  ·unfold O8
   exact Cn (by unfold ln;omega)
 unfold Qk;rw[e,bd_ret,Out.on_go,Ad5]
structure StaOk (l:Lp) (s:Sta):Prop where
 loop:LoopOk l
 len:s.bef.length=l.body.length
 bef:∀ i:Nat,i<s.bef.length→(s.bef.getD i []).length=3
 rbef:∀ r∈s.bef,∀ x∈r,InR x
 mem:MemOk l s.mem
theorem FitsP.ok {l:Lp}{s:Sta} (h:FitsP l s) (a:RowsOk s.bef) (b:RowsOk s.mem):StaOk l s:=⟨h.1,h.2.1,h.2.2.2.1,a.rng,⟨h.2.2.1,h.2.2.2.2,b.rng⟩⟩
theorem MemOk.small {l:Lp} (b:LoopOk l) {m:List (List Int)} (h:MemOk l m):m.length≤100∧∀ r∈m,r.length≤100000:=by
 have:=h.len;have:=b.1;refine⟨Aa,fun r c=>?_⟩;obtain⟨i,hi,rfl⟩:=Adm c;have a:=h.row i hi;have d:=b.log i Aa;have e:=My (l.logs.getD i 0).toNat Aa;rw[Ec,E7 hi] at a;simp only[Option.getD_some] at a;omega
theorem A6q {l:Lp}{s:Sta} (h:StaOk l s) (j:Nat):RowOk l (Aq0 s.bef j):=by
 refine⟨by unfold Aq0;rw[Gl,h.len],fun x b=>?_⟩;obtain⟨r,a,rfl⟩:=I7.1 b;exact Ah0 (h.rbef r a) (by unfold InR;decide) j
theorem Amb {l:Lp} (d:l.Fine) {s:Sta} (h:StaOk l s):∀ t:Nat,t≤100000→(∀ r∈(Pg l s t).1,RowOk l r)∧MemOk l (Pg l s t).2∧(Pg l s t).1.length=t+3
 | 0,_=>⟨fun r a=>by
   simp only[Pg,Gw,Agz,or_false] at a
   rcases a with rfl | rfl | rfl <;> exact A6q h _,h.mem,rfl⟩
 | t+1,ht=>by
  obtain⟨c,e,f⟩:=Amb d h t Aa;have b:=Ahu d (t:=(t:Int)) (by unfold InR;omega) (fun r a=>(c r a).rng) e l.body.length (Co _);rw[←Wi] at b;refine⟨fun r a=>?_,b.2.2,by simp[Pg,f]⟩;rcases Gw.1 a with rfl | a
  ·exact⟨b.1,b.2.1⟩
  ·exact c r a
theorem Ahr {l:Lp}{a:List (List Int)}{now:List Int}{x:Rf}{k:Int} (b:RefOk l.body.length k x):Ac7 (a.take 3) now x=Ac7 a now x:=by
 obtain⟨c,a2,_⟩:=b;unfold Ac7;split
 ·rfl
 ·congr 1
  unfold ele;rw[Ec,Rp,Bj Aa,Ec]
theorem Akc {l:Lp} (c:LoopOk l) (a mem:List (List Int)) (t:Int):∀ i,i≤l.body.length→P6 l (a.take 3) mem t i=P6 l a mem t i
 | 0,_=>rfl
 | i+1,h=>by
  rw[Wo Aa,Wo Aa,Akc c a mem t i Aa];obtain⟨b,d,e⟩:=c.stm i Aa;rw[show l.body.getD i Stm.zero=ele l.body (i:Int) from rfl] at b d e;unfold Abz;split
  ·rfl
  split
  ·rfl
  split
  ·rfl
  split
  ·rw[Ahr (b (.inl ‹_›))]
  ·have:(ele l.body (i:Int)).op>10:=by rcases e with h | h | h | h | h <;> omega
   rw[Ahr (b (.inr this)),Ahr (d this)]
theorem Avl {l:Lp} (b:LoopOk l) (a mem:List (List Int)) (t:Int):Xt l (a.take 3) mem t=Xt l a mem t:=by rw[Wi,Wi,Akc b _ _ _ _ (Co _)]
theorem Run_s {l:Lp}{s:Sta} (d:l.Fine) (h:StaOk l s) (y:Pc l s=some true) (n:Nat) (H:n≤200):Lb l s n=some (⟨Ajs l s n,(Pg l s n).2⟩,0):=by
 have u:=h.mem.small h.loop;have E:=h.loop.2.2.1
 have w:lp (Qj s) ([],0)=some (.go ((Pg l s 0).1.take 3,3)):=by
  refine Acp (n:=3) (h:=fun j=>Aq0 s.bef j) (fun j F=>?_) ?_
  ·have B:lp (Ov s j) ([],0)=some (.go (Aq0 s.bef j,(s.bef.length:Int))):=by
    have e:=Acp (f:=Ov s j) (n:=s.bef.length) (h:=fun i:Nat=>(ele s.bef (i:Int)).getD j 0) (fun i hi=>?_) ?_
    ·rw[Aik s.bef (fun b=>b.getD j 0)] at e
     exact e
    ·have c:=h.bef i hi
     have G:=h.len;rw[show s.bef.getD i []=ele s.bef (i:Int) from rfl] at c;unfold Ov;simp only;rw[Ck (by unfold ln;omega),A8 Aa (by unfold ln;omega),A8 Aa (by unfold ln;omega),Ax (AL8 (by simp;omega)),Ay Aa Aa];rfl
    ·unfold Ov
     exact Cn (by unfold ln;omega)
   unfold Qj;simp only;rw[Ck Aa,B,bd_ret,Out.on_go];simp only;rw[Ax (A11 (by simp;omega)),Ay Aa Aa]
  ·unfold Qj
   exact Cn Aa
 have key:∀ m i:Nat,i+m=n→lp (Qi l n) ((Pg l s i).2,(Pg l s i).1.take 3,(i:Int))=some (.go ((Pg l s n).2,(Pg l s n).1.take 3,(n:Int))):=by
  intro m
  induction m with
  | zero =>
   intro i hi;have:i=n:=Aa;subst this;refine Db ?_;unfold Qi;exact Cn Aa
  | succ m A =>
   intro i hi;refine B4 ?_ (A (i+1) Aa);obtain⟨a,t,c⟩:=Amb d h i Aa;unfold Qi;simp only;rw[Ck Aa,Azn h.loop d (by unfold InR;omega) (fun r o=>a r (Z2 o)) (by rw[I8];omega) t,bd_ret,Ay Aa Aa,Avl h.loop];simp only[List.take_take,Pg];rfl
 have q:=key n 0 Aa;rw[show ((0:Nat):Int)=0 from rfl,show (Pg l s 0).2=s.mem from rfl] at q;obtain⟨a,t,c⟩:=Amb d h n Aa
 have v:ele ((Pg l s n).1.take 3) 0=ele (Pg l s n).1 0:=by
  unfold ele;rw[Ec,Rp,Bj Ah,Ec]
 have z:(ele (Pg l s n).1 0).length=l.body.length:=by
  have:=Wf (p:=fun r:List Int=>r.length=l.body.length) (fun r o=>(a r o).len) (i:=0) Aa;exact this
 have x:lp (Ou l ((Pg l s n).1.take 3)) ([],0)=some (.go (Ajs l s n,(l.outs.length:Int))):=by
  have e:=Acp (f:=Ou l ((Pg l s n).1.take 3)) (n:=l.outs.length) (h:=fun i:Nat=>ele (ele (Pg l s n).1 0) (ele l.outs (i:Int))) (fun i hi=>?_) ?_
  ·rw[Aik l.outs (fun k=>ele (ele (Pg l s n).1 0) k)] at e
   exact e
  ·have g:=h.loop.out i hi
   rw[show l.outs.getD i 0=ele l.outs (i:Int) from rfl] at g;have C:=Uy h.loop;unfold Ou;simp only;rw[Ck (by unfold ln;omega),A8 Aa (by unfold ln;omega),A8 Aa (by unfold ln;rw[I8];omega),v,A8 g.1 (by unfold ln;rw[z];exact g.2),Ax (AL8 (by simp;omega)),Ay Aa Aa]
  ·unfold Ou
   exact Cn (by unfold ln;omega)
 unfold Lb;rw[y,bd_ret,F9,br_false,show (Ap ((n:Int)<0) || Ap ((n:Int)>200))=Az from by simp;omega,br_false,Azi u.1 u.2,bd_ret,w,bd_ret,Out.on_go];simp only;rw[q,bd_ret,Out.on_go];simp only;rw[x,bd_ret,Out.on_go]
end Go.Rd
end
section
namespace Go.Rd
section
variable {P : Bz} {n : Nat} {σ : Env} {M : Nat → Prop} {w0 : Ak} {H : List Res} {C : Ak → Prop} {rest l : List Oper} {ops : Array Oper} {Q : Exit → Act → Ak → Prop} {d id : Nat} {v : Al} {x : En} {T U : TypeId} {pos : String} {after : Array Edge} {c : Op} {y : Code}
theorem wq (h:Nat.blt d n=true) (a:QV P ⟨some d,c,T,pos,after,none⟩ σ (Own M w0 H) v) (kk:WK n (wpList P ops Q rest) ((d,(true,v))::σ) (Own M w0 H)):WK n (wpList P ops Q (⟨some d,c,T,pos,after,none⟩::rest)) σ (Own M w0 H):=WL.q rfl rfl h a kk
theorem wm (h:(Nat.blt d n,σ.ev x)=(true,some (true,v))) (kk:WK n (wpList P ops Q rest) ((d,(true,v))::σ) (Own M w0 H)):WK n (wpList P ops Q (⟨some d,.move x,T,pos,after,none⟩::rest)) σ (Own M w0 H) :=
 wq (congrArg Prod.fst h) (QV.move (congrArg Prod.snd h) rfl) kk
theorem wa (h:(Nat.blt d n,σ.ev x)=(true,some (true,v))) (kk:WK n (wpList P ops Q rest) ((d,(true,v))::σ) (Own M w0 H)):WK n (wpList P ops Q (⟨some d,.assign x,T,pos,after,none⟩::rest)) σ (Own M w0 H) :=
 wq (congrArg Prod.fst h) (QV.assign (congrArg Prod.snd h) rfl) kk
theorem wf {f off:Nat}{q:Addr} (a:Cb P U f off) (h:(Nat.blt d n,σ.ev x)=(true,some (true,.pointer (some q)))) (kk:WK n (wpList P ops Q rest) ((d,(true,.pointer (some (q.add off))))::σ) (Own M w0 H)):WK n (wpList P ops Q (⟨some d,.fieldAddr U x f,T,pos,after,none⟩::rest)) σ (Own M w0 H) :=
 wq (congrArg Prod.fst h) (QV.fieldAddr a (congrArg Prod.snd h) rfl) kk
theorem wl {q:Addr} (a:N3 P U) (h:(Nat.blt d n,σ.ev x)=(true,some (true,.pointer (some q)))) (b:∀ w,Own M w0 H w→w.cell? q=some v) (kk:WK n (wpList P ops Q rest) ((d,(true,v))::σ) (Own M w0 H)):WK n (wpList P ops Q (⟨some d,.load U x,T,pos,after,none⟩::rest)) σ (Own M w0 H) :=
 wq (congrArg Prod.fst h) (Cs a (congrArg Prod.snd h) rfl b) kk
theorem wz (i:Nat) {m a:Nat}{S:Ak→Prop} [hQ:POk Q] (hi:ops[i]?=some ⟨some d,c,T,pos,after,none⟩) (b:Nat.blt d n=true) (e:QV P ⟨some d,c,T,pos,after,none⟩ σ S v)
  (kk:WD P n ops Q S a (upto (i+1) m) ((d,(true,v))::σ) (Own M w0 H)) (f:Re ops i m=true:=by kernel_rfl):WD P n ops Q S (a+1) (upto i m) σ (Own M w0 H):=WD.q i hi f rfl rfl b e kk
theorem zm (i:Nat) {m a:Nat}{S:Ak→Prop} [hQ:POk Q] (hi:ops[i]?=some ⟨some d,.move x,T,pos,after,none⟩) (h:(Nat.blt d n,σ.ev x)=(true,some (true,v)))
  (kk:WD P n ops Q S a (upto (i+1) m) ((d,(true,v))::σ) (Own M w0 H)) (b:Re ops i m=true:=by kernel_rfl):WD P n ops Q S (a+1) (upto i m) σ (Own M w0 H):=WD.q i hi b rfl rfl (congrArg Prod.fst h) (QV.move (congrArg Prod.snd h) rfl) kk
theorem zf (i:Nat) {m a f off:Nat}{q:Addr}{S:Ak→Prop} [hQ:POk Q] (b:Cb P U f off) (hi:ops[i]?=some ⟨some d,.fieldAddr U x f,T,pos,after,none⟩) (h:(Nat.blt d n,σ.ev x)=(true,some (true,.pointer (some q))))
  (kk:WD P n ops Q S a (upto (i+1) m) ((d,(true,.pointer (some (q.add off))))::σ) (Own M w0 H)) (e:Re ops i m=true:=by kernel_rfl):WD P n ops Q S (a+1) (upto i m) σ (Own M w0 H):=WD.q i hi e rfl rfl (congrArg Prod.fst h) (QV.fieldAddr b (congrArg Prod.snd h) rfl) kk
theorem zl (i:Nat) {m a:Nat}{q:Addr}{S:Ak→Prop} [hQ:POk Q] (b:N3 P U) (hi:ops[i]?=some ⟨some d,.load U x,T,pos,after,none⟩) (h:(Nat.blt d n,σ.ev x)=(true,some (true,.pointer (some q)))) (e:∀ w,S w→w.cell? q=some v)
  (kk:WD P n ops Q S a (upto (i+1) m) ((d,(true,v))::σ) (Own M w0 H)) (f:Re ops i m=true:=by kernel_rfl):WD P n ops Q S (a+1) (upto i m) σ (Own M w0 H):=WD.q i hi f rfl rfl (congrArg Prod.fst h) (Cs b (congrArg Prod.snd h) rfl e) kk
theorem wc {α:Type}{a:En}{i:Code}{b:Bool}{f g r:α} (j:σ.ev a=some (true,.bool b)) (e:br b f g=r) (m:b=true→f=r→WK n (i.wp P Q) σ C) (k:b=Az→g=r→WK n (y.wp P Q) σ C):WK n ((Code.cond a i y).wp P Q) σ C :=
 Abm j (fun h=>m h (Aga h e)) (fun h=>k h (Agb h e))
theorem gn {j a:Nat}{b:Bool} (h:(Nat.blt d n,(ops[j]?).bind (·.dst),σ.look a)=(true,some a,some (true,.bool b))) (e:(!b)=true→QV P ⟨some d,c,T,pos,after,some (j,Az)⟩ σ (Own M w0 H) v) (kk:WK n (wpList P ops Q rest) ((d,(!b,v))::σ) (Own M w0 H)):WK n (wpList P ops Q (⟨some d,c,T,pos,after,some (j,Az)⟩::rest)) σ (Own M w0 H) :=
 WL.g rfl (congrArg (·.1) h) (GuardIs.neg (congrArg (·.2.1) h) (congrArg (·.2.2) h)) e kk
theorem gp {j a:Nat}{b:Bool} (h:(Nat.blt d n,(ops[j]?).bind (·.dst),σ.look a)=(true,some a,some (true,.bool b))) (e:b=true→QV P ⟨some d,c,T,pos,after,some (j,true)⟩ σ (Own M w0 H) v) (kk:WK n (wpList P ops Q rest) ((d,(b,v))::σ) (Own M w0 H)):WK n (wpList P ops Q (⟨some d,c,T,pos,after,some (j,true)⟩::rest)) σ (Own M w0 H) :=
 WL.g rfl (congrArg (·.1) h) (GuardIs.pos (congrArg (·.2.1) h) (congrArg (·.2.2) h)) e kk
theorem gpC {j e:Nat}{b a:Bool} (h:(Nat.blt d n,(ops[j]?).bind (·.dst),σ.look e)=(true,some e,some (a,.bool b))) (f:(a&&b)=true→QV P ⟨some d,c,T,pos,after,some (j,true)⟩ σ (Own M w0 H) v) (kk:WK n (wpList P ops Q rest) ((d,(a&&b,v))::σ) (Own M w0 H)):WK n (wpList P ops Q (⟨some d,c,T,pos,after,some (j,true)⟩::rest)) σ (Own M w0 H) :=
 WL.g rfl (congrArg (·.1) h) (Anx (congrArg (·.2.1) h) (congrArg (·.2.2) h)) f kk
theorem zn (i:Nat) {j a m e:Nat}{b:Bool}{S:Ak→Prop} [hQ:POk Q] (hi:ops[i]?=some ⟨some d,c,T,pos,after,some (j,Az)⟩) (h:(Nat.blt d n,(ops[j]?).bind (·.dst),σ.look a)=(true,some a,some (true,.bool b))) (f:(!b)=true→QV P ⟨some d,c,T,pos,after,some (j,Az)⟩ σ S v)
  (kk:WD P n ops Q S e (upto (i+1) m) ((d,(!b,v))::σ) (Own M w0 H)) (k:Re ops i m=true:=by kernel_rfl):WD P n ops Q S (e+1) (upto i m) σ (Own M w0 H):=WD.g i hi k rfl (congrArg (·.1) h) (GuardIs.neg (congrArg (·.2.1) h) (congrArg (·.2.2) h)) f kk
theorem zp (i:Nat) {j a m e:Nat}{b:Bool}{S:Ak→Prop} [hQ:POk Q] (hi:ops[i]?=some ⟨some d,c,T,pos,after,some (j,true)⟩) (h:(Nat.blt d n,(ops[j]?).bind (·.dst),σ.look a)=(true,some a,some (true,.bool b))) (f:b=true→QV P ⟨some d,c,T,pos,after,some (j,true)⟩ σ S v)
  (kk:WD P n ops Q S e (upto (i+1) m) ((d,(b,v))::σ) (Own M w0 H)) (k:Re ops i m=true:=by kernel_rfl):WD P n ops Q S (e+1) (upto i m) σ (Own M w0 H):=WD.g i hi k rfl (congrArg (·.1) h) (GuardIs.pos (congrArg (·.2.1) h) (congrArg (·.2.2) h)) f kk
theorem ec {xs:List En}{vs:List Al} (h:σ.ev x=some (true,v)) (a:EvAll σ xs vs):EvAll σ (x::xs) (v::vs):=De h rfl a
theorem eN:EvAll σ [] []:=EvAll.nil
theorem kg {α:Type}{a:α}{w:Ak} (h:Own noM w0 H w):a=a∧Grow w0 w:=⟨rfl,Axc (fun _ x=>x) h⟩
theorem pk (a:List Nat) (b:a.Nodup:=by decide) (w:Ak) (h:Own M w0 H w):Own M w0 (Agk a H) w:=h.pick a b
theorem tr {K:Act→Ak→Prop} (h:WK n (Q .ret) σ C):WK n (Exit.then K Q .ret) σ C:=h
theorem te {K:Act→Ak→Prop}{id:Nat} (h:WK n (Q (.exit id)) σ C):WK n (Exit.then K Q (.exit id)) σ C:=h
theorem kr {id:Nat} (h:WK n (Q .ret) σ C):WK n (Hi id Q .ret) σ C:=h
theorem sk (k:WK n (Q .normal) σ C):WK n (Code.skip.wp P Q) σ C:=WC.skip k
theorem sr (h:WK n (wpList P l.toArray (Exit.then (y.wp P Q) Q) l) σ C):WK n (((Sp id l.toArray Az).seq y).wp P Q) σ C:=Au (Bn h)
theorem nt (h:WK n (y.wp P Q) σ C):WK n (wpList P ops (Exit.then (y.wp P Q) Q) []) σ C:=Bk (Aj h)
theorem nr (h:WK n (wpList P l.toArray Q l) σ C):WK n (wpList P ops (Exit.then ((Sp id l.toArray Az).wp P Q) Q) []) σ C:=nt (Bn h)
theorem ns {z:Code} (h:WK n (wpList P l.toArray (Exit.then (z.wp P Q) Q) l) σ C):WK n (wpList P ops (Exit.then (((Sp id l.toArray Az).seq z).wp P Q) Q) []) σ C:=nt (sr h)
end
universe u
theorem Z {α:Sort u}{a:α}:a=a:=rfl
theorem fT (sz:Nat) {P:Bz}{T:TypeId}{f off:Nat}{b:Array Field}{a:Field} (h:P.underlying T=some (.struct b)) (c:b[f]?=some a:=by rfl) (d:a.offset=off:=by rfl) (e:(P.info? a.type).map (·.size)=some (sz+1):=by kernel_rfl):Cb P T f off:=⟨b,a,sz,h,c,d,e⟩
theorem eT {P : Bz} {f : FuncId} {fn : Func} (h : P.funcs[f]? = some fn) (a : fn.body.isNone = Az := by kernel_rfl) (b : (fn.name == "runtime.NumGoroutine") = Az := by kernel_rfl) : Enters P f := ⟨fn, h, a, b⟩
theorem nl {a b:Nat} (h:Nat.ble a b=true):a≤b:=Al0 h
theorem oc {v:Al}{r:List Al} (h:v.oneCell'=true) (k:∀ u∈r,u.oneCell'=true):∀ u∈v::r,u.oneCell'=true:=A0g h k
abbrev i_ (n:Int):Al:=.int .i64 n
section
variable {P : Bz} {n : Nat} {σ : Env} {M : Nat → Prop} {w0 k0 k : Ak} {H : List Res} {C S : Ak → Prop} {rest l : List Oper} {ops : Array Oper} {Q : Exit → Act → Ak → Prop} {K : Act → Ak → Prop} {d id : Nat} {v : Al} {x y : En} {T U E : TypeId} {pos : String} {after : Array Edge} {c : Op} {gd : Option (Nat × Bool)}
theorem sm (w:Ak) (h:C w):C w:=h
theorem bl {α β γ:Type}{f:γ→Option (Stp γ α)}{g:γ}{k:Out γ α→Option β}{r:β} (h:bd (lp f g) k=some r):∃ o,k o=some r∧∃ n,Cp f n g=some o:=by
 obtain⟨o,a,b⟩:=An h;exact⟨o,b,Am5 a⟩
theorem ep {o:Oper} (b:List Nat) {H':List Res} (h:pickE b H=some H') (kk:EV P n o σ (Own M w0 H') K Q):EV P n o σ (Own M w0 H) K Q:=EV.of (fun _ a=>a.pickE h) kk
theorem kp (b:List Nat) {H':List Res} (h:pickE b H=some H') (kk:WK n K σ (Own M w0 H')):WK n K σ (Own M w0 H):=F7 (fun _ a=>a.pickE h) kk
theorem bp {a:Nat}{τ:Env}{l:Array Bool} (i:List Nat) {H':List Res} (h:pickE i H=some H') (f:∀ w,Own M w0 H' w→S w) (kk:WD P n ops Q (Own M w0 H') a l τ (Own M w0 H)) :
  WK n (fun e w'=>∃ C' S':Ak→Prop,Im C'∧(∀ x,C' x→S' x)∧(∀ x,S' x→S x)∧C' w'∧Nu P .any ops Q S' a l C' e) τ (Own M w0 H):=WD.b (fun _ g=>g.pickE h) f kk
theorem dp (m:Nat) (e:List Nat) {H':List Res} (h:pickE e H=some H') (kk:WD P n ops Q (Own M w0 H') m (upto 0 m) σ (Own M w0 H)) (a:P.follows .mixedOrders=true:=by kernel_rfl) (hs:ops.size=m:=by kernel_rfl):WK n ((Sp id ops true).wp P Q) σ (Own M w0 H):=Aon a hs (fun _ b=>b.pickE h) kk
theorem dq (m:Nat) (kk:WD P n ops Q (Own M w0 H) m (upto 0 m) σ (Own M w0 H)) (a:P.follows .mixedOrders=true:=by kernel_rfl) (hs:ops.size=m:=by kernel_rfl):WK n ((Sp id ops true).wp P Q) σ (Own M w0 H):=Aon a hs (fun _ b=>b) kk
theorem cr {X:Type}{R b:List Res}{f:FuncId}{xs:List En}{vs:List Al}{g:Array TypeId}{G:X→Al}{R':X→List Res}{a:X→Ak}{F:X→Prop}{d:Option Tmp} (u:List Nat) (m:Base M k0 w0) (p:Enters P f) (s:Aqw σ xs=some vs)
  (o:∀ M' w,Base M' k w→Own M' w R w→Calls P f vs.toArray w (fun e w'=>∃ X,e=.returned (G X)∧Own M' w (kn M' w.heap.size k (a X)::R' X) w'∧F X)) (j:pickE u H=some (kn M w0.heap.size k0 k::(R++b)))
  (kk:∀ X,F X→Le k (a X)→WK n K ((match d with | some dd=>[(dd,(true,G X))] | none=>[])++σ) (Own M w0 (kn M w0.heap.size k0 (a X)::(R' X++b)))) (r:∀ dd,d=some dd→dd<n:=by intro _ h;cases h;decide) :
  EV P n ⟨d,.call ⟨.value (.func f),xs.toArray,g⟩,T,pos,after,gd⟩ σ (Own M w0 H) K Q:=EV.of (fun _ t=>t.pickE j) (Ah8 G R' a F m r p (ea s) o fun X i q=>by have h:=kk X i q;cases d <;> exact h)
theorem cq {X:Type}{R b:List Res}{f:FuncId}{xs:List En}{vs:List Al}{g:Array TypeId}{G:X→Al}{R':X→List Res}{a:X→Ak}{F:X→Prop}{d:Option Tmp} (m:Base M k0 w0) (p:Enters P f) (s:Aqw σ xs=some vs)
  (o:∀ M' w,Base M' k w→Own M' w R w→Calls P f vs.toArray w (fun e w'=>∃ X,e=.returned (G X)∧Own M' w (kn M' w.heap.size k (a X)::R' X) w'∧F X)) (j:H=kn M w0.heap.size k0 k::(R++b))
  (kk:∀ X,F X→Le k (a X)→WK n K ((match d with | some dd=>[(dd,(true,G X))] | none=>[])++σ) (Own M w0 (kn M w0.heap.size k0 (a X)::(R' X++b)))) (r:∀ dd,d=some dd→dd<n:=by intro _ h;cases h;decide) :
  EV P n ⟨d,.call ⟨.value (.func f),xs.toArray,g⟩,T,pos,after,gd⟩ σ (Own M w0 H) K Q:=j▸(Ah8 G R' a F m r p (ea s) o fun X i q=>by have h:=kk X i q;cases d <;> exact h)
theorem ew (k:Nat) {b off:Nat}{cs:List Al} (vs:List Al) (hs:Dt P T vs.length) (h:(σ.ev x,σ.ev y,H[k]?,Nat.ble (off+vs.length) cs.length,Azc vs)=(some (true,.pointer (some ⟨b,off,none⟩)),some (true,v),some (blk b cs E),true,true))
  (kk:WK n K σ (Own M w0 (H.set k (blk b (Nz cs off vs) E)))) (a:v.cells=vs.toArray:=by exact(show Ea _=List.toArray _ from rfl)):EV P n ⟨none,.store T x y,U,pos,after,gd⟩ σ (Own M w0 H) K Q :=
 EV.store k (congrArg (·.1) h) rfl (congrArg (·.2.1) h) rfl (congrArg (·.2.2.1) h) rfl a hs (Al0 (congrArg (·.2.2.2.1) h)) (oz (congrArg (·.2.2.2.2) h)) kk
theorem ex (k:Nat) {b off:Nat}{cs:List Al} (vs:List Al) (e:v.cells=vs.toArray) (hs:Dt P T vs.length) (a:∀ u∈vs,u.oneCell'=true) (h:(σ.ev x,σ.ev y,H[k]?,Nat.ble (off+vs.length) cs.length)=(some (true,.pointer (some ⟨b,off,none⟩)),some (true,v),some (blk b cs E),true))
  (kk:WK n K σ (Own M w0 (H.set k (blk b (Nz cs off vs) E)))):EV P n ⟨none,.store T x y,U,pos,after,gd⟩ σ (Own M w0 H) K Q :=
 EV.store k (congrArg (·.1) h) rfl (congrArg (·.2.1) h) rfl (congrArg (·.2.2.1) h) rfl e hs (Al0 (congrArg (·.2.2.2) h)) a kk
theorem cw (n:Nat) {f:FuncId}{fn:Func}{c:Code}{args:List Al}{R:Ending→Ak→Prop}{w:Ak} (a:P.funcs[f]?=some fn) (h:(fn.body,fn.ntmps,Nat.ble args.length n)=(some c,n,true))
  (kk:WK n (c.wp P (bodyPost P fn R)) (Zj args 0) C) (b:C w):Calls P f args.toArray w R:=Aqj a (congrArg (·.1) h) (congrArg (·.2.1) h) (Al0 (congrArg (·.2.2) h)) kk b
theorem gN {j a:Nat}{b:Bool} (h:(Nat.blt d n,(ops[j]?).bind (·.dst),σ.look a)=(true,some a,some (true,.bool b))) (e:QV P ⟨some d,c,T,pos,after,some (j,Az)⟩ σ (Own M w0 H) v) (kk:WK n (wpList P ops Q rest) ((d,(!b,v))::σ) (Own M w0 H)):WK n (wpList P ops Q (⟨some d,c,T,pos,after,some (j,Az)⟩::rest)) σ (Own M w0 H):=gn h (fun _=>e) kk
theorem gP {j a:Nat}{b:Bool} (h:(Nat.blt d n,(ops[j]?).bind (·.dst),σ.look a)=(true,some a,some (true,.bool b))) (e:QV P ⟨some d,c,T,pos,after,some (j,true)⟩ σ (Own M w0 H) v) (kk:WK n (wpList P ops Q rest) ((d,(b,v))::σ) (Own M w0 H)):WK n (wpList P ops Q (⟨some d,c,T,pos,after,some (j,true)⟩::rest)) σ (Own M w0 H):=gp h (fun _=>e) kk
theorem zN (i:Nat) {j a m e:Nat}{b:Bool}{S:Ak→Prop} [hQ:POk Q] (hi:ops[i]?=some ⟨some d,c,T,pos,after,some (j,Az)⟩) (h:(Nat.blt d n,(ops[j]?).bind (·.dst),σ.look a)=(true,some a,some (true,.bool b))) (f:QV P ⟨some d,c,T,pos,after,some (j,Az)⟩ σ S v)
  (kk:WD P n ops Q S e (upto (i+1) m) ((d,(!b,v))::σ) (Own M w0 H)) (g:Re ops i m=true:=by kernel_rfl):WD P n ops Q S (e+1) (upto i m) σ (Own M w0 H):=zn i hi h (fun _=>f) kk g
theorem zP (i:Nat) {j a m e:Nat}{b:Bool}{S:Ak→Prop} [hQ:POk Q] (hi:ops[i]?=some ⟨some d,c,T,pos,after,some (j,true)⟩) (h:(Nat.blt d n,(ops[j]?).bind (·.dst),σ.look a)=(true,some a,some (true,.bool b))) (f:QV P ⟨some d,c,T,pos,after,some (j,true)⟩ σ S v)
  (kk:WD P n ops Q S e (upto (i+1) m) ((d,(b,v))::σ) (Own M w0 H)) (g:Re ops i m=true:=by kernel_rfl):WD P n ops Q S (e+1) (upto i m) σ (Own M w0 H):=zp i hi h (fun _=>f) kk g
theorem zq (i k k':Nat) {m a:Nat} [hQ:POk Q] (h:(ops[i]?,Nat.blt d n)=(some ⟨some d,c,T,pos,after,none⟩,true)) (b:QV P ⟨some d,c,T,pos,after,none⟩ σ S v)
  (kk:WD P n ops Q S a (lst m k') ((d,(true,v))::σ) (Own M w0 H)) (e:Wa ops i m k k'=true:=by kernel_rfl):WD P n ops Q S (a+1) (lst m k) σ (Own M w0 H):=WD.qL i k k' (congrArg (·.1) h) e rfl rfl (congrArg (·.2) h) b kk
theorem co {q:Addr}{cs:List Al} (j:Nat) (h:∀ w,C w→CellsAt w q cs 0) (a:cs[j]?=some v) (w:Ak) (b:C w):w.cell? (q.add j)=some v:=CellsAt.one j (h w b) a
theorem cu {q:Addr}{cs r:List Al} (i j:Nat) (h:∀ w,C w→CellsAt w q cs 0) (a:(cs.drop i).take j=r) (w:Ak) (b:C w):CellsAt w (q.add i) r 0:=(h w b).sub i j a
theorem el {α:Type} [Inhabited α] {sz:Nat}{xs:List α}{enc:α→List Al}{i:Int}{p:Addr} (h:∀ w,C w→Arr w v sz (xs.map enc)) (a:Lw v i sz p) (hi:IX i (ln xs)) (w:Ak) (b:C w):CellsAt w p (enc (ele xs i)) 0:=(h w b).ele a hi
theorem cl {α:Type} [Inhabited α] {sz:Nat}{xs:List α}{enc:α→List Al}{i:Int}{p:Addr} (j:Nat) {u:Al} (h:∀ w,C w→Arr w v sz (xs.map enc)) (a:Lw v i sz p) (hi:IX i (ln xs)) (b:(enc (ele xs i))[j]?=some u) (w:Ak) (e:C w):w.cell? (p.add j)=some u:=co j (el h a hi) b w e
end
section
variable {α : Type} {x : Option α} {r : α} {c1 c2 c3 c4 c5 c6 c7 c8 : Prop} [Decidable c1] [Decidable c2] [Decidable c3] [Decidable c4] [Decidable c5] [Decidable c6] [Decidable c7] [Decidable c8]
theorem cs (h:ck c1 x=some r):c1∧x=some r:=Qw h
theorem cs2 (h:ck c1 (ck c2 x)=some r):c1∧c2∧x=some r:=⟨(cs h).1,cs (cs h).2⟩
theorem cs3 (h:ck c1 (ck c2 (ck c3 x))=some r):c1∧c2∧c3∧x=some r:=⟨(cs h).1,cs2 (cs h).2⟩
theorem cs4 (h:ck c1 (ck c2 (ck c3 (ck c4 x)))=some r):c1∧c2∧c3∧c4∧x=some r:=⟨(cs h).1,cs3 (cs h).2⟩
theorem cs5 (h:ck c1 (ck c2 (ck c3 (ck c4 (ck c5 x))))=some r):c1∧c2∧c3∧c4∧c5∧x=some r:=⟨(cs h).1,cs4 (cs h).2⟩
theorem cs6 (h:ck c1 (ck c2 (ck c3 (ck c4 (ck c5 (ck c6 x)))))=some r):c1∧c2∧c3∧c4∧c5∧c6∧x=some r:=⟨(cs h).1,cs5 (cs h).2⟩
theorem cs7 (h:ck c1 (ck c2 (ck c3 (ck c4 (ck c5 (ck c6 (ck c7 x))))))=some r):c1∧c2∧c3∧c4∧c5∧c6∧c7∧x=some r:=⟨(cs h).1,cs6 (cs h).2⟩
theorem cs8 (h:ck c1 (ck c2 (ck c3 (ck c4 (ck c5 (ck c6 (ck c7 (ck c8 x)))))))=some r):c1∧c2∧c3∧c4∧c5∧c6∧c7∧c8∧x=some r:=⟨(cs h).1,cs7 (cs h).2⟩
end
end Go.Rd
end
section
namespace Go.Rd
open Go.RowKit
def Fy (v:Al) (E:TypeId) (sz:Nat) (rows:List (List Al)):Res where
 foot:=fun b=>∃ o n c,v=.slice (some ⟨b,o,none⟩) n c
 holds:=fun w=>((v=.slice none 0 0∧rows=[])∨∃ g o cap d,∃ (A Z:List Al),v=.slice (some ⟨g,o,none⟩) rows.length (cap - d)∧(d<cap→o=d * sz)∧w.heap[g]?=some (.cells (A++rows.flatten++Z).toArray E (0,0))∧A.length=d * sz∧(A++rows.flatten++Z).length=cap * sz∧d+rows.length≤cap∧cap≤maxLen)∧∀ r∈rows,r.length=sz
 stable:=fun w w' ⟨e,f⟩ j=>⟨by
  rcases e with h | ⟨g,o,cap,d,A,Z,a,k,i,r⟩
  ·exact .inl h
  ·exact .inr ⟨g,o,cap,d,A,Z,a,k,(j g ⟨_,_,_,a⟩).trans i,r⟩,f⟩
theorem A0b {w:Ak}{E:TypeId}{sz:Nat}:(Fy (.slice none 0 0) E sz []).holds w:=⟨.inl ⟨rfl,rfl⟩,fun r h=>by cases h⟩
theorem Ae6 {w:Ak}{v:Al}{base:Nat}{E:TypeId}{sz:Nat}{rows:List (List Al)} (h:w.ownsRow base E sz v rows.length rows.flatten) (f:∀ r∈rows,r.length=sz):(Fy v E sz rows).holds w:=by
 obtain⟨n,d⟩:=h;refine⟨?_,f⟩;rcases d with ⟨b,m⟩ | ⟨g,cap,a,b,_,k,o,i,j,c⟩
 ·exact .inl ⟨b,Agg m⟩
 ·have e:a=([]++rows.flatten++a.toList.drop (rows.length * sz)).toArray:=by
   rw[Ua,←c,Lu]
  have l:([]++rows.flatten++a.toList.drop (rows.length * sz)).length=cap * sz:=by
   rw[Ua,←c,Lu];simpa using j
  exact .inr ⟨g,0,cap,0,[],_,by rw[Nat.sub_zero];exact b,fun _=>Aa,by rw[←e];exact k,Bf,l,Aa,i⟩
theorem Ahw {v:Al}{E:TypeId}{sz:Nat}{rows:List (List Al)}{w:Ak} (h:(Fy v E sz rows).holds w):Arr w v sz rows:=by
 obtain⟨k,l⟩:=h;rcases k with ⟨rfl,rfl⟩ | ⟨g,o,cap,d,A,Z,rfl,s,q,x,B,z,y⟩
 ·exact Gr
 ·refine⟨⟨_,_,rfl,fun _=>rfl,Aa⟩,fun i r p e t=>?_⟩
  obtain⟨a,n,c,b,u,hi,rfl⟩:=t;simp only[Jh,Gs] at b;obtain⟨rfl,_,_⟩:=b;rw[I9];have C:=(Abw.1 e).1;have F:=s Aa
  have m:CellsAt w ⟨g,o,none⟩ rows.flatten 0:=An7 fun j v f=>by
   rw[Tf,Tg]
   have:(A++rows.flatten++Z)[o+j]?=some v:=by
    rw[G6,Arm Aa,Abx (by have:=(Abw.1 f).1;omega),show o+j - A.length=j from Aa];exact f
   simp only[World.cell?,q];simpa using this
  exact m.sub (i * sz) r.length (Jw l e)
theorem Ant {v:Al}{E:TypeId}{sz:Nat}{rows:List (List Al)}{w:Ak} (h:(Fy v E sz rows).holds w):∀ b,(Fy v E sz rows).foot b→b<w.heap.size:=fun b e=>by
 obtain⟨o,n,c,rfl⟩:=e;rcases h.1 with ⟨h,_⟩ | ⟨g,i,cap,d,A,Z,a,_,f,_⟩
 ·cases h
 ·simp only[Jh,Gs,Pj] at a
  obtain⟨⟨rfl,_⟩,_⟩:=a;exact(Rs.1 f).1
theorem A0c {v:Al}{E:TypeId}{sz k:Nat}{rows:List (List Al)}{w:Ak} (h:(Fy v E sz rows).holds w) (f:k≤rows.length):(Fy (Np v sz k rows.length) E sz (rows.drop k)).holds w:=by
 obtain⟨i,b⟩:=h;refine⟨?_,fun r a=>b r (Ag8 a)⟩;rcases i with ⟨rfl,rfl⟩ | ⟨g,o,cap,d,A,Z,rfl,q,n,j,p,t,l⟩
 ·left
  have:k=0:=by simpa using f
  subst this;exact⟨rfl,rfl⟩
 ·right
  have m:rows.flatten=(rows.take k).flatten++(rows.drop k).flatten:=by rw[←Aeo,Lu]
  have s:(rows.take k).flatten.length=k * sz:=by rw[Dm fun r a=>b r (Z2 a),I8,Nat.min_eq_left f]
  have c:A++rows.flatten++Z=(A++(rows.take k).flatten)++(rows.drop k).flatten++Z:=by rw[m];simp
  refine⟨g,if cap - d=k then o else o+k * sz,cap,d+k,A++(rows.take k).flatten,Z,?_,fun u=>?_,by rw[←c];exact n,by rw[Ca,j,s,Ra],by rw[←c];exact p,by rw[Nn];omega,l⟩
  ·show Value.slice _ _ _=_
   rw[Nn,show cap - d - k=cap - (d+k) from Aa];by_cases e:cap - d=k
   ·rw[Bj e,Bj e]
   ·rw[Bg e,Bg e]
    simp[Tg]
  ·rw[Bg Aa,q Aa,Ra]
section
variable {P : Bz} {n : Nat} {σ : Env} {M : Nat → Prop} {w0 : Ak} {H : List Res} {d : Option Tmp} {T U E : TypeId} {pos : String} {after : Array Edge} {gd : Option (Nat × Bool)} {x y : En} {g g' : Bool} {v yv : Al}
 {K:Act→Ak→Prop}{Q:Exit→Act→Ak→Prop}
theorem Dw (j:Nat) {sz:Nat}{rows:List (List Al)} (a:H[j]?=some (Fy v E sz rows)):∀ w,Own M w0 H w→Arr w v sz rows:=fun w b=>Ahw (b.at j a)
theorem Own.ovecNil {w:Ak} (h:Own M w0 H w) {E:TypeId}{sz:Nat}{α:Type}{enc:α→List Al}:Own M w0 (Fy (.slice none 0 0) E sz (([]:List α).map enc)::H) w :=
 ⟨h.1,⟨A0b,fun b ⟨_,_,_,h⟩=>by simp at h,fun s _ b ⟨_,_,_,h⟩=>by simp at h⟩,h.2⟩
theorem Aj2 {w:Ak}{E:TypeId}{sz k m b:Nat}{rows:List (List Al)} (h:(Fy v E sz rows).holds w) (f:∃ o n c,Np v sz k m=.slice (some ⟨b,o,none⟩) n c):(Fy v E sz rows).foot b:=by
 obtain⟨o,n,c,e⟩:=f;rcases h.1 with ⟨rfl,_⟩ | ⟨g,i,cap,d,A,Z,rfl,_⟩
 ·unfold Np at e
  simp only[Jh] at e;have:=e.1;split at this <;> simp at this
 ·unfold Np at e
  simp only[Jh] at e;have a:=e.1;split at a
  ·simp only[Gs,Pj] at a
   obtain⟨rfl,_⟩:=a;exact⟨_,_,_,rfl⟩
  ·rw[Aln,Tg] at a
   simp only[Gs,Pj] at a;obtain⟨rfl,_⟩:=a;exact⟨_,_,_,rfl⟩
theorem Own.ovecCut {w:Ak}{α:Type}{enc:α→List Al}{sz:Nat}{xs ys:List α}{k:Nat} (h:Own M w0 (Fy v E sz (xs.map enc)::H) w) (f:k≤xs.length) (e:ys=xs.drop k):Own M w0 (Fy (Np v sz k xs.length) E sz (ys.map enc)::H) w:=by
 subst e;have c:=A0c (k:=k) h.2.1.1 (by rw[Gl];exact f);rw[Gl,←Alg] at c;exact⟨h.1,⟨c,fun b a=>h.2.1.2.1 b (Aj2 h.2.1.1 a),fun s hs b a=>h.2.1.2.2 s hs b (Aj2 h.2.1.1 a)⟩,h.2.2⟩
theorem Mf {α:Type} [Inhabited α] {enc:α→List Al}{sz:Nat}{T:TypeId} (k:Nat) (u:α) {xs:List α}{i:Int}{p q:Addr}{off:Nat}{vs:List Al} (b8:σ.ev x=some (g,.pointer (some q))) (a0:g=true) (b9:σ.ev y=some (g',yv)) (a1:g'=true)
  (I:H[k]?=some (Fy v E sz (xs.map enc))) (L:Lw v i sz p) (hi:IX i (ln xs)) (b0:q=p.add off) (b7:yv.cells=vs.toArray) (hs:Dt P T vs.length) (a4:off+vs.length≤sz) (a8:∀ u∈vs,u.oneCell'=true) (B:enc u=Nz (enc (ele xs i)) off vs)
  (kk:WK n K σ (Own M w0 (H.set k (Fy v E sz ((upd xs i u).map enc))))):EV P n ⟨none,.store T x y,U,pos,after,gd⟩ σ (Own M w0 H) K Q:=fun a w l R=>by
 refine .inl ?_;obtain⟨V,f⟩:=R.at k I;rcases V with ⟨rfl,_⟩ | ⟨b,o,cap,d,A,Z,rfl,J,G,m,W,Y,X⟩
 ·obtain⟨a,n,S,h,_⟩:=L;simp at h
 obtain⟨c6,d3,S,h,c7,c9,rfl⟩:=L;simp only[Jh,Gs] at h;obtain⟨rfl,d0,rfl⟩:=h
 have j:i.toNat<xs.length:=by have:=hi.2;unfold ln at this;omega
 have N:(xs.map enc).length=xs.length:=Gl _;have a9:=J Aa
 have b1:q=⟨b,A.length+(i.toNat * sz+off),none⟩:=by rw[b0,Ng,Tg,a9,m]
 subst b1;have F:=Dm f;have a5:(i.toNat+1) * sz≤(xs.map enc).length * sz:=Z1 _ (by rw[N];omega);rw[Xy] at a5;obtain⟨w',c0,c1,c2,d6,c3,c4,c5⟩:=Gv (P:=P) vs ⟨b,A.length+(i.toNat * sz+off),none⟩ 0 (A.length+(i.toNat * sz+off)) _ w G (by simp[Ma]) (by rw[Ca,Ca,F];omega) a8;obtain⟨d1,a3,b6⟩:=K7.1 hs
 have b4:(execOp a.eval ⟨none,.store T x y,U,pos,after,gd⟩).run P w=.ok .skip w':=by
  simp[execOp,l.ev b8 a0,l.ev b9 a1,Instr.storeAt,Rb,storeVar,b7,sizeOf,typeInfo,a3,b6,c0]
 unfold Ii;rw[b4];show K (a.put none undef) w';have c8:b<w.heap.size:=(Rs.1 G).1
 have b3:((upd xs i u).map enc).flatten=Nz (xs.map enc).flatten (i.toNat * sz+off) vs:=by
  rw[Ww a4 f (by rw[N];exact j),Acz j B];rfl
 have O:((upd xs i u).map enc).length=(xs.map enc).length:=by simp[upd]
 have z:Nz (A++(xs.map enc).flatten++Z) (A.length+(i.toNat * sz+off)) vs=A++((upd xs i u).map enc).flatten++Z:=by
  rw[G6,Wn,Pa vs _ _ _ (by rw[F];omega),←b3,G6]
 have a2:(Fy (.slice (some ⟨b,o,none⟩) (xs.map enc).length (cap - d)) E sz ((upd xs i u).map enc)).holds w':=by
  refine⟨.inr ⟨b,o,cap,d,A,Z,by rw[O],J,by rw[←z];exact c1,m,by rw[←z,Gm];exact W,by rw[O];exact Y,X⟩,fun r b2=>?_⟩;obtain⟨s,b5,rfl⟩:=I7.1 b2;rcases Ahb b5 with a6 | rfl
  ·exact f _ (Ag7 a6)
  ·rw[B,Gm]
   exact f (enc (ele xs i)) (Ag7 (by unfold ele;rw[Ec,E7 j];exact Vy j))
 refine kk a w' l (R.upd k I c3 c4 c5 Aa (fun c t a7=>c2 c fun e=>a7 (by subst e;exact⟨_,_,_,rfl⟩)) a2 fun c t=>?_);obtain⟨d5,d4,d2,C⟩:=t;simp only[Jh,Gs,Pj] at C;obtain⟨⟨rfl,_⟩,_⟩:=C;exact⟨.inl ⟨_,_,_,rfl⟩,Aa⟩
theorem Afm {w:Ak}{sz bytes:Nat}{rows f:List (List Al)} (a2:Xj P U E sz bytes) (m:(Fy v E sz rows).holds w) (R:Arr w yv sz f) (G:∀ r∈f,r.length=sz) (a0:∀ r∈f,∀ u∈r,u.oneCell'=true)
  (a1:rows.length+f.length≤maxLen) (a4:(rows.length+f.length) * bytes≤140737488355328) :
  ∃ q w',(T9 #[U,U] T #[v,yv]).run P w=.ok q w'∧(Fy q E sz (rows++f)).holds w'∧w'.os=w.os∧w'.tape=w.tape∧(w'.output=w.output∧w.drawn≤w'.drawn)∧w.heap.size≤w'.heap.size ∧
   (∀ b,b<w.heap.size→¬(Fy v E sz rows).foot b→w'.heap[b]?=w.heap[b]?)∧(∀ b,(Fy q E sz (rows++f)).foot b→((Fy v E sz rows).foot b∨w.heap.size≤b)∧b<w'.heap.size):=by
 have a3:∀ r∈rows++f,r.length=sz:=fun r p=>(F8.1 p).elim (m.2 r) (G r);have K:(rows++f).flatten=rows.flatten++f.flatten:=Aeo;have O:(rows++f).length=rows.length+f.length:=Ca;rcases m.1 with ⟨rfl,rfl⟩ | ⟨g,o,cap,d,A,Z,rfl,b1,L,s,a5,e7,b9⟩
 ·obtain⟨q,w',r1,Y,e1,e2,e3,e4,e5,e6⟩:=Ta (T:=T) (v:=.slice none 0 0) (rows:=[]) a2 (Afq (α:=Unit) (enc:=fun _=>[])) R G a0 a1 a4
  refine⟨q,w',r1,Ae6 Y.1 Y.2,e1,e2,e3,e4,fun b j _=>e5 b j (fun ⟨_,_,h⟩=>by cases h),fun b j=>?_⟩
  have b8:(vec q E sz ([]++f)).foot b:=by
   obtain⟨o,n,c,rfl⟩:=j;rcases Y.1.2 with ⟨h,_⟩ | ⟨g,c2,b4,h,_⟩
   ·cases h
   ·simp only[Jh,Gs,Pj] at h
    obtain⟨⟨rfl,rfl,_⟩,rfl,rfl⟩:=h;exact⟨_,_,rfl⟩
  rcases e6 b b8 with ⟨h | h,I⟩
  ·obtain⟨_,_,h⟩:=h;cases h
  ·exact⟨.inr h,I⟩
 have c8:=(Ahw m).cell m.2;obtain⟨J,c1,d2⟩:=a2;obtain⟨i,hi,b2⟩:=K7.1 c1;simp only[T8] at b2;obtain⟨d4,a7,c4⟩:=b2;obtain⟨z,d3,d5⟩:=K7.1 d4
 have b5:∀ u∈f.flatten,u.oneCell'=true:=fun u S=>by
  obtain⟨r,p,S⟩:=List.mem_flatten.1 S;exact a0 r p u S
 have e8:g<w.heap.size:=(Rs.1 L).1;obtain⟨b3,F,rfl,b7,_⟩:=R.len
 cases b3 with
 | none =>
  have c5:f=[]:=by
   cases f with
   | nil=>rfl
   | cons r l=>exact absurd (b7 Bf) Bf
  subst c5
  have d0:(T9 #[U,U] T #[.slice (some ⟨g,o,none⟩) rows.length (cap - d),.slice none ([]:List (List Al)).length F]).run P w=.ok (.slice (some ⟨g,o,none⟩) rows.length (cap - d)) w:=by
   have c6:rows.length≤cap - d:=Aa;simp[T9,E5 J,sizeOf,typeInfo,hi,Builtin.lenOf,Builtin.firstCells,c6,storeCells]
  exact⟨_,w,d0,by simpa using m,rfl,rfl,⟨rfl,Co _⟩,Co _,fun _ _ _=>rfl,fun b j=>⟨.inl j,Ant m b j⟩⟩
 | some a =>
  have a9:=R.cell G;have C:=Dm G;by_cases c9:rows.length+f.length≤cap - d
  ·have c0:=run_firstCells_some (P:=P) w sz f.length a f.length F f.flatten C a9
   have d1:∃ w',(storeCells ((⟨g,o,none⟩:Addr).add (rows.length * sz)) f.flatten).run P w=.ok () w'∧w'.heap[g]?=some (.cells (A++(rows++f).flatten++Z.drop f.flatten.length).toArray E (0,0))∧(∀ k,k≠g→w'.heap[k]?=w.heap[k]?)∧w'.heap.size=w.heap.size∧w'.os=w.os∧w'.tape=w.tape∧(w'.output=w.output∧w.drawn≤w'.drawn):=by
    by_cases a8:f=[]
    ·subst a8
     exact⟨w,by simp[storeCells],by simpa using L,fun _ _=>rfl,rfl,rfl,rfl,rfl,Co _⟩
    ·have e9:0<f.length:=Aen.2 a8
     have c7:=b1 Aa;have t:=Dm m.2;rw[Ca,Ca,s,t] at a5;have Q:(d+rows.length+f.length) * sz≤cap * sz:=Z1 _ Aa;rw[Ra,Ra] at Q;obtain⟨w',V,W,X⟩:=Gv (P:=P) (T:=E) (b:=g) f.flatten ((⟨g,o,none⟩:Addr).add (rows.length * sz)) 0 (A.length+rows.flatten.length) _ w L (by rw[Tg];simp[Ma,c7,s,t]) (by rw[Ca,Ca,s,t,C];omega) b5;refine⟨w',V,?_,X⟩;rw[W,←Ca,show (A++rows.flatten).length=(A++rows.flatten).length+0 from rfl,Wn,K];congr 2;rw[←G6,G6 (A++rows.flatten)];congr 1
     have f0:f.flatten.length≤Z.length:=by rw[C];omega
     conv=>lhs;rw[←Lu f.flatten.length Z]
     rw[Pa _ _ _ _ (by rw[I8];omega)];congr 1;have:=Ahs f.flatten (Z.take f.flatten.length) 0 (by rw[I8];omega);simpa using this
   obtain⟨w',V,W,X,f1,d8,d9,e0⟩:=d1
   have p:(T9 #[U,U] T #[.slice (some ⟨g,o,none⟩) rows.length (cap - d),.slice (some a) f.length F]).run P w=.ok (.slice (some ⟨g,o,none⟩) (rows.length+f.length) (cap - d)) w':=by
    subst a7;simp[T9,E5 J,sizeOf,typeInfo,hi,Builtin.lenOf,c9,c0,V]
   refine⟨_,w',p,⟨.inr ⟨g,o,cap,d,A,Z.drop f.flatten.length,by rw[O],b1,W,s,?_,by rw[O];omega,b9⟩,a3⟩,d8,d9,e0,Aa,fun b _ j=>X b fun e=>j (by subst e;exact⟨_,_,_,rfl⟩),fun b j=>?_⟩
   ·have t:=Dm m.2
    have Q:(d+rows.length+f.length) * sz≤cap * sz:=Z1 _ Aa;rw[Ra,Ra] at Q;rw[Ca,Ca,s,t] at a5;rw[Ca,Ca,Nn,K,Ca,s,t,C];omega
   ·obtain⟨d7,d6,c2,a6⟩:=j
    simp only[Jh,Gs,Pj] at a6;obtain⟨⟨rfl,_⟩,_⟩:=a6;exact⟨.inl ⟨_,_,_,rfl⟩,Aa⟩
  ·obtain⟨q,w',p,b0,B⟩:=run_append_arg_grows (P:=P) w U T E i z sz bytes J hi d3 a7 c4 d5 d2 ⟨g,o,none⟩ rows.length (cap - d) rows.flatten (Dm m.2) c8 a f.length F f.flatten C a9 Aa a1 a4
   refine⟨q,w',p,Ae6 (by rw[K,O];exact b0) a3,B.os,B.tape,⟨B.output,Va _ _ p⟩,B.size,fun k N _=>B.block k N Bf,fun k N=>?_⟩;obtain⟨d7,d6,c2,rfl⟩:=N;rcases b0.2 with ⟨h,_⟩ | ⟨g',c3,b4,h,I,b6,_⟩
   ·cases h
   ·simp only[Jh,Gs,Pj] at h
    obtain⟨⟨rfl,_⟩,_⟩:=h;exact⟨.inr I,(Rs.1 b6).1⟩
theorem S9 {α:Type}{enc:α→List Al}{xs ys:List α} (e:List α) (k:Nat) {dd sz bytes:Nat} (J:dd<n) (C:Xj P U E sz bytes) (p:H[k]?=some (Fy v E sz (xs.map enc))) (S:σ.ev x=some (g,v)) (F:g=true) (V:σ.ev y=some (g',yv)) (G:g'=true)
  (L:∀ w,Own M w0 H w→Arr w yv sz (ys.map enc)) (I:∀ u,(enc u).length=sz) (N:∀ u∈ys,∀ c∈enc u,c.oneCell'=true) (W:e=xs++ys) (l:e.length≤maxLen) (o:e.length * bytes≤140737488355328)
  (kk:∀ u,SliceLen u e.length→WK n K ((dd,(true,u))::σ) (Own M w0 (H.set k (Fy u E sz (e.map enc))))):EV P n ⟨some dd,.call ⟨.builtin .append,#[x,y],#[U,U]⟩,T,pos,after,gd⟩ σ (Own M w0 H) K Q:=fun a w h j=>by
 subst W;rw[Ca] at l o;refine .inl ?_;obtain⟨q,w',b,f,s,t,z,A,B,m⟩:=Afm (T:=T) C (j.at k p) (L w j) (fun r b=>by obtain⟨u,_,rfl⟩:=I7.1 b;exact I u) (fun r b=>by obtain⟨u,R,rfl⟩:=I7.1 b;exact N u R) (by simpa using l) (by simpa using o)
 have O:(execOp a.eval ⟨some dd,.call ⟨.builtin .append,#[x,y],#[U,U]⟩,T,pos,after,gd⟩).run P w=.ok (.value q) w':=by
  simp[execOp,resolve,invoke,builtin,h.ev S F,h.ev V G,b,Rk]
 unfold Ii;rw[O];have i:=(Ahw f).len;rw[←Q0] at f m i;rw[Gl] at i;exact kk q i _ _ (h.put J true _) (j.upd k p s t z A B f m)
end
end Go.Rd
end
section
namespace Go.Rd
open Go.RowKit
section
variable {P : Bz} {n : Nat} {ops : Array Oper} {Q : Exit → Act → Ak → Prop} {σ : Env} {C S : Ak → Prop} {T : Nat → Bool}
def Atr (T:Nat→Bool) (b:Region.Mode) (ops:Array Oper) (a:Array Bool) (c:Oper):Prop:=∀ k,a.getD k Az=true→T k=true∨Aez b ops 5 c k
def Ahc (T:Nat→Bool) (P:Bz) (b:Region.Mode) (ops:Array Oper) (Q:Exit→Act→Ak→Prop):(Ak→Prop)→Nat→Array Bool→(Ak→Prop)→Act→Prop
 | S,0,listed,C,a=>Region.ready b ops listed=[]∧∀ w,C w→Q .normal a w
 | S,fuel+1,listed,C,a=>DC b ops listed →
  ((Region.ready b ops listed=[]→∀ w,C w→Q .normal a w) ∧
  ∀ i∈Region.ready b ops listed,∀ w,C w→wpOp P ops Q i (fun c w'=>∃ C' S':Ak→Prop,Im C'∧(∀ x,C' x→S' x)∧((∀ x,S' x→S x)∨∃ oi,ops[i]?=some oi∧Atr T b ops listed oi)∧C' w'∧Ahc T P b ops Q S' fuel (listed.setIfInBounds i true) C' c) a w) ∨
  (Tail b ops listed∧∀ w,C w→wpAny P b ops Q (fuel+1) listed a w)
theorem Aia {d:Region.Mode}:∀ (S:Ak→Prop) (b:Nat) (c:Array Bool) (C:Ak→Prop) (a:Act) (w:Ak),DC d ops c→C w→Ahc T P d ops Q S b c C a→wpAny P d ops Q b c a w
 | _,0,_,_,_,w,_,hw,h=>⟨h.1,h.2 w hw⟩
 | _,b+1,_,_,_,w,hd,hw,h=>by
  rcases h hd with h | h
  ·exact⟨fun f=>h.1 f w hw,fun i hi=>Xx (fun e w' ⟨C',S',_,_,_,g,j⟩=>Aia S' b _ C' e w' (hd.set hi) g j) (h.2 i hi w hw)⟩
  ·exact h.2 w hw
def YT (T:Nat→Bool) (P:Bz) (ops:Array Oper) (S:Ak→Prop) (i:Nat) (o:Oper) (v:Al) (a:Act):Prop:=(T i=true∧YG P ops (fun _=>True) o v a)∨YG P ops S o v a
theorem Anl {t:Region.Mode}{i:Nat}{oi:Oper}{v:Al} (hi:ops[i]?=some oi) (O:∀ (j:Nat) (o:Oper) cs b,ops[j]?=some o→o.op≠.select cs b)
  (a8:∀ c a w,Q (.panic c) (a.put oi.dst v) w→Q (.panic c) a w) :
  ∀ (G:Nat) (S:Ak→Prop) (d:Array Bool) (C:Ak→Prop) (a:Act),Im C→(∀ x,C x→S x) →
   (∀ j f,ops[j]?=some f→j≠i→d.getD j true=Az→(∀ e∈f.after,Region.binds t e=true→e.on≠i)→oi.apart ops f=true) →
   i∈Region.ready t ops d→(YT T P ops S i oi v a)→(T i=true→YG P ops (fun _=>True) oi v a) →
   Ahc T P t ops Q S G (d.setIfInBounds i true) C (a.put oi.dst v)→Ahc T P t ops Q S (G+1) d C a:=by
 intro G
 induction G with
 | zero =>
  intro S d C a s u _ r l b4 H;intro a0;refine .inl ⟨fun h=>(by rw[h] at r;cases r),fun j B w F=>?_⟩;by_cases g:j=i
  ·subst g
   rcases l with ⟨_,l⟩ | l
   ·exact l.toOp hi F (fun _ _=>trivial) s fun w' p=>⟨C,S,s,u,.inl fun _ h=>h,p,H⟩
   ·exact l.toOp hi F u s fun w' p=>⟨C,S,s,u,.inl fun _ h=>h,p,H⟩
  ·have:=Vr B g
   rw[H.1] at this
   cases this
 | succ G b5 =>
  intro S d C a s u a1 r l b4 H;intro a0;have a5:=H;replace H:=H (a0.set r);refine .inl ⟨fun h=>(by rw[h] at r;cases r),fun j B w F=>?_⟩;by_cases g:j=i
  ·subst g
   rcases l with ⟨_,l⟩ | l
   ·exact l.toOp hi F (fun _ _=>trivial) s fun w' p=>⟨C,S,s,u,.inl fun _ h=>h,p,a5⟩
   ·exact l.toOp hi F u s fun w' p=>⟨C,S,s,u,.inl fun _ h=>h,p,a5⟩
  ·have N:i<d.size:=by
    rcases Vt i d.size with W | W
    ·exact W
    ·have M:=(T1.1 r).1
     simp[Aes W] at M
   have R:d.getD i Az=Az:=by
    have M:=(T1.1 r).1;simp[N] at M ⊢;exact M
   obtain⟨c8,d0,c3,b6⟩:=T1.1 B
   have K:∀ f:Oper,ops[j]?=some f→∀ m,¬Aez t ops m f i:=fun f q m h=>by
    rw[c3] at q
    cases q
    have:=Wz a0 b6 h;rw[R] at this
    cases this
   rcases H with H | ⟨⟨c9,c6,c2,c4,b7⟩,_⟩
   case inr =>
    have b1:=Vr B g;rw[c4,G7] at b1;subst b1;exact absurd (b7 i (by simp[N])) (K c6 c2 4)
   have a6:=H.2 j (Vr B g) w F;obtain⟨a2,f,q,c7⟩:=T1.1 B;have b3:∀ e∈f.after,Region.binds t e=true→e.on≠i:=fun e b9 b8 c0=>K f q 1 ⟨e,b9,b8,.inl c0⟩
   have a9:∀ k ok,ops[k]?=some ok→k≠i→(d.setIfInBounds j true).getD k true=Az →
     (∀ e∈ok.after,Region.binds t e=true→e.on≠i)→oi.apart ops ok=true:=fun k ok a3 c1 R K=>by
    refine a1 k ok a3 c1 ?_ K;by_cases b2:j=k
    ·subst b2;exact a2
    ·rw[getD_set_ne true b2] at R;exact R
   have a7:∀ {y:Oper},ops[j]?=some y→Atr T t ops (d.setIfInBounds i true) y→T i=true∧Atr T t ops d y:=fun {y} E A=>by
    refine⟨?_,fun k a3=>A k ?_⟩
    ·rcases A i (by simp[N]) with h | h
     ·exact h
     ·exact absurd h (K _ E 5)
    ·by_cases b0:i=k
     ·subst b0;simp[N]
     ·rw[getD_set_ne Az b0];exact a3
   by_cases I:T i=true
   ·have X:=Ad1 q (a1 j f q g a2 b3) (fun cs b=>O i oi cs b hi) (fun cs b=>O j f cs b q) a8 (b4 I) a6
    refine Xx (fun V w' Y=>?_) X;obtain⟨U,C',S',J,L,z,p,a4⟩:=Y;refine⟨C',S',J,L,?_,p,b5 S' (d.setIfInBounds j true) C' V J L a9 (Vr r (Ne.symm g)) (.inl ⟨I,U⟩) (fun _=>U) ?_⟩
    ·rcases z with h | ⟨y,E,A⟩
     ·exact .inl h
     ·exact .inr ⟨y,E,(a7 E A).2⟩
    ·rw[Ark _ _ g]
     exact a4
   ·have c5:YG P ops S oi v a:=by
     rcases l with ⟨h,_⟩ | h
     ·exact absurd h I
     ·exact h
    have X:=Ad1 q (a1 j f q g a2 b3) (fun cs b=>O i oi cs b hi) (fun cs b=>O j f cs b q) a8 c5 a6;refine Xx (fun V w' Y=>?_) X;obtain⟨U,C',S',J,L,z,p,a4⟩:=Y;rcases z with z | ⟨y,E,A⟩
    case inr=>exact absurd (a7 E A).1 I
    refine⟨C',S',J,L,.inl z,p,b5 S' (d.setIfInBounds j true) C' V J L a9 (Vr r (Ne.symm g)) (.inr (U.mono z)) (fun h=>absurd h I) ?_⟩;rw[Ark _ _ g];exact a4
def WT (T:Nat→Bool) (P:Bz) (n:Nat) (ops:Array Oper) (Q:Exit→Act→Ak→Prop) (S:Ak→Prop) (b:Nat) (c:Array Bool) (σ:Env) (C:Ak→Prop):Prop :=
 (∀ x,C x→S x)→∀ a,Has n a σ→Ahc T P .any ops Q S b c C a
theorem Aw3 (T:Nat→Bool) {id:Nat} (e:P.follows .mixedOrders=true) (d:Im C) (b:∀ x,C x→S x) (h:WT T P n ops Q S ops.size (Array.replicate ops.size Az) σ C):WK n ((Sp id ops true).wp P Q) σ C:=fun a w c f =>
 wp_region_any e (Aia S _ _ C a _ DC.start (d w _ f ⟨rfl,rfl,⟨rfl,Nat.le_succ _⟩,Co _,fun _ _=>rfl⟩) (h b a c))
theorem WT.take (i:Nat) {oi:Oper}{g:Nat}{b m:Array Bool}{G:Bool}{v:Al}{d:Nat} (hi:ops[i]?=some oi)
  (hs:Region.noSelect ops=true) (t:Region.free .any ops b i=true) (A:(Region.ready .any ops b).contains i=true) (u:b.setIfInBounds i true=m)
  (p:PanicOk Q) (r:Im C) (s:oi.dst=some d) (x:d<n) (o:GuardIs ops σ oi.guard G) (y:G=true→QV P oi σ S v) (z:T i=true→G=true→QV P oi σ (fun _=>True) v)
  (k:WT T P n ops Q S g m ((d,(G,v))::σ) C):WT T P n ops Q S (g+1) b σ C:=fun j a e=>by
 subst u;have l:=k j _ (e.put x G v);rw[←s] at l;have f:=o n a e;refine Anl hi (Region.noSelect_spec hs) (fun c a w=>p c a _ _ w) g S b C a r j (Region.free_spec hi t) (by simpa using A) (.inr ?_) (fun q=>?_) l
 ·cases G with
  | true=>exact .inl ⟨f,fun w h=>y rfl n a e w h⟩
  | false=>exact .inr ⟨f,rfl⟩
 ·cases G with
  | true=>exact .inl ⟨f,fun w h=>z q rfl n a e w h⟩
  | false=>exact .inr ⟨f,rfl⟩
def Ax4 (T:Nat→Bool) (ops:Array Oper) (b:Oper) (a:Array Bool):Bool:=(List.range a.size).all fun k=>!a.getD k Az || (T k || Aml ops 5 b k)
theorem Asu {d:Oper}{a:Array Bool} (h:Ax4 T ops d a=true):Atr T .any ops a d:=fun k c=>by
 have f:k<a.size:=by
  rcases Vt k a.size with b | b
  ·exact b
  ·simp[Aes b] at c
 have:=Ag0.1 h k (Vw.2 f);rw[c,F9,W6,W8] at this;rcases this with e | this
 ·exact .inl e
 ·exact .inr (Y0 this)
theorem WT.free (i:Nat) {oi:Oper}{d:Nat}{c m:Array Bool}{τ:Env}{C':Ak→Prop} (hi:ops[i]?=some oi) (l:Region.ready .any ops c=[i]) (s:c.setIfInBounds i true=m)
  (r:oi.guard=none) (q:Ax4 T ops oi c=true) (p:Im C') (h:EV P n oi σ C (fun b w'=>Has n b τ∧C' w') Q) (k:WT T P n ops Q C' d m τ C'):WT T P n ops Q S (d+1) c σ C:=fun u a o=>by
 subst s;intro _;refine .inl ⟨fun e=>(by rw[l] at e;cases e),fun j f w t=>?_⟩;rw[l,G7] at f;subst f;refine Xx (K:=fun b w'=>Has n b τ∧C' w') (fun b w' g=>⟨C',C',p,fun _ h=>h,.inr ⟨oi,hi,Asu q⟩,g.2,k (fun _ h=>h) b g.1⟩) ?_;unfold Go.wpOp;simp only[hi];rw[Bj (by simp[Region.wanted,r])];exact h a w o t
theorem WT.last (i:Nat) {oi:Oper}{d:Nat}{b:Array Bool} (hi:ops[i]?=some oi) (c:Region.ready .any ops b=[i]) (p:Aoa ops oi b=true) (k:Region.ready .any ops (b.setIfInBounds i true)=[])
  (o:oi.guard=none) (h:EV P n oi σ C (Q .normal) Q):WT T P n ops Q S (d+1) b σ C:=fun s a m=>by
 intro _;refine .inr ⟨⟨i,oi,hi,c,Aif p⟩,fun w q=>⟨fun e=>(by rw[c] at e;cases e),fun j g=>?_⟩⟩;rw[c,G7] at g;subst g;refine Xx (K:=Q .normal) (fun r w' l=>?_) ?_
 ·cases d with
  | zero=>exact⟨k,l⟩
  | succ f=>exact⟨fun _=>l,by rw[k];simp⟩
 ·unfold Go.wpOp
  simp only[hi];rw[Bj (by simp[Region.wanted,o])];exact h a w m q
end
section
variable {P : Bz} {n : Nat} {ops : Array Oper} {Q : Exit → Act → Ak → Prop} {oi : Oper} {σ : Env} {M : Nat → Prop} {w0 : Ak} {H H' : List Res} {v : Al} {d : Nat} {S : Ak → Prop} {T : Nat → Bool}
theorem Amm {id m:Nat} (T:Nat→Bool) (b:P.follows .mixedOrders=true) (hs:ops.size=m) (a:(Array.replicate m Az==lst m 0)=true) (h:WT T P n ops Q (Own M w0 H) m (lst m 0) σ (Own M w0 H)):WK n ((Sp id ops true).wp P Q) σ (Own M w0 H):=by
 subst hs;rw[←Dk.1 a] at h;exact Aw3 T b Ga (fun _ h=>h) h
theorem WT.q (i k k':Nat) {m b:Nat} [hQ:POk Q] (hi:ops[i]?=some oi) (a:Wa ops i m k k'=true) (e:oi.dst=some d) (f:oi.guard=none) (g:Nat.blt d n=true) (c:T i=Az) (j:QV P oi σ S v)
  (kk:WT T P n ops Q S b (lst m k') ((d,(true,v))::σ) (Own M w0 H)):WT T P n ops Q S (b+1) (lst m k) σ (Own M w0 H):=by
 unfold Wa at a;simp only[Fa,Dk] at a;exact WT.take i hi a.1.1.1 a.1.1.2 a.1.2 a.2 hQ.ok Ga e (by simpa[T5] using g) (f▸Axk) (fun _=>j) (fun h=>by rw[c] at h;cases h) kk
def D8:=@WT.q
theorem Uo (i k k':Nat) {m c:Nat} [hQ:POk Q] (hi:ops[i]?=some oi) (b:Wa ops i m k k'=true) (g:oi.dst=some d) (h:oi.guard=none) (j:Nat.blt d n=true) (e:QV P oi σ (fun _=>True) v)
  (kk:WT T P n ops Q S c (lst m k') ((d,(true,v))::σ) (Own M w0 H)):WT T P n ops Q S (c+1) (lst m k) σ (Own M w0 H):=by
 unfold Wa at b;simp only[Fa,Dk] at b;exact WT.take i hi b.1.1.1 b.1.1.2 b.1.2 b.2 hQ.ok Ga g (by simpa[T5] using j) (h▸Axk) (fun _ l a f w _=>e l a f w trivial) (fun _ _=>e) kk
theorem WT.o (i k k':Nat) {m b:Nat} (hi:ops[i]?=some oi) (a:Aft ops i m k k'=true) (f:oi.guard=none) (e:Ax4 T ops oi (lst m k)=true)
  (h:EV P n oi σ (Own M w0 H) (fun c w'=>Has n c σ∧Own M w0 H' w') Q) (kk:WT T P n ops Q (Own M w0 H') b (lst m k') σ (Own M w0 H')):WT T P n ops Q S (b+1) (lst m k) σ (Own M w0 H):=by
 unfold Aft at a;simp only[Fa,Dk] at a;exact WT.free i hi a.1 a.2 f e Ga h kk
theorem WT.b (hs:∀ w,Own M w0 H w→Own M w0 H' w):WK n (fun c w'=>Has n c σ∧Own M w0 H' w') σ (Own M w0 H):=fun a w e f=>⟨e,hs w f⟩
theorem WT.l (i k k':Nat) {m b:Nat} (hi:ops[i]?=some oi) (a:Afv ops i m k k'=true) (c:oi.guard=none) (h:EV P n oi σ (Own M w0 H) (Q .normal) Q):WT T P n ops Q S (b+1) (lst m k) σ (Own M w0 H):=by
 unfold Afv at a;rw[hi] at a;simp only[Fa,Dk] at a;exact WT.last i hi a.1.1 a.1.2 (by rw[a.2.2];exact a.2.1) c h
end
section
variable {P : Bz} {σ : Env} {C : Ak → Prop} {d : Option Tmp} {T U z : TypeId} {pos : String} {after : Array Edge} {gd : Option (Nat × Bool)} {x y : En} {g g' : Bool} {i j : Int}
theorem Wh {k':IntKind} (e:σ.ev x=some (g,.int .u64 i)) (b:g=true) (f:σ.ev y=some (g',.int k' j)) (c:g'=true) (a:0≤j):QV P ⟨d,.binOp .shr U x y z,T,pos,after,gd⟩ σ C (.int .u64 (Go.Rd.shrD i j)):=Auy e b f c a
end
abbrev len8T:List UInt8:=[0,1,2,2,3,3,3,3,4,4,4,4,4,4,4,4,5,5,5,5,5,5,5,5,5,5,5,5,5,5,5,5,6,6,6,6,6,6,6,6,6,6,6,6,6,6,6,6,6,6,6,6,6,6,6,6,6,6,6,6,6,6,6,6,7,7,7,7,7,7,7,7,7,7,7,7,7,7,7,7,7,7,7,7,7,7,7,7,7,7,7,7,7,7,7,7,7,7,7,7,7,7,7,7,7,7,7,7,7,7,7,7,7,7,7,7,7,7,7,7,7,7,7,7,7,7,7,7,8,8,8,8,8,8,8,8,8,8,8,8,8,8,8,8,8,8,8,8,8,8,8,8,8,8,8,8,8,8,8,8,8,8,8,8,8,8,8,8,8,8,8,8,8,8,8,8,8,8,8,8,8,8,8,8,8,8,8,8,8,8,8,8,8,8,8,8,8,8,8,8,8,8,8,8,8,8,8,8,8,8,8,8,8,8,8,8,8,8,8,8,8,8,8,8,8,8,8,8,8,8,8,8,8,8,8,8,8,8,8,8,8,8,8,8,8,8,8,8,8,8,8,8,8,8,8,8]
theorem A5w {α:Type}{xs:List α}{i:Int} (h:SX i (ln xs) (ln xs)):i.toNat≤xs.length:=by unfold SX ln at h;omega
theorem A2h {α:Type}{xs:List α}{i:Int} (h:SX i (ln xs) (ln xs)):sub xs i (ln xs)=xs.drop i.toNat:=by
 unfold sub SX ln at *;rw[W9 (by rw[Nn];omega)]
end Go.Rd
end
section
namespace Go.Rd
noncomputable def Dh (a b:Due):Option (Int) :=
 ck (IR (a.due - b.due)) <|
 some (a.due - b.due)
noncomputable def B0 (a b e:Int):((List Due)×Int)→Option (Stp ((List Due)×Int) (Empty)):=fun (d,c) =>
 br (Ap (c<e)) (
 ck (IR (a+c)) <|
 ck (IR (b+c)) <|
 ck (IR (b+c)) <|
 ck (IX (b+c) (ln d)) <|
 ck (IR (a+c)) <|
 ck (IX (a+c) (ln d)) <|
 ck (IX (a+c) (ln d)) <|
 ck (IX (b+c) (ln (upd d (a+c) (ele d (b+c))))) <|
 ck (IR (c+1)) <|
 some (.next ((upd (upd d (a+c) (ele d (b+c))) (b+c) (ele d (a+c))),(c+1)))) (
 some (.brk (d,c)))
noncomputable def B2 (data:List Due) (a b c:Int):Option (List Due) :=
 bd (lp (B0 a b c) (data,0)) fun d=>d.on (fun (e,f) =>
 some e) (fun r=>r.elim)
noncomputable def B8 (c:Int):((List Due)×Int×Int)→Option (Stp ((List Due)×Int×Int) (Empty)):=fun (d,a,b) =>
 br (a != b) (
 br (Ap (a>b)) (
 ck (IR (c - a)) <|
 bd (B2 d (c - a) c b) fun e =>
 ck (IR (a - b)) <|
 some (.next (e,(a - b),b))) (
 ck (IR (c - a)) <|
 ck (IR (c+b)) <|
 ck (IR ((c+b) - a)) <|
 bd (B2 d (c - a) ((c+b) - a) a) fun f =>
 ck (IR (b - a)) <|
 some (.next (f,a,(b - a))))) (
 some (.brk (d,a,b)))
noncomputable def C6 (data:List Due) (a c b:Int):Option (List Due) :=
 ck (IR (c - a)) <|
 ck (IR (b - c)) <|
 bd (lp (B8 c) (data,(c - a),(b - c))) fun e=>e.on (fun (f,d,h) =>
 ck (IR (c - d)) <|
 bd (B2 f (c - d) c d) fun g =>
 some g) (fun r=>r.elim)
noncomputable def Br (a:Int):((List Due)×Int)→Option (Stp ((List Due)×Int) (Empty)):=fun (c,b) =>
 ck ((Ap (b>a))=true→IX b (ln c)) <|
 ck ((Ap (b>a))=true→IR (b - 1)) <|
 ck ((Ap (b>a))=true→IX (b - 1) (ln c)) <|
 bdG (Ap (b>a)) (Dh (ele c b) (ele c (b - 1))) fun d =>
 br ((Ap (b>a))&&(Ap (d<0))) (
 ck (IR (b - 1)) <|
 ck (IR (b - 1)) <|
 ck (IX (b - 1) (ln c)) <|
 ck (IX b (ln c)) <|
 ck (IX b (ln c)) <|
 ck (IX (b - 1) (ln (upd c b (ele c (b - 1))))) <|
 ck (IR (b - 1)) <|
 some (.next ((upd (upd c b (ele c (b - 1))) (b - 1) (ele c b)),(b - 1)))) (
 some (.brk (c,b)))
noncomputable def Bl (a b:Int):((List Due)×Int)→Option (Stp ((List Due)×Int) (Empty)):=fun (d,c) =>
 br (Ap (c<b)) (
 bd (lp (Br a) (d,c)) fun e=>e.on (fun (f,g) =>
 ck (IR (c+1)) <|
 some (.next (f,(c+1)))) (fun r=>r.elim)) (
 some (.brk (d,c)))
noncomputable def Be (data:List Due) (a b:Int):Option (List Due) :=
 ck (IR (a+1)) <|
 bd (lp (Bl a b) (data,(a+1))) fun c=>c.on (fun (d,e) =>
 some d) (fun r=>r.elim)
noncomputable def Ci (data:List Due) (a:Int):(Int×Int)→Option (Stp (Int×Int) (Empty)):=fun (b,c) =>
 br (Ap (b<c)) (
 ck (IR (b+c)) <|
 ck (IX (IntKind.i64.wrap (shrD (IntKind.u64.wrap (b+c)) 1)) (ln data)) <|
 ck (IX a (ln data)) <|
 bd (Dh (ele data (IntKind.i64.wrap (shrD (IntKind.u64.wrap (b+c)) 1))) (ele data a)) fun d =>
 br (Ap (d<0)) (
 ck (IR ((IntKind.i64.wrap (shrD (IntKind.u64.wrap (b+c)) 1))+1)) <|
 some (.next (((IntKind.i64.wrap (shrD (IntKind.u64.wrap (b+c)) 1))+1),c))) (
 some (.next (b,(IntKind.i64.wrap (shrD (IntKind.u64.wrap (b+c)) 1)))))) (
 some (.brk (b,c)))
noncomputable def Ch (c:Int):((List Due)×Int)→Option (Stp ((List Due)×Int) (Empty)):=fun (b,a) =>
 ck (IR (c - 1)) <|
 br (Ap (a<(c - 1))) (
 ck (IR (a+1)) <|
 ck (IR (a+1)) <|
 ck (IX (a+1) (ln b)) <|
 ck (IX a (ln b)) <|
 ck (IX a (ln b)) <|
 ck (IX (a+1) (ln (upd b a (ele b (a+1))))) <|
 ck (IR (a+1)) <|
 some (.next ((upd (upd b a (ele b (a+1))) (a+1) (ele b a)),(a+1)))) (
 some (.brk (b,a)))
noncomputable def Cg (data:List Due) (c:Int):(Int×Int)→Option (Stp (Int×Int) (Empty)):=fun (a,b) =>
 br (Ap (a<b)) (
 ck (IR (a+b)) <|
 ck (IX c (ln data)) <|
 ck (IX (IntKind.i64.wrap (shrD (IntKind.u64.wrap (a+b)) 1)) (ln data)) <|
 bd (Dh (ele data c) (ele data (IntKind.i64.wrap (shrD (IntKind.u64.wrap (a+b)) 1)))) fun d =>
 br (!(Ap (d<0))) (
 ck (IR ((IntKind.i64.wrap (shrD (IntKind.u64.wrap (a+b)) 1))+1)) <|
 some (.next (((IntKind.i64.wrap (shrD (IntKind.u64.wrap (a+b)) 1))+1),b))) (
 some (.next (a,(IntKind.i64.wrap (shrD (IntKind.u64.wrap (a+b)) 1)))))) (
 some (.brk (a,b)))
noncomputable def Cf (c:Int):((List Due)×Int)→Option (Stp ((List Due)×Int) (Empty)):=fun (b,a) =>
 br (Ap (a>c)) (
 ck (IR (a - 1)) <|
 ck (IR (a - 1)) <|
 ck (IX (a - 1) (ln b)) <|
 ck (IX a (ln b)) <|
 ck (IX a (ln b)) <|
 ck (IX (a - 1) (ln (upd b a (ele b (a - 1))))) <|
 ck (IR (a - 1)) <|
 some (.next ((upd (upd b a (ele b (a - 1))) (a - 1) (ele b a)),(a - 1)))) (
 some (.brk (b,a)))
noncomputable def Ce (data:List Due) (a e b:Int):(Int×Int)→Option (Stp (Int×Int) (Empty)):=fun (d,c) =>
 br (Ap (d<c)) (
 ck (IR (d+c)) <|
 ck (IR ((((IntKind.i64.wrap (shrD (IntKind.u64.wrap (a+b)) 1))+e) - 1) - (IntKind.i64.wrap (shrD (IntKind.u64.wrap (d+c)) 1)))) <|
 ck (IX ((((IntKind.i64.wrap (shrD (IntKind.u64.wrap (a+b)) 1))+e) - 1) - (IntKind.i64.wrap (shrD (IntKind.u64.wrap (d+c)) 1))) (ln data)) <|
 ck (IX (IntKind.i64.wrap (shrD (IntKind.u64.wrap (d+c)) 1)) (ln data)) <|
 bd (Dh (ele data ((((IntKind.i64.wrap (shrD (IntKind.u64.wrap (a+b)) 1))+e) - 1) - (IntKind.i64.wrap (shrD (IntKind.u64.wrap (d+c)) 1)))) (ele data (IntKind.i64.wrap (shrD (IntKind.u64.wrap (d+c)) 1)))) fun f =>
 br (!(Ap (f<0))) (
 ck (IR ((IntKind.i64.wrap (shrD (IntKind.u64.wrap (d+c)) 1))+1)) <|
 some (.next (((IntKind.i64.wrap (shrD (IntKind.u64.wrap (d+c)) 1))+1),c))) (
 some (.next (d,(IntKind.i64.wrap (shrD (IntKind.u64.wrap (d+c)) 1)))))) (
 some (.brk (d,c)))
noncomputable def A1:Nat→(List Due)→Int→Int→Int→Option (List Due)
 | 0,_,_,_,_=>none
 | fl+1,data,a,c,b =>
 ck (IR (c - a)) <|
 br ((c - a)==1) (
 bd (lp (Ci data a) (c,b)) fun m=>m.on (fun (h,y) =>
 bd (lp (Ch h) (data,a)) fun j=>j.on (fun (p,A) =>
 some p) (fun r=>r.elim)) (fun r=>r.elim)) (
 ck (IR (b - c)) <|
 br ((b - c)==1) (
 bd (lp (Cg data c) (a,c)) fun n=>n.on (fun (i,z) =>
 bd (lp (Cf i) (data,c)) fun o=>o.on (fun (q,B) =>
 some q) (fun r=>r.elim)) (fun r=>r.elim)) (
 ck (IR (a+b)) <|
 ck (IR ((IntKind.i64.wrap (shrD (IntKind.u64.wrap (a+b)) 1))+c)) <|
 bd (show Option (Out (Int×Int) (Empty)) from br (Ap (c>(IntKind.i64.wrap (shrD (IntKind.u64.wrap (a+b)) 1)))) (
 ck (IR (((IntKind.i64.wrap (shrD (IntKind.u64.wrap (a+b)) 1))+c) - b)) <|
 some (.go ((((IntKind.i64.wrap (shrD (IntKind.u64.wrap (a+b)) 1))+c) - b),(IntKind.i64.wrap (shrD (IntKind.u64.wrap (a+b)) 1))))) (
 some (.go (a,c)))) fun k=>k.on (fun (t,s) =>
 ck (IR (((IntKind.i64.wrap (shrD (IntKind.u64.wrap (a+b)) 1))+c) - 1)) <|
 bd (lp (Ce data a c b) (t,s)) fun l=>l.on (fun (d,C) =>
 ck (IR (((IntKind.i64.wrap (shrD (IntKind.u64.wrap (a+b)) 1))+c) - d)) <|
 br ((Ap (d<c))&&(Ap (c<(((IntKind.i64.wrap (shrD (IntKind.u64.wrap (a+b)) 1))+c) - d)))) (
 bd (C6 data d c (((IntKind.i64.wrap (shrD (IntKind.u64.wrap (a+b)) 1))+c) - d)) fun e =>
 br ((Ap (a<d))&&(Ap (d<(IntKind.i64.wrap (shrD (IntKind.u64.wrap (a+b)) 1))))) (
 bd (A1 fl e a d (IntKind.i64.wrap (shrD (IntKind.u64.wrap (a+b)) 1))) fun f =>
 br ((Ap ((IntKind.i64.wrap (shrD (IntKind.u64.wrap (a+b)) 1))<(((IntKind.i64.wrap (shrD (IntKind.u64.wrap (a+b)) 1))+c) - d)))&&(Ap ((((IntKind.i64.wrap (shrD (IntKind.u64.wrap (a+b)) 1))+c) - d)<b))) (
 bd (A1 fl f (IntKind.i64.wrap (shrD (IntKind.u64.wrap (a+b)) 1)) (((IntKind.i64.wrap (shrD (IntKind.u64.wrap (a+b)) 1))+c) - d) b) fun u =>
 some u) (
 some f)) (
 br ((Ap ((IntKind.i64.wrap (shrD (IntKind.u64.wrap (a+b)) 1))<(((IntKind.i64.wrap (shrD (IntKind.u64.wrap (a+b)) 1))+c) - d)))&&(Ap ((((IntKind.i64.wrap (shrD (IntKind.u64.wrap (a+b)) 1))+c) - d)<b))) (
 bd (A1 fl e (IntKind.i64.wrap (shrD (IntKind.u64.wrap (a+b)) 1)) (((IntKind.i64.wrap (shrD (IntKind.u64.wrap (a+b)) 1))+c) - d) b) fun v =>
 some v) (
 some e))) (
 br ((Ap (a<d))&&(Ap (d<(IntKind.i64.wrap (shrD (IntKind.u64.wrap (a+b)) 1))))) (
 bd (A1 fl data a d (IntKind.i64.wrap (shrD (IntKind.u64.wrap (a+b)) 1))) fun g =>
 br ((Ap ((IntKind.i64.wrap (shrD (IntKind.u64.wrap (a+b)) 1))<(((IntKind.i64.wrap (shrD (IntKind.u64.wrap (a+b)) 1))+c) - d)))&&(Ap ((((IntKind.i64.wrap (shrD (IntKind.u64.wrap (a+b)) 1))+c) - d)<b))) (
 bd (A1 fl g (IntKind.i64.wrap (shrD (IntKind.u64.wrap (a+b)) 1)) (((IntKind.i64.wrap (shrD (IntKind.u64.wrap (a+b)) 1))+c) - d) b) fun w =>
 some w) (
 some g)) (
 br ((Ap ((IntKind.i64.wrap (shrD (IntKind.u64.wrap (a+b)) 1))<(((IntKind.i64.wrap (shrD (IntKind.u64.wrap (a+b)) 1))+c) - d)))&&(Ap ((((IntKind.i64.wrap (shrD (IntKind.u64.wrap (a+b)) 1))+c) - d)<b))) (
 bd (A1 fl data (IntKind.i64.wrap (shrD (IntKind.u64.wrap (a+b)) 1)) (((IntKind.i64.wrap (shrD (IntKind.u64.wrap (a+b)) 1))+c) - d) b) fun x =>
 some x) (
 some data)))) (fun r=>r.elim)) (fun r=>r.elim)))
noncomputable def Bv (d:Int):((List Due)×Int×Int)→Option (Stp ((List Due)×Int×Int) (Empty)):=fun (c,b,a) =>
 br (Ap (a≤d)) (
 bd (Be c b a) fun e =>
 ck (IR (a+20)) <|
 some (.next (e,a,(a+20)))) (
 some (.brk (c,b,a)))
noncomputable def Bu (e b:Int):((List Due)×Int×Int)→Option (Stp ((List Due)×Int×Int) (Empty)):=fun (d,c,a) =>
 br (Ap (a≤e)) (
 ck (IR (c+b)) <|
 bd (A1 64 d c (c+b) a) fun f =>
 ck (IR (2 * b)) <|
 ck (IR (a+(2 * b))) <|
 some (.next (f,a,(a+(2 * b))))) (
 some (.brk (d,c,a)))
noncomputable def B7 (c:Int):((List Due)×Int)→Option (Stp ((List Due)×Int) (Empty)):=fun (d,a) =>
 br (Ap (a<c)) (
 ck (IR (2 * a)) <|
 bd (lp (Bu c a) (d,0,(2 * a))) fun f=>f.on (fun (e,b,h) =>
 ck (IR (b+a)) <|
 br (Ap ((b+a)<c)) (
 bd (A1 64 e b (b+a) c) fun g =>
 ck (IR (a * 2)) <|
 some (.next (g,(a * 2)))) (
 ck (IR (a * 2)) <|
 some (.next (e,(a * 2))))) (fun r=>r.elim)) (
 some (.brk (d,a)))
noncomputable def D7 (data:List Due) (a:Int):Option (List Due) :=
 bd (lp (Bv a) (data,0,20)) fun c=>c.on (fun (e,b,h) =>
 bd (Be e b a) fun g =>
 bd (lp (B7 a) (g,20)) fun d=>d.on (fun (f,i) =>
 some f) (fun r=>r.elim)) (fun r=>r.elim)
noncomputable def Bp (x:List Due):Option (List Due) :=
 bd (D7 x (ln x)) fun a =>
 some a
noncomputable def L0 (x:Int):Option (Int) :=
 bd (show Option (Out (Int×Int) (Empty)) from br (Ap (x≥4294967296)) (
 some (.go ((shrD x 32),32))) (
 some (.go (x,0)))) fun e=>e.on (fun (d,c) =>
 bd (show Option (Out (Int×Int) (Empty)) from br (Ap (d≥65536)) (
 ck (IR (c+16)) <|
 some (.go ((shrD d 16),(c+16)))) (
 some (.go (d,c)))) fun f=>f.on (fun (a,b) =>
 br (Ap (a≥256)) (
 ck (IR (b+8)) <|
 ck (IX ((bt (shrD a 8)).toNat:Int) (ln len8T)) <|
 ck (IR ((b+8)+((ele len8T ((bt (shrD a 8)).toNat:Int)).toNat:Int))) <|
 some ((b+8)+((ele len8T ((bt (shrD a 8)).toNat:Int)).toNat:Int))) (
 ck (IX ((bt a).toNat:Int) (ln len8T)) <|
 ck (IR (b+((ele len8T ((bt a).toNat:Int)).toNat:Int))) <|
 some (b+((ele len8T ((bt a).toNat:Int)).toNat:Int)))) (fun r=>r.elim)) (fun r=>r.elim)
noncomputable def Hk (x:Int):Option (Int) :=
 bd (L0 x) fun a =>
 some a
noncomputable def Hb (memory:List (List Int)):((List Int)×Int)→Option (Stp ((List Int)×Int) (List Int×Bool)):=fun (b,a) =>
 br (Ap (a<(ln memory))) (
 ck (IX a (ln memory)) <|
 ck ((!((ln (ele memory a))==0))=true→IR ((ln (ele memory a)) - 1)) <|
 br ((((ln (ele memory a))==0) || ((Su (ln (ele memory a)) ((ln (ele memory a)) - 1)) != 0)) || (Ap ((ln (ele memory a))>32))) (
 some (.ret ([],Az))) (
 bd (Hk (IntKind.u64.wrap (ln (ele memory a)))) fun c =>
 ck (IR (c - 1)) <|
 ck (AL (b++[(c - 1)]).length 8) <|
 ck (IR (a+1)) <|
 some (.next ((b++[(c - 1)]),(a+1))))) (
 some (.brk (b,a)))
noncomputable def Lm (memory:List (List Int)):Option (List Int×Bool) :=
 bd (lp (Hb memory) ([],0)) fun a=>a.on (fun (b,c) =>
 some (b,true)) (fun r=>some r)
noncomputable def C0 (a:Tgt) (c d e b pace:Int):Option (Int) :=
 ck (IR (b+pace)) <|
 ck (a.regs≠0) <|
 some (Int.tmod (b+pace) a.regs)
noncomputable def Em (d:Int) (b:List Due):((List Int)×Int)→Option (Stp ((List Int)×Int) (Empty)):=fun (c,a) =>
 ck ((Ap (a<(ln b)))=true→IX a (ln b)) <|
 br ((Ap (a<(ln b)))&&(Ap ((ele b a).due≤d))) (
 ck (IX a (ln b)) <|
 ck (IX a (ln b)) <|
 ck (IX ((ele b a).reg) (ln c)) <|
 ck (IR (a+1)) <|
 some (.next ((upd c ((ele b a).reg) ((ele b a).v)),(a+1)))) (
 some (.brk (c,a)))
noncomputable def Eb (k:Tgt) (i j:Int) (h:List Opr) (e:List Int) (l:List (List Int)) (m:Int) (d:List Due) (c:Int):Option (List Int×List Due) :=
 bd (Bp d) fun a =>
 bd (lp (Em c a) (e,0)) fun f=>f.on (fun (g,b) =>
 ck (SX b (ln a) (ln a)) <|
 some (g,(sub a b (ln a)))) (fun r=>r.elim)
noncomputable def Ml (a b:Stm) (back size:Int):Int→Option (Stp (Int) (Bool)):=fun c =>
 br (Ap (c<size)) (
 ck (IR (a.sp * c)) <|
 ck (IR ((a.sp * c)+a.pl)) <|
 bd (Zs ((a.sp * c)+a.pl) size) fun d =>
 ck (IR (c+back)) <|
 ck (IR (b.sp * (c+back))) <|
 ck (IR ((b.sp * (c+back))+b.pl)) <|
 bd (Zs ((b.sp * (c+back))+b.pl) size) fun e =>
 br (d==e) (
 some (.ret true)) (
 ck (IR (c+1)) <|
 some (.next (c+1)))) (
 some (.brk c))
noncomputable def S7 (a b:Stm) (back size:Int):Option (Bool) :=
 bd (lp (Ml a b back size) 0) fun c=>c.on (fun d =>
 some Az) (fun r=>some r)
noncomputable def Afe (a b:Stm):Option (Bool) :=
 some (((((a.op==3) || (a.op==4))&&((b.op==3) || (b.op==4)))&&(a.ar==b.ar))&&((a.op==4) || (b.op==4)))
noncomputable def Sy (l:Lp) (t:Tgt) (b:Edg) (c:List Rf):Int→Option (Stp (Int) (Bool)):=fun a =>
 br (Ap (a<(ln c))) (
 ck (IX a (ln c)) <|
 ck (((ele c a).st==b.fr)=true→IX a (ln c)) <|
 ck ((((ele c a).st==b.fr)&&((ele c a).bk==b.bk))=true→IX b.fr (ln l.body)) <|
 bdG (((ele c a).st==b.fr)&&((ele c a).bk==b.bk)) (Aeg t ((ele l.body b.fr).op)) fun d =>
 br ((((ele c a).st==b.fr)&&((ele c a).bk==b.bk))&&(b.wt==d)) (
 some (.ret true)) (
 ck (IR (a+1)) <|
 some (.next (a+1)))) (
 some (.brk a))
noncomputable def Sx (l:Lp) (b:Edg) (c:Int):Int→Option (Stp (Int) (Bool)):=fun a =>
 br (Ap (a<b.bk)) (
 bd (S7 (ele l.body b.fr) (ele l.body b.tO) a c) fun d =>
 br d (
 some (.ret Az)) (
 ck (IR (a+1)) <|
 some (.next (a+1)))) (
 some (.brk a))
noncomputable def Ank (l:Lp) (t:Tgt) (a:Edg):Option (Bool) :=
 ck (IX a.tO (ln l.body)) <|
 bd (Aei (ele l.body a.tO)) fun k =>
 bd (lp (Sy l t a k) 0) fun d=>d.on (fun n =>
 ck (IX a.fr (ln l.body)) <|
 ck (IX a.tO (ln l.body)) <|
 bd (show Option (Out (Int) (Empty)) from br ((ele l.body a.fr).op==4) (
 some (.go 1)) (
 some (.go 0))) fun e=>e.on (fun h =>
 bd (Afe (ele l.body a.fr) (ele l.body a.tO)) fun i =>
 br ((!i) || (a.wt != h)) (
 some Az) (
 ck (IX ((ele l.body a.fr).ar) (ln l.logs)) <|
 bd (Sc (ele l.logs ((ele l.body a.fr).ar))) fun b =>
 bd (show Option (Out (Int) (Empty)) from br (Ap (a.fr≥a.tO)) (
 some (.go 1)) (
 some (.go 0))) fun f=>f.on (fun c =>
 bdG (!((Ap (a.bk<c)) || (Ap (a.bk>b)))) (S7 (ele l.body a.fr) (ele l.body a.tO) a.bk b) fun j =>
 br (((Ap (a.bk<c)) || (Ap (a.bk>b))) || (!j)) (
 some Az) (
 bd (lp (Sx l a b) c) fun g=>g.on (fun m =>
 some true) (fun r=>some r))) (fun r=>r.elim))) (fun r=>r.elim)) (fun r=>some r)
noncomputable def Tr (l:Lp) (t:Tgt) (d e c:Int):((List Edg)×Int)→Option (Stp ((List Edg)×Int) (Empty)):=fun (b,a) =>
 br (Ap (a≤6)) (
 bd (Ank l t (Edg.mk d e c a)) fun f =>
 br f (
 ck (AL (b++[(Edg.mk d e c a)]).length 32) <|
 ck (IR (a+1)) <|
 some (.next ((b++[(Edg.mk d e c a)]),(a+1)))) (
 ck (IR (a+1)) <|
 some (.next (b,(a+1))))) (
 some (.brk (b,a)))
noncomputable def Ts (l:Lp) (t:Tgt) (c e:Int):((List Edg)×Int)→Option (Stp ((List Edg)×Int) (Empty)):=fun (b,a) =>
 br (Ap (a≤32)) (
 bd (lp (Tr l t c e a) (b,0)) fun d=>d.on (fun (f,g) =>
 ck (IR (a+1)) <|
 some (.next (f,(a+1)))) (fun r=>r.elim)) (
 some (.brk (b,a)))
noncomputable def Tt (l:Lp) (t:Tgt) (c:Int):((List Edg)×Int)→Option (Stp ((List Edg)×Int) (Empty)):=fun (b,a) =>
 br (Ap (a<(ln l.body))) (
 bd (lp (Ts l t c a) (b,0)) fun d=>d.on (fun (e,f) =>
 ck (IR (a+1)) <|
 some (.next (e,(a+1)))) (fun r=>r.elim)) (
 some (.brk (b,a)))
noncomputable def Tu (l:Lp) (t:Tgt):((List Edg)×Int)→Option (Stp ((List Edg)×Int) (Empty)):=fun (b,a) =>
 br (Ap (a<(ln l.body))) (
 bd (lp (Tt l t a) (b,0)) fun c=>c.on (fun (d,e) =>
 ck (IR (a+1)) <|
 some (.next (d,(a+1)))) (fun r=>r.elim)) (
 some (.brk (b,a)))
noncomputable def Abf (l:Lp) (t:Tgt):Option (List Edg) :=
 bd (lp (Tu l t) ([],0)) fun a=>a.on (fun (b,c) =>
 some b) (fun r=>r.elim)
def lgN (n:Nat):Nat:=if n=1 then 0 else if n=2 then 1 else if n=4 then 2 else if n=8 then 3 else if n=16 then 4 else if n=32 then 5 else 6
theorem Aub {n L:Nat} (h:L≤5):lgN n=L↔n=2 ^ L:=by
 unfold lgN;rcases (by omega:L=0∨L=1∨L=2∨L=3∨L=4∨L=5) with rfl | rfl | rfl | rfl | rfl | rfl <;> (simp only[Nat.pow_zero,Nat.pow_one,show (2:Nat) ^ 2=4 from rfl,show (2:Nat) ^ 3=8 from rfl,show (2:Nat) ^ 4=16 from rfl,show (2:Nat) ^ 5=32 from rfl];split <;> (try split) <;> (try split) <;> (try split) <;> (try split) <;> (try split) <;> omega)
theorem Axw {k:Nat} (h:k≤5):(1:Int)≤2 ^ k∧(2:Int) ^ k≤32∧((2 ^ k:Nat):Int)=2 ^ k:=⟨(My k h).1,(My k h).2,Bf⟩
def Atq (M:List (List Int)):Prop:=∀ i:Nat,i<M.length→lgN (ele M (i:Int)).length≤5
def Aoi (M:List (List Int)):List Int:=(List.range M.length).map fun i:Nat=>(lgN (ele M (i:Int)).length:Int)
theorem AL8M {n:Nat} (h:n≤5864062014634):AL n 8:=⟨by rw[Ev];omega,Aa⟩
theorem A49 {L:Nat} (h:L≤5):Hk (IntKind.u64.wrap ((2 ^ L:Nat):Int))=some ((L:Int)+1):=by
 have key:∀ n:Int,0≤n→n<256→Hk (IntKind.u64.wrap n)=some (((ele len8T ((bt n).toNat:Int)).toNat:Int)):=fun n b c=>by
  have a:IntKind.u64.wrap n=n:=by unfold IntKind.wrap;simp[IntKind.bits,IntKind.signed];omega
  have d:=(bt n).toNat_lt;have e:=(ele len8T ((bt n).toNat:Int)).toNat_lt;unfold Hk L0;rw[a,Cn Aa,bd_ret,Out.on_go];simp only;rw[Cn Aa,bd_ret,Out.on_go];simp only;rw[Cn Aa,A8 Aa (by show _<((len8T.length:Nat):Int);rw[show len8T.length=256 from by decide +kernel];omega),Ay Aa Aa,bd_ret,Int.zero_add]
 rcases (by omega:L=0∨L=1∨L=2∨L=3∨L=4∨L=5) with rfl | rfl | rfl | rfl | rfl | rfl <;> (rw[key _ Ah Ah];decide +kernel)
theorem A32 {n:Nat}:lgN n≤5∨(n=0∨n>32∨(n≤32∧Su (n:Int) ((n:Int) - 1)≠0)):=by
 by_cases h:n≤32
 ·have:∀ m:Fin 33,lgN m.val≤5∨(m.val=0∨m.val>32∨(m.val≤32∧Su (m.val:Int) ((m.val:Int) - 1)≠0)):=by decide +kernel
  exact this ⟨n,Aa⟩
 ·exact .inr (.inr (.inl Aa))
theorem A3t {L:Nat} (h:L≤5):Su ((2 ^ L:Nat):Int) (((2 ^ L:Nat):Int) - 1)=0:=by
 rcases (by omega:L=0∨L=1∨L=2∨L=3∨L=4∨L=5) with rfl | rfl | rfl | rfl | rfl | rfl <;> decide +kernel
theorem Av9 {M:List (List Int)} (k:M.length≤5864062014634) (g:∀ r∈M,r.length≤maxLen):Lm M=some (bif tb (Atq M) then (Aoi M,true) else ([],Az)):=by
 unfold Lm
 have X:=Lz (f:=Hb M) (ρ:=List Int×Bool) (fun i=>((List.range i).map (fun j:Nat=>(lgN (ele M (j:Int)).length:Int)),(i:Int))) M.length (fun i=>lgN (ele M (i:Int)).length≤5) (fun _=>([],Az)) (fun i hi _=>by
  have d:=g _ (D9 hi);rw[Ev] at d;unfold Hb;simp only;rw[Ck (by unfold ln;omega),A8 Aa (by unfold ln;omega),Fv (fun _=>⟨by unfold ln;omega,by unfold ln;omega⟩)];constructor
  ·intro a
   have e:=(Aub a).1 rfl;have b:=Axw a;generalize hL:lgN (ele M (i:Int)).length=L at *
   rw[show ln (ele M (i:Int))=((2 ^ L:Nat):Int) from by unfold ln;rw[e],A3t a,show ((((2 ^ L:Nat):Int)==0) || ((0:Int) != 0) || Ap (((2 ^ L:Nat):Int)>32))=Az from by
    rw[Th,Th,Xr,Hs];exact⟨⟨Aa,rfl⟩,Aa⟩,br_false,A49 a,bd_ret,Ay Aa Aa,show (L:Int)+1 - 1=L from Aa,Ax (AL8M (by simp;omega)),Ay Aa Aa]
   rw[←rm_succ,hL];rfl
  ·intro a
   have c:=(A32 (n:=(ele M (i:Int)).length)).resolve_left a
   rw[show ((ln (ele M (i:Int))==0) || (Su (ln (ele M (i:Int))) (ln (ele M (i:Int)) - 1) != 0) || Ap (ln (ele M (i:Int))>32))=true from by
    unfold ln;rw[W8,W8,Dk,T4,Ij];rcases c with h | h | h
    ·exact .inl (.inl Aa)
    ·exact .inr Aa
    ·exact .inl (.inr h.2),br_true]) (by unfold Hb;exact Cn (by unfold ln;omega))
 rcases X with ⟨b,X⟩ | ⟨i,hi,b,_,X⟩
 ·rw[show lp (Hb M) ([],0)=_ from X,bd_ret,Out.on_go,Dz (show Atq M from b)];rfl
 ·rw[show lp (Hb M) ([],0)=_ from X,bd_ret,C3 (fun h:Atq M=>b (h i hi))];rfl
noncomputable def Kl (x:Int):Option (Bool) :=
 some (x != x)
noncomputable def E3 (x y:Int):Option (Int) :=
 bd (Kl x) fun b =>
 bd (Kl y) fun a =>
 br b (
 br a (
 some 0) (
 some (-1))) (
 br a (
 some 1) (
 br (Ap (x<y)) (
 some (-1)) (
 br (Ap (x>y)) (
 some 1) (
 some 0))))
noncomputable def E0 (b:List Int):Int→Option (Stp (Int) (Int)):=fun a =>
 br (Ap (a<(ln b))) (
 ck (IX a (ln b)) <|
 br ((ele b a) != 0) (
 some (.ret (ele b a))) (
 ck (IR (a+1)) <|
 some (.next (a+1)))) (
 some (.brk a))
noncomputable def Od (b:List Int):Option (Int) :=
 bd (lp (E0 b) 0) fun a=>a.on (fun c =>
 some 0) (fun r=>some r)
noncomputable def Tq (a b:Edg):Option (Int) :=
 bd (E3 a.fr b.fr) fun e =>
 bd (E3 a.tO b.tO) fun f =>
 bd (E3 a.bk b.bk) fun g =>
 bd (E3 a.wt b.wt) fun c =>
 bd (Od [e,f,g,c]) fun d =>
 some d
noncomputable def Bw (d:List Edg) (c:Int):((List Edg)×Int×Int)→Option (Stp ((List Edg)×Int×Int) (Empty)):=fun (b,e,a) =>
 ck (SX c (ln d) (ln b)) <|
 br (Ap (a<(ln (sub b c (ln d))))) (
 ck (IX a (ln (sub b c (ln d)))) <|
 ck (IR (a - 1)) <|
 ck (IX (a - 1) (ln (sub b c (ln d)))) <|
 br (!([(ele (sub b c (ln d)) a).fr,(ele (sub b c (ln d)) a).tO,(ele (sub b c (ln d)) a).bk,(ele (sub b c (ln d)) a).wt]==[(ele (sub b c (ln d)) (a - 1)).fr,(ele (sub b c (ln d)) (a - 1)).tO,(ele (sub b c (ln d)) (a - 1)).bk,(ele (sub b c (ln d)) (a - 1)).wt])) (
 ck (IX a (ln (sub b c (ln d)))) <|
 ck (IX e (ln b)) <|
 ck (IR (e+1)) <|
 ck (IR (a+1)) <|
 some (.next ((upd b e (ele (sub b c (ln d)) a)),(e+1),(a+1)))) (
 ck (IR (a+1)) <|
 some (.next (b,e,(a+1))))) (
 some (.brk (b,e,a)))
noncomputable def Bx :((List Edg)×Int)→Option (Stp ((List Edg)×Int) (List Edg)):=fun (b,a) =>
 br (Ap (a<(ln b))) (
 ck (IX a (ln b)) <|
 ck (IR (a - 1)) <|
 ck (IX (a - 1) (ln b)) <|
 br ([(ele b a).fr,(ele b a).tO,(ele b a).bk,(ele b a).wt]==[(ele b (a - 1)).fr,(ele b (a - 1)).tO,(ele b (a - 1)).bk,(ele b (a - 1)).wt]) (
 ck (SX a (ln b) (ln b)) <|
 bd (lp (Bw b a) (b,a,1)) fun e=>e.on (fun (d,c,f) =>
 ck (SX c (ln d) (ln d)) <|
 ck (SX 0 c (ln (clr d c (Edg.mk 0 0 0 0)))) <|
 some (.ret (sub (clr d c (Edg.mk 0 0 0 0)) 0 c))) (fun r=>r.elim)) (
 ck (IR (a+1)) <|
 some (.next (b,(a+1))))) (
 some (.brk (b,a)))
noncomputable def C7 (s:List Edg):Option (List Edg) :=
 br (Ap ((ln s)<2)) (
 some s) (
 bd (lp (Bx) (s,1)) fun a=>a.on (fun (b,c) =>
 some b) (fun r=>some r))
noncomputable def Jp (a b:Stm) (back size:Int):Int→Option (Stp (Int) (Bool)):=fun c =>
 br (Ap (c<size)) (
 ck (IR (a.sp * c)) <|
 ck (IR ((a.sp * c)+a.pl)) <|
 ck (IR (c+back)) <|
 ck (IR (b.sp * (c+back))) <|
 ck (IR (((a.sp * c)+a.pl) - (b.sp * (c+back)))) <|
 ck (IR ((((a.sp * c)+a.pl) - (b.sp * (c+back))) - b.pl)) <|
 ck (IR (size - 1)) <|
 br ((Su ((((a.sp * c)+a.pl) - (b.sp * (c+back))) - b.pl) (size - 1))==0) (
 some (.ret true)) (
 ck (IR (c+1)) <|
 some (.next (c+1)))) (
 some (.brk c))
noncomputable def Qo (a b:Stm) (back size:Int):Option (Bool) :=
 bd (lp (Jp a b back size) 0) fun c=>c.on (fun d =>
 some Az) (fun r=>some r)
noncomputable def Q8 (s:Stm):Option (Bool) :=
 some ((s.op==3) || (s.op==4))
noncomputable def G3 (l:Lp) (b tO c:Int):Int→Option (Stp (Int) (Edg×Bool)):=fun a =>
 br (Ap (a≤(shlD 1 (ele l.logs ((ele l.body b).ar))))) (
 bd (Qo (ele l.body b) (ele l.body tO) a (shlD 1 (ele l.logs ((ele l.body b).ar)))) fun d =>
 br d (
 some (.ret ((Edg.mk b tO a c),true))) (
 ck (IR (a+1)) <|
 some (.next (a+1)))) (
 some (.brk a))
noncomputable def Py (l:Lp) (a tO:Int):Option (Edg×Bool) :=
 ck (IX a (ln l.body)) <|
 ck (IX tO (ln l.body)) <|
 bd (Q8 (ele l.body a)) fun b =>
 bdG (!(!b)) (Q8 (ele l.body tO)) fun h =>
 br ((((!b) || (!h)) || ((ele l.body a).ar != (ele l.body tO).ar)) || (((ele l.body a).op==3)&&((ele l.body tO).op==3))) (
 some ((Edg.mk 0 0 0 0),Az)) (
 bd (show Option (Out (Int) (Empty)) from br (Ap (a≥tO)) (
 some (.go 1)) (
 some (.go 0))) fun d=>d.on (fun c =>
 bd (show Option (Out (Int) (Empty)) from br ((ele l.body a).op==4) (
 some (.go 1)) (
 some (.go 0))) fun e=>e.on (fun g =>
 ck (IX ((ele l.body a).ar) (ln l.logs)) <|
 ck (0≤(ele l.logs ((ele l.body a).ar))) <|
 bd (lp (G3 l a tO g) c) fun f=>f.on (fun i =>
 some ((Edg.mk 0 0 0 0),Az)) (fun r=>some r)) (fun r=>r.elim)) (fun r=>r.elim))
noncomputable def Nb (l:Lp) (t:Tgt) (d:Int) (b:List Rf):((List Edg)×Int)→Option (Stp ((List Edg)×Int) (Empty)):=fun (c,a) =>
 br (Ap (a<(ln b))) (
 ck (IX a (ln b)) <|
 ck (IX ((ele b a).st) (ln l.body)) <|
 bd (G1 t ((ele l.body ((ele b a).st)).op)) fun e =>
 ck (AL (c++[(Edg.mk ((ele b a).st) d ((ele b a).bk) e)]).length 32) <|
 ck (IR (a+1)) <|
 some (.next ((c++[(Edg.mk ((ele b a).st) d ((ele b a).bk) e)]),(a+1)))) (
 some (.brk (c,a)))
noncomputable def Na (l:Lp) (d:Int):((List Edg)×Int)→Option (Stp ((List Edg)×Int) (Empty)):=fun (b,a) =>
 br (Ap (a<(ln l.body))) (
 bd (Py l a d) fun c =>
 br c.2 (
 ck (AL (b++[c.1]).length 32) <|
 ck (IR (a+1)) <|
 some (.next ((b++[c.1]),(a+1)))) (
 ck (IR (a+1)) <|
 some (.next (b,(a+1))))) (
 some (.brk (b,a)))
noncomputable def Nc (l:Lp) (t:Tgt):((List Edg)×Int)→Option (Stp ((List Edg)×Int) (Empty)):=fun (b,a) =>
 br (Ap (a<(ln l.body))) (
 ck (IX a (ln l.body)) <|
 bd (Fh (ele l.body a)) fun g =>
 bd (lp (Nb l t a g) (b,0)) fun c=>c.on (fun (e,h) =>
 bd (lp (Na l a) (e,0)) fun d=>d.on (fun (f,i) =>
 ck (IR (a+1)) <|
 some (.next (f,(a+1)))) (fun r=>r.elim)) (fun r=>r.elim)) (
 some (.brk (b,a)))
noncomputable def Fi (l:Lp) (t:Tgt):Option (List Edg×Int) :=
 bd (Is l) fun a =>
 bdG (!(!a)) (Gy t) fun f =>
 br ((!a) || (!f)) (
 some ([],2)) (
 bd (lp (Nc l t) ([],0)) fun b=>b.on (fun (c,g) =>
 bd (Abe c) fun d =>
 bd (C7 d) fun e =>
 some (e,0)) (fun r=>r.elim))
def Uq (a b:Stm) (back size:Int):Prop:=∃ i:Nat,(i:Int)<size∧(a.sp * i+a.pl) % size=(b.sp * (i+back)+b.pl) % size
def Aop (a:Stm):Prop:=-64≤a.sp∧a.sp≤64∧-64≤a.pl∧a.pl≤64
theorem Au9 {k:Nat} (h:k≤5):(1:Int)≤2 ^ k∧(2:Int) ^ k≤32∧((2 ^ k:Nat):Int)=2 ^ k:=⟨(My k h).1,(My k h).2,Bf⟩
theorem Aql {x:Int}{k:Nat} (h:k≤5):Su x (2 ^ k - 1)=x % 2 ^ k:=by
 have a:=Au9 h;unfold Su;rw[Ah4 _ _ h,Jl]
 ·have:=Ro x (show (2:Int) ^ k≠0 from Aa);omega
 ·have:=Rq x (show (0:Int)<2 ^ k from Aa);omega
theorem A6g {a b:Stm} (c:Aop a) (d:Aop b) {back:Int} (s:0≤back) (t:back≤32) {k:Nat} (g:k≤5):Qo a b back (2 ^ k)=some (tb (Uq a b back (2 ^ k))):=by
 obtain⟨x,y,p⟩:=Au9 g;unfold Qo
 have step:∀ i:Nat,0≤i→i<2 ^ k→(¬((a.sp * i+a.pl) % 2 ^ k=(b.sp * (i+back)+b.pl) % 2 ^ k)→Jp a b back (2 ^ k) i=some (.next ((i:Int)+1)))∧(¬¬((a.sp * i+a.pl) % 2 ^ k=(b.sp * (i+back)+b.pl) % 2 ^ k)→Jp a b back (2 ^ k) i=some (.ret true)):=fun i _ hi=>by
  have m:(i:Int)<2 ^ k:=Aa;have v:=Sr c.1 c.2.1 (show (0:Int)≤i from Aa) (show (i:Int)≤64 from Aa);have w:=Sr d.1 d.2.1 (show (0:Int)≤i+back from Aa) (show (i:Int)+back≤64 from Aa);obtain⟨_,_,a3,a4⟩:=c;obtain⟨_,_,q,r⟩:=d
  have o:((a.sp * i+a.pl) % 2 ^ k=(b.sp * (i+back)+b.pl) % 2 ^ k)↔(a.sp * i+a.pl - b.sp * (i+back) - b.pl) % 2 ^ k=0:=by
   rw[Int.emod_eq_emod_iff_emod_sub_eq_zero,Int.sub_sub]
  have e:Jp a b back (2 ^ k) i=br ((a.sp * i+a.pl - b.sp * (i+back) - b.pl) % 2 ^ k==0) (some (.ret true)) (some (.next ((i:Int)+1))):=by
   unfold Jp;rw[Ck m,Ay Aa Aa,Ay Aa Aa,Ay Aa Aa,Ay Aa Aa,Ay Aa Aa,Ay Aa Aa,Ay Aa Aa,Aql g,Ay Aa Aa]
  rw[e,o];exact⟨fun h=>by rw[show ((a.sp * i+a.pl - b.sp * (i+back) - b.pl) % 2 ^ k==0)=Az from by simpa using h];rfl,fun h=>by rw[show ((a.sp * i+a.pl - b.sp * (i+back) - b.pl) % 2 ^ k==0)=true from by simpa using h];rfl⟩
 rcases Tl (f:=Jp a b back (2 ^ k)) (n:=2 ^ k) (fun _=>true) (2 ^ k) 0 Aa step (by unfold Jp;rw[p];exact Cn Aa) with ⟨h,e⟩ | ⟨i,_,u,j,_,e⟩
 ·rw[show (((0:Nat)):Int)=0 from rfl] at e
  rw[e,bd_ret,Out.on_go,C3];rintro⟨i,hi,l⟩;exact h i Aa Aa l
 ·rw[show (((0:Nat)):Int)=0 from rfl] at e
  rw[e,bd_ret,Out.on_ret,Dz ⟨i,Aa,P5.1 j⟩]
theorem A2m {a b:Stm} (c:Aop a) (d:Aop b) {back:Int} (r:0≤back) (s:back≤32) {k:Nat} (m:k≤5):S7 a b back (2 ^ k)=some (tb (Uq a b back (2 ^ k))):=by
 obtain⟨w,x,o⟩:=Au9 m;unfold S7
 have step:∀ i:Nat,0≤i→i<2 ^ k→(¬((a.sp * i+a.pl) % 2 ^ k=(b.sp * (i+back)+b.pl) % 2 ^ k)→Ml a b back (2 ^ k) i=some (.next ((i:Int)+1)))∧(¬¬((a.sp * i+a.pl) % 2 ^ k=(b.sp * (i+back)+b.pl) % 2 ^ k)→Ml a b back (2 ^ k) i=some (.ret true)):=fun i _ hi=>by
  have l:(i:Int)<2 ^ k:=Aa;have u:=Sr c.1 c.2.1 (show (0:Int)≤i from Aa) (show (i:Int)≤64 from Aa);have v:=Sr d.1 d.2.1 (show (0:Int)≤i+back from Aa) (show (i:Int)+back≤64 from Aa);obtain⟨_,_,a3,a4⟩:=c;obtain⟨_,_,p,q⟩:=d
  have e:Ml a b back (2 ^ k) i=br ((a.sp * i+a.pl) % 2 ^ k==(b.sp * (i+back)+b.pl) % 2 ^ k) (some (.ret true)) (some (.next ((i:Int)+1))):=by
   unfold Ml;rw[Ck l,Ay Aa Aa,Ay Aa Aa,Aze _ _ Aa Aa,bd_ret,Ay Aa Aa,Ay Aa Aa,Ay Aa Aa,Aze _ _ Aa Aa,bd_ret,Ay Aa Aa]
  rw[e];exact⟨fun h=>by rw[Xr.2 h];rfl,fun h=>by rw[Dk.2 (P5.1 h)];rfl⟩
 rcases Tl (f:=Ml a b back (2 ^ k)) (n:=2 ^ k) (fun _=>true) (2 ^ k) 0 Aa step (by unfold Ml;rw[o];exact Cn Aa) with ⟨h,e⟩ | ⟨i,_,t,g,_,e⟩
 ·rw[show (((0:Nat)):Int)=0 from rfl] at e
  rw[e,bd_ret,Out.on_go,C3];rintro⟨i,hi,j⟩;exact h i Aa Aa j
 ·rw[show (((0:Nat)):Int)=0 from rfl] at e
  rw[e,bd_ret,Out.on_ret,Dz ⟨i,Aa,P5.1 g⟩]
def Aev (s:Stm):Prop:=s.op=3∨s.op=4
def G9 (fr tO:Int):Int:=if fr≥tO then 1 else 0
def L8 (l:Lp) (a:Stm):Int:=2 ^ (ele l.logs a.ar).toNat
def Aqu (l:Lp) (fr tO:Int):Prop:=Aev (ele l.body fr)∧Aev (ele l.body tO)∧(ele l.body fr).ar=(ele l.body tO).ar∧((ele l.body fr).op=4∨(ele l.body tO).op=4)
structure MemE (l:Lp) (f u:Int) (e:Edg):Prop where
 c:Aqu l f u
 fr:e.fr=f
 tO:e.tO=u
 wt:e.wt=if (ele l.body f).op=4 then 1 else 0
 lo:G9 f u≤e.bk
 hi:e.bk≤L8 l (ele l.body f)
 meet:Uq (ele l.body f) (ele l.body u) e.bk (L8 l (ele l.body f))
 first:∀ k:Int,G9 f u≤k→k<e.bk→¬Uq (ele l.body f) (ele l.body u) k (L8 l (ele l.body f))
theorem MemE.one {l:Lp}{fr tO:Int}{e e':Edg} (h:MemE l fr tO e) (a:MemE l fr tO e'):e=e':=by
 have g:e.bk=e'.bk:=by
  rcases Int.lt_trichotomy e.bk e'.bk with b | b | b
  ·exact absurd h.meet (a.first _ h.lo b)
  ·exact b
  ·exact absurd a.meet (h.first _ a.lo b)
 have c:=h.fr.trans a.fr.symm;have d:=h.tO.trans a.tO.symm;have f:=h.wt.trans a.wt.symm
 cases e;cases e'
 simp only[Edg.mk.injEq];exact⟨c,d,g,f⟩
theorem U6 {l:Lp} (c:LoopOk l) {i:Nat} (hi:i<l.body.length) (h:Aev (ele l.body (i:Int))):Aop (ele l.body (i:Int))∧IX (ele l.body (i:Int)).ar (ln l.logs)∧0≤ele l.logs (ele l.body (i:Int)).ar∧ele l.logs (ele l.body (i:Int)).ar≤5:=by
 obtain⟨_,_,b⟩:=c.stm i hi;rw[show l.body.getD i Stm.zero=ele l.body (i:Int) from rfl] at b;generalize ele l.body (i:Int)=s at b h
 have e:Lr l.logs.length s:=by
  unfold Aev at h
  rcases b with a | a | a | a | a <;> first | exact a.2.2.1 | omega
 obtain⟨w1,w2,f⟩:=e;have d:=c.log s.ar.toNat Aa;exact⟨f,⟨w1,by unfold ln;omega⟩,d⟩
theorem Ad8 (fr tO:Int):0≤G9 fr tO∧G9 fr tO≤1:=by unfold G9;split <;> omega
theorem boolC {l:Lp}{fr tO:Int}:((((!((ele l.body fr).op==3 || (ele l.body fr).op==4)) || (!(if ((ele l.body fr).op==3 || (ele l.body fr).op==4)=true then ((ele l.body tO).op==3 || (ele l.body tO).op==4) else Az))) || ((ele l.body fr).ar != (ele l.body tO).ar)) || (((ele l.body fr).op==3)&&((ele l.body tO).op==3)))=!tb (Aqu l fr tO):=by
 unfold Aqu;generalize ele l.body fr=a;generalize ele l.body tO=b
 have:(!((((!(a.op==3 || a.op==4)) || (!(if (a.op==3 || a.op==4)=true then (b.op==3 || b.op==4) else Az))) || (a.ar != b.ar)) || ((a.op==3)&&(b.op==3))))=tb (Aev a∧Aev b∧a.ar=b.ar∧(a.op=4∨b.op=4)):=by
  refine L6 ?_;unfold Aev;by_cases c:a.op=3 <;> by_cases d:a.op=4 <;> by_cases e:b.op=3 <;> by_cases f:b.op=4 <;> by_cases g:a.ar=b.ar <;> simp_all
 rw[←this,Adc]
theorem A0j {l:Lp} (o:LoopOk l) {fr tO:Nat} (t:fr<l.body.length) (u:tO<l.body.length):∃ r,Py l fr tO=some r∧((r.2=true∧MemE l fr tO r.1)∨(r.2=Az∧∀ e,¬MemE l fr tO e)):=by
 unfold Py Q8;rw[A8 Aa (by unfold ln;omega),A8 Aa (by unfold ln;omega),bd_ret];simp only[O4,Adc];rw[boolC];by_cases d:Aqu l fr tO
 ·rw[Dz d,F9,br_false,Atm,bd_ret,Out.on_go,Atm,bd_ret,Out.on_go]
  obtain⟨F,H,g1,s⟩:=U6 o t d.1;obtain⟨G,_,_,_⟩:=U6 o u d.2.1;have m:(ele l.logs (ele l.body (fr:Int)).ar).toNat≤5:=Aa;obtain⟨P,Q,R⟩:=Au9 m;have j:shlD 1 (ele l.logs (ele l.body (fr:Int)).ar)=L8 l (ele l.body (fr:Int)):=Afr _ g1 s;have x:L8 l (ele l.body (fr:Int))=2 ^ (ele l.logs (ele l.body (fr:Int)).ar).toNat:=rfl;rw[Ax H,Ax g1]
  have C:(if Ap ((fr:Int)≥tO)=true then (1:Int) else 0)=G9 fr tO:=by unfold G9;simp
  have E:(if ((ele l.body (fr:Int)).op==4)=true then (1:Int) else 0)=if (ele l.body (fr:Int)).op=4 then 1 else 0:=Bf
  rw[C,E];have M:=Ad8 fr tO;generalize hW:(if (ele l.body (fr:Int)).op=4 then (1:Int) else 0)=W;have p:∀ k:Int,0≤k→k≤32→Qo (ele l.body (fr:Int)) (ele l.body (tO:Int)) k (L8 l (ele l.body (fr:Int)))=some (tb (Uq (ele l.body (fr:Int)) (ele l.body (tO:Int)) k (L8 l (ele l.body (fr:Int))))):=fun k a b=>A6g F G a b m;generalize hSS:L8 l (ele l.body (fr:Int))=Sz at p x j;have O:((Sz.toNat:Nat):Int)=Sz:=Aa
  have step:∀ i:Nat,(G9 fr tO).toNat≤i→i<Sz.toNat+1→(¬Uq (ele l.body (fr:Int)) (ele l.body (tO:Int)) i Sz→G3 l fr tO W i=some (.next ((i:Int)+1)))∧(¬¬Uq (ele l.body (fr:Int)) (ele l.body (tO:Int)) i Sz→G3 l fr tO W i=some (.ret (Edg.mk fr tO i W,true))):=fun i _ hi=>by
   have e:G3 l fr tO W i=br (tb (Uq (ele l.body (fr:Int)) (ele l.body (tO:Int)) i Sz)) (some (.ret (Edg.mk fr tO i W,true))) (some (.next ((i:Int)+1))):=by
    unfold G3;rw[j,Ck Aa,p i Aa Aa,bd_ret,Ay Aa Aa]
   rw[e];exact⟨fun h=>by rw[C3 h];rfl,fun h=>by rw[Dz (P5.1 h)];rfl⟩
  rcases Tl (f:=G3 l fr tO W) (n:=Sz.toNat+1) (fun i=>(Edg.mk fr tO i W,true)) (Sz.toNat+1 - (G9 fr tO).toNat) (G9 fr tO).toNat Aa step (by unfold G3;rw[j];exact Cn Aa) with ⟨h,e⟩ | ⟨i,I,J,v,w,e⟩
  ·rw[show (((G9 fr tO).toNat:Nat):Int)=G9 fr tO from Aa] at e
   rw[e,bd_ret,Out.on_go];refine⟨_,rfl,.inr ⟨rfl,fun e g=>?_⟩⟩;have N:=g.lo;have z:=g.hi;have q:=g.meet;rw[hSS] at z q;have y:((e.bk.toNat:Nat):Int)=e.bk:=Aa;refine h e.bk.toNat Aa Aa ?_;rw[y];exact q
  ·rw[show (((G9 fr tO).toNat:Nat):Int)=G9 fr tO from Aa] at e
   rw[e,bd_ret,Out.on_ret];refine⟨_,rfl,.inl ⟨rfl,⟨d,rfl,rfl,hW.symm,by show G9 fr tO≤(i:Int);omega,by rw[hSS];show (i:Int)≤Sz;omega,by rw[hSS];exact P5.1 v,fun k K A=>?_⟩⟩⟩;rw[hSS];have L:k<(i:Int):=A;have B:((k.toNat:Nat):Int)=k:=Aa;have:=w k.toNat Aa Aa;rwa [B] at this
 ·rw[C3 d,Kc,br_true]
  exact⟨_,rfl,.inr ⟨rfl,fun e g=>d g.c⟩⟩
def UseE (l:Lp) (t:Tgt) (tO:Int) (e:Edg):Prop:=∃ r∈Bm (ele l.body tO),e=⟨r.st,tO,r.bk,Fb t (ele l.body r.st).op⟩
theorem Ab6 {l:Lp} (e:LoopOk l) {i:Nat} (hi:i<l.body.length) {r:Rf} (a:r∈Bm (ele l.body (i:Int))):RefOk l.body.length i r:=by
 obtain⟨b,c,d⟩:=e.stm i hi;rw[show l.body.getD i Stm.zero=ele l.body (i:Int) from rfl] at b c d;generalize ele l.body (i:Int)=s at b c d a;unfold Bm at a;split at a
 ·simp only[G7] at a;subst a;exact b (.inl ‹_›)
 ·split at a
  ·simp only[Gw,Agz,or_false] at a
   rcases a with rfl | rfl
   ·exact b (.inr ‹_›)
   ·exact c ‹_›
  ·cases a
theorem RefOk.st {n k:Int}{r:Rf} (h:RefOk n k r) (c:k≤n):0≤r.st∧r.st<n:=by
 obtain⟨b,a2,a3,a4,a5⟩:=h;refine⟨a3,?_⟩;by_cases a:r.bk=0
 ·have:=a4 a;omega
 ·exact a5 a
def EdgeP (l:Lp) (t:Tgt) (e:Edg):Prop:=∃ tO:Nat,tO<l.body.length∧(UseE l t tO e∨∃ fr:Nat,fr<l.body.length∧MemE l fr tO e)
structure EdgeIn (n:Int) (e:Edg):Prop where
 fr:0≤e.fr∧e.fr<n
 tO:0≤e.tO∧e.tO<n
 bk:0≤e.bk∧e.bk≤32
 wt:0≤e.wt∧e.wt≤6
 Aez:e.bk=0→e.fr<e.tO
theorem MemE.in {l:Lp} (d:LoopOk l) {fr tO:Nat} (b:fr<l.body.length) (j:tO<l.body.length) {e:Edg} (h:MemE l fr tO e):EdgeIn l.body.length e:=by
 obtain⟨o,s,g1,g⟩:=U6 d b h.c.1;obtain⟨p,q,r⟩:=Au9 (show (ele l.logs (ele l.body (fr:Int)).ar).toNat≤5 from Aa);have a:=h.lo;have m:=h.hi;have n:=Ad8 fr tO;have k:L8 l (ele l.body (fr:Int))=2 ^ (ele l.logs (ele l.body (fr:Int)).ar).toNat:=rfl;have f:=h.wt;refine⟨by rw[h.fr];omega,by rw[h.tO];omega,Aa,by split at f <;> omega,fun i=>?_⟩;rw[h.fr,h.tO];unfold G9 at a;split at a <;> omega
theorem UseE.in {l:Lp} (f:LoopOk l) {t:Tgt}{tO:Nat} (d:tO<l.body.length) {e:Edg} (h:UseE l t tO e):EdgeIn l.body.length e:=by
 obtain⟨r,g,rfl⟩:=h;have a:=Ab6 f d g;have i:=a.st Aa;obtain⟨b,a2,a3,a4,a5⟩:=a;have j:=Ur t (ele l.body r.st).op;exact⟨i,⟨by show (0:Int)≤tO;omega,by show (tO:Int)<_;omega⟩,⟨b,by show r.bk≤32;omega⟩,j,fun c=>a4 c⟩
theorem EdgeP.in {l:Lp} (c:LoopOk l) {t:Tgt}{e:Edg} (h:EdgeP l t e):EdgeIn l.body.length e:=by
 obtain⟨tO,b,a | ⟨fr,a,d⟩⟩:=h
 ·exact a.in c b
 ·exact d.in c a b
def cmpV (x y:Int):Int:=if x<y then -1 else if y<x then 1 else 0
theorem cmp_s (x y:Int):E3 x y=some (cmpV x y):=by
 unfold E3 Kl cmpV;simp only[bd_ret,Aq3,br_false,Aaa,Ij];by_cases h:x<y
 ·simp[h]
 ·by_cases a:y<x
  ·simp[h,a]
  ·simp[h,a]
theorem or_s (a b c d:Int):Od [a,b,c,d]=some (if a≠0 then a else if b≠0 then b else if c≠0 then c else d):=by
 unfold Od
 have st:∀ (i:Nat) (v:Int),i<4→ele [a,b,c,d] (i:Int)=v→E0 [a,b,c,d] i=br (v != 0) (some (.ret v)) (some (.next ((i+1:Nat):Int))):=fun i v hi f=>by
  unfold E0;rw[Ck (by show (i:Int)<4;omega),A8 Aa (by show (i:Int)<4;omega),f,Ay Aa Aa];rfl
 have o:=st 0 a Aa rfl;have p:=st 1 b Aa rfl;have q:=st 2 c Aa rfl;have s:=st 3 d Aa rfl
 have t:E0 [a,b,c,d] 4=some (.brk 4):=by unfold E0;exact Cn (by show ¬((4:Int)<4);omega)
 have key:∀ (i:Nat) (v:Int) (r:Option (Out Int Int)),E0 [a,b,c,d] i=br (v != 0) (some (.ret v)) (some (.next ((i+1:Nat):Int)))→lp (E0 [a,b,c,d]) ((i+1:Nat):Int)=r→lp (E0 [a,b,c,d]) i=if v≠0 then some (.ret v) else r:=fun i v r g m=>by
  by_cases f:v=0
  ·subst f
   simp only[Aq3,br_false] at g;rw[Ly g,m];rfl
  ·rw[show (v != 0)=true from by simpa using f,br_true] at g
   rw[Hw g,Bj f]
 have n:lp (E0 [a,b,c,d]) ((3+1:Nat):Int)=some (.go 4):=Db t;have k:=key 0 a _ o (key 1 b _ p (key 2 c _ q (key 3 d _ s n)));rw[show ((0:Nat):Int)=0 from rfl] at k;rw[k];by_cases e:a=0
 ·by_cases h:b=0
  ·by_cases j:c=0
   ·by_cases l:d=0
    ·simp[e,h,j,l]
    ·simp[e,h,j,l]
   ·simp[e,h,j]
  ·simp[e,h]
 ·simp[e]
theorem A2o (a b:Edg):Tq a b=some (Afj a b):=by
 unfold Tq;simp only[cmp_s,bd_ret,or_s];congr 1;unfold cmpV Afj;by_cases c:a.fr<b.fr
 ·simp[c]
 by_cases d:b.fr<a.fr
 ·simp[c,d]
 by_cases e:a.tO<b.tO
 ·simp[c,d,e]
 by_cases f:b.tO<a.tO
 ·simp[c,d,e,f]
 by_cases g:a.bk<b.bk
 ·simp[c,d,e,f,g]
 by_cases h:b.bk<a.bk
 ·simp[c,d,e,f,g,h]
 simp[c,d,e,f,g,h]
theorem Ey {a b:Edg}:Afj a b<0↔a.fr<b.fr∨(a.fr=b.fr∧(a.tO<b.tO∨(a.tO=b.tO∧(a.bk<b.bk∨(a.bk=b.bk∧a.wt<b.wt))))):=by
 unfold Afj
 repeat' split
 all_goals omega
end Go.Rd
end