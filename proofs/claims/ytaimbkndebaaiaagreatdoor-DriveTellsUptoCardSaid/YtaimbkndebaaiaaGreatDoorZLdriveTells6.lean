/- Texts for the law, 6. -/
import Derived.Test.YtaimbkndebaaiaaGreatDoorZLdriveTells5
import Derived.Test.YtaimbkndebaaiaaGreatDoorProg
import Derived.Shelf.LaysM
import Derived.KernelRfl
import Derived.Shelf.LaysC
set_option linter.unusedVariables false
set_option linter.unusedSimpArgs false
set_option maxRecDepth 8000
set_option linter.defProp false
open Go renaming World→Ak,Value→Al
open Decidable renaming decide→Ap
open Bool renaming false→Az
open Go.Value renaming cells→Ea
section
namespace Go.Rd
noncomputable def Dd (d:List (List UInt8)):(Int×Int×Int×Int×Int×Int×Int×(List UInt8)×(List UInt8)×Int)→Option (Stp (Int×Int×Int×Int×Int×Int×Int×(List UInt8)×(List UInt8)×Int) (Empty)):=fun (e,f,g,h,i,j,k,l,c,b) =>
 br ((Ap (b<(ln d)))&&(Ap (b<60))) (
 ck (IX b (ln d)) <|
 bd (Dc (Tgt.mk e f g h i j k) l (ele d b)) fun a =>
 ck (SL (c++a.1)) <|
 ck (SL ((c++a.1)++[10])) <|
 ck (IR (b+1)) <|
 some (.next (a.2.1.u0,a.2.1.u1,a.2.1.u2,a.2.1.w0,a.2.1.w1,a.2.1.w2,a.2.1.regs,a.2.2,((c++a.1)++[10]),(b+1)))) (
 some (.brk (e,f,g,h,i,j,k,l,c,b)))
noncomputable def Gi (b:List UInt8):Option (Bool) :=
 bd (Gt b (10:UInt8)) fun a =>
 ck (IR ((ln a) - 1)) <|
 ck (IX ((ln a) - 1) (ln a)) <|
 bd (show Option (Out ((List (List UInt8))) (Empty)) from br ((ele a ((ln a) - 1))==[]) (
 ck (IR ((ln a) - 1)) <|
 ck (SX 0 ((ln a) - 1) (ln a)) <|
 some (.go (sub a 0 ((ln a) - 1)))) (
 some (.go a))) fun d=>d.on (fun c =>
 bd (lp (Dd c) (2,1,1,1,3,2,32,[],[],0)) fun e=>e.on (fun (h,i,j,k,l,m,n,o,f,p) =>
 bd (Px b) fun g =>
 some (g==f)) (fun r=>r.elim)) (fun r=>r.elim)
noncomputable def Rx (t:Tgt) (x s:List UInt8):List UInt8×Tgt×List UInt8:=(Ep t x s).getD ([],t,x)
noncomputable def Aoj:Tgt→List UInt8→List (List UInt8)→List UInt8
 | _,_,[]=>[]
 | t,x,s::r=>((Rx t x s).1++[10])++Aoj (Rx t x s).2.1 (Rx t x s).2.2 r
theorem Abd {t:Tgt} (d:Df t=true) {x s:List UInt8} (f:x.length+s.length≤1048576) :
  Ep t x s=some (Rx t x s)∧Dc t x s=some (Rx t x s)∧(Rx t x s).1.length≤2000∧Df (Rx t x s).2.1=true∧(Rx t x s).2.2.length≤x.length+s.length:=by
 obtain⟨r,a,b,c⟩:=Awi d f
 have e:Rx t x s=r:=by unfold Rx;rw[a];rfl
 rw[e];exact⟨a,b,c⟩
def tot (L:List (List UInt8)):Nat:=(L.map List.length).sum
theorem Acj (s:List UInt8) (r:List (List UInt8)):tot (s::r)=s.length+tot r:=by simp[tot]
theorem A2c (u v:List (List UInt8)):tot (u++v)=tot u+tot v:=by simp[tot]
theorem Atx (c:UInt8):∀ s:List UInt8,tot (spl c s)≤s.length
 | []=>by simp[spl,tot]
 | x::r=>by
  have b:=Atx c r;unfold spl;split
  ·rw[Acj];simp only[Ef,E6];omega
  ·cases h:spl c r with
   | nil=>simp[tot]
   | cons a t=>rw[h,Acj] at b;simp only;rw[Acj];simp only[Ef];omega
theorem Ahm (n:Nat) (L:List (List UInt8)):tot (L.take n)≤tot L:=by
 have:=A2c (L.take n) (L.drop n);rw[Lu] at this;omega
theorem Auf {γ:Type}{F:γ→Option (Stp γ Empty)}{st:Tgt→List UInt8→List UInt8→Nat→γ} (V:List (List UInt8)) (u:V.length≤60)
  (step:∀ (i:Nat) t x out,i<V.length→Df t=true→x.length+(ele V (i:Int)).length≤1048576→out.length≤200000→F (st t x out i)=some (.next (st (Rx t x (ele V (i:Int))).2.1 (Rx t x (ele V (i:Int))).2.2 (out++((Rx t x (ele V (i:Int))).1++[10])) (i+1))))
  (n:∀ t x out,F (st t x out V.length)=some (.brk (st t x out V.length))) :
  ∀ (r:List (List UInt8)) (i:Nat) (t:Tgt) (x out:List UInt8),V.drop i=r→i+r.length=V.length→Df t=true→x.length+tot r≤1048576→out.length≤2001 * i→∃ c d,lp F (st t x out i)=some (.go (st c d (out++Aoj t x r) V.length)):=by
 intro r
 induction r with
 | nil =>
  intro i t x out f a b k o
  obtain rfl:i=V.length:=by simpa using a
  exact⟨t,x,by rw[Db (n t x out),Aoj,N2]⟩
 | cons s r p =>
  intro i t x out f a b k o;simp only[Ef] at a;rw[Acj] at k;have j:i<V.length:=Aa;have g:=Zq j;rw[f] at g
  injection g with h m
  have l:=step i t x out j b (by rw[←h];omega) Aa;rw[←h] at l;obtain⟨_,_,v,q,w⟩:=Abd b (x:=x) (s:=s) Aa;obtain⟨c,d,e⟩:=p (i+1) (Rx t x s).2.1 (Rx t x s).2.2 (out++((Rx t x s).1++[10])) m.symm Aa q Aa (by simp only[Ca,Ef,E6];omega);exact⟨c,d,by rw[B4 l e,Aoj,G6]⟩
def A1o:Tgt:=⟨2,1,1,1,3,2,32⟩
theorem Aty:Df A1o=true:=Ah
def Hj (s:List UInt8):List (List UInt8):=if ele (spl 10 s) (ln (spl 10 s) - 1)=[] then (spl 10 s).dropLast else spl 10 s
theorem Aim (s:List UInt8):tot (Hj s)≤s.length:=by
 have h:=Atx 10 s;unfold Hj;split
 ·rw[List.dropLast_eq_take]
  exact Nl (Ahm _ _) h
 ·exact h
theorem Aza {s:List UInt8} (hs:s.length≤1048576):(br ((ele (spl 10 s) ((ln (spl 10 s)) - 1))==[]) (ck (IR ((ln (spl 10 s)) - 1))<|ck (SX 0 ((ln (spl 10 s)) - 1) (ln (spl 10 s)))<|some (.go (sub (spl 10 s) 0 ((ln (spl 10 s)) - 1)))) (some (.go (spl 10 s))):Option (Out (List (List UInt8)) Empty))=some (.go (Hj s)):=by
 obtain⟨n,b,c,d,e,a,f⟩:=U2 hs;unfold Hj;by_cases h:ele (spl 10 s) (ln (spl 10 s) - 1)=[]
 ·rw[Bj h,h,show (([]:List UInt8)==[])=true from rfl,br_true,a,Ax ⟨Aa,Aa⟩,Ax ⟨Fo _,Aa,Aa⟩]
 ·rw[Bg h,Xe h,br_false]
theorem Ayh {L:List (List UInt8)}:sub L 0 (min (ln L) 60)=L.take 60:=by
 unfold Rd.sub;rw[Ao];simp only[Int.toNat_zero,Ali];by_cases h:L.length≤60
 ·rw[show (min (L.length:Int) 60 - 0).toNat=L.length from Aa,W9 (Co _),W9 h]
 ·rw[show (min (L.length:Int) 60 - 0).toNat=60 from Aa]
theorem Awt {L:List (List UInt8)}{n i:Nat} (h:i<(L.take n).length):ele (L.take n) (i:Int)=ele L (i:Int):=by
 rw[I8] at h;rw[Dj,Dj,Ec,Ec,Rp,Bj Aa]
theorem A35 {s:List UInt8} (hs:s.length≤1048576):Px s=some (Aoj A1o [] ((Hj s).take 60)):=by
 obtain⟨n,d,f,g,h,j,k⟩:=U2 hs;unfold Px;rw[Af3 _ Aa,bd_ret,Ax ⟨Aa,Aa⟩,Ax ⟨Aa,Aa⟩];rw[Aza hs,bd_ret,Out.on_go,Ax ⟨Fo _,by rw[Ao];omega,by rw[Ao];omega⟩];have m:=Nl (Ahm 60 (Hj s)) (Aim s)
 have a:((Hj s).take 60).length≤60:=by rw[I8];omega
 have key:=Auf (F:=J9 (Hj s)) (st:=fun t x out i=>(t.u0,t.u1,t.u2,t.w0,t.w1,t.w2,t.regs,x,out,(i:Int))) ((Hj s).take 60) a (fun i t x out hi b c l=>by
   obtain⟨q,_,o,p,r⟩:=Abd b (x:=x) (s:=ele ((Hj s).take 60) (i:Int)) c;unfold J9;simp only
   rw[Ayh,Ck (by rw[Ao];omega),A8 Aa (by rw[Ao];omega),show Ep (Tgt.mk t.u0 t.u1 t.u2 t.w0 t.w1 t.w2 t.regs) x (ele ((Hj s).take 60) (i:Int))=_ from q,bd_ret,
    Ax (Qz (by simp only[Ca,Ef,E6];omega)),Ax (Qz (by simp only[Ca,Ef,E6];omega)),Ay Aa Aa]
   rfl) (fun t x out=>by
   unfold J9;simp only
   rw[Ayh,Cn (by rw[Ao];omega)]) ((Hj s).take 60) 0 A1o [] [] rfl Aa Aty (by simp only[E6];omega) Bf
 obtain⟨u,v,e⟩:=key;rw[show lp (J9 (Hj s)) (2,1,1,1,3,2,32,[],[],0)=_ from e,bd_ret,Out.on_go];simp
theorem Afp (s:List UInt8) (hs:s.length≤1048576):Gi s=some true:=by
 obtain⟨n,f,g,h,j,k,l⟩:=U2 hs;unfold Gi;rw[Aph _ Aa,bd_ret,Ax ⟨Aa,Aa⟩,Ax ⟨Aa,Aa⟩];rw[Aza hs,bd_ret,Out.on_go];have o:=Nl (Ahm 60 (Hj s)) (Aim s)
 have a:((Hj s).take 60).length≤60:=by rw[I8];omega
 have key:=Auf (F:=Dd (Hj s)) (st:=fun t x out i=>(t.u0,t.u1,t.u2,t.w0,t.w1,t.w2,t.regs,x,out,(i:Int))) ((Hj s).take 60) a (fun i t x out hi b c m=>by
   have el:=Awt hi;obtain⟨_,q,d,p,r⟩:=Abd b (x:=x) (s:=ele ((Hj s).take 60) (i:Int)) c;rw[el] at q d ⊢;rw[I8] at hi;unfold Dd;simp only
   rw[Ls (show (i:Int)<ln (Hj s) by rw[Ao];omega),Ls (show (i:Int)<60 from Aa),Adf,br_true,A8 Aa (by rw[Ao];omega),show Dc (Tgt.mk t.u0 t.u1 t.u2 t.w0 t.w1 t.w2 t.regs) x (ele (Hj s) (i:Int))=_ from q,bd_ret,
    Ax (Qz (by simp only[Ca];omega)),Ax (Qz (by simp only[Ca,Ef,E6];omega)),Ay Aa Aa,G6]
   rfl) (fun t x out=>by
   have:(Ap ((((Hj s).take 60).length:Int)<ln (Hj s))&&Ap ((((Hj s).take 60).length:Int)<60))=Az:=by
    rw[I8,Ao,Z4,Hs,Hs];omega
   unfold Dd;simp only
   rw[this,br_false]) ((Hj s).take 60) 0 A1o [] [] rfl Aa Aty (by simp only[E6];omega) Bf
 obtain⟨u,v,e⟩:=key;rw[show lp (Dd (Hj s)) (2,1,1,1,3,2,32,[],[],0)=_ from e,bd_ret,Out.on_go];simp only;rw[A35 hs,bd_ret];simp
end Go.Rd
end
section
namespace Go.Proofs.YtaimbkndebaaiaaGreatDoor
open Go.Rd
namespace TLib
end TLib
open TLib
def lren:Go.Shelf.Ren:=⟨fun n=>match n with | 129=>107 | 157=>142 | 171=>50 | 173=>48 | 199=>170 | 229=>169 | 243=>90 | 246=>87 | 261=>180 | 283=>132 | 284=>133 | 285=>134 | 286=>135 | 311=>183 | 312=>184 | 317=>162 | 318=>163 | 319=>164 | 320=>165 | 337=>176 | 338=>177 | n=>n,fun n=>match n with | 31=>22 | 37=>74 | 40=>258 | 46=>131 | 49=>284 | 51=>191 | 53=>193 | 119=>243 | 141=>276 | 152=>272 | 154=>274 | 171=>216 | 173=>218 | 193=>280 | 194=>281 | 196=>283 | 198=>286 | 201=>289 | 212=>250 | 213=>251 | 226=>291 | 227=>292 | 232=>278 | 233=>279 | n=>n,fun n=>match n with | 0=>6 | 6=>7 | 17=>3 | 18=>8 | 19=>9 | n=>n⟩
theorem lay_171:Go.Proofs.LaysM.n171 Tryz.prog lren where
  mixed:=Ag
  f129:=Tryz.func107.trans (congrArg some Ag)
  f171:=Tryz.func50.trans (congrArg some Ag)
  f243:=Tryz.func90.trans (congrArg some Ag)
  f246:=Tryz.func87.trans (congrArg some Ag)
  f283:=Tryz.func132.trans (congrArg some Ag)
  f284:=Tryz.func133.trans (congrArg some Ag)
  f285:=Tryz.func134.trans (congrArg some Ag)
  f286:=Tryz.func135.trans (congrArg some Ag)
  f317:=Tryz.func162.trans (congrArg some Ag)
  f318:=Tryz.func163.trans (congrArg some Ag)
  f319:=Tryz.func164.trans (congrArg some Ag)
  f320:=Tryz.func165.trans (congrArg some Ag)
  f337:=Tryz.func176.trans (congrArg some Ag)
  f338:=Tryz.func177.trans (congrArg some Ag)
  t0:=Tryz.underlying0
  a0:=Tryz.isAgg0
  z0:=Tryz.sizeOf0
  v0:=Tryz.zeroValue0
  t2:=Tryz.underlying2
  a2:=Tryz.isAgg2
  z2:=Tryz.sizeOf2
  v2:=Tryz.zeroValue2
  t3:=Tryz.underlying3
  a3:=Tryz.isAgg3
  z3:=Tryz.sizeOf3
  v3:=Tryz.zeroValue3
  t4:=Tryz.underlying4
  a4:=Tryz.isAgg4
  z4:=Tryz.sizeOf4
  v4:=Tryz.zeroValue4
  t5:=Tryz.underlying5
  a5:=Tryz.isAgg5
  z5:=Tryz.sizeOf5
  v5:=Tryz.zeroValue5
  t9:=Tryz.underlying9
  a9:=Tryz.isAgg9
  z9:=Tryz.sizeOf9
  v9:=Tryz.zeroValue9
  t20:=Tryz.underlying20
  a20:=Tryz.isAgg20
  z20:=Tryz.sizeOf20
  v20:=Tryz.zeroValue20
  t37:=Tryz.underlying74
  a37:=Tryz.isAgg74
  z37:=Tryz.sizeOf74
  v37:=Tryz.zeroValue74
  t46:=Tryz.underlying131
  a46:=Tryz.isAgg131
  z46:=Tryz.sizeOf131
  v46:=Tryz.zeroValue131
  t51:=Tryz.underlying191
  a51:=Tryz.isAgg191
  z51:=Tryz.sizeOf191
  v51:=Tryz.zeroValue191
  t53:=Tryz.underlying193
  a53:=Tryz.isAgg193
  z53:=Tryz.sizeOf193
  v53:=Tryz.zeroValue193
  t171:=Tryz.underlying216
  a171:=Tryz.isAgg216
  z171:=Tryz.sizeOf216
  v171:=Tryz.zeroValue216
  t173:=Tryz.underlying218
  a173:=Tryz.isAgg218
  z173:=Tryz.sizeOf218
  v173:=Tryz.zeroValue218
  t212:=Tryz.underlying250
  a212:=Tryz.isAgg250
  z212:=Tryz.sizeOf250
  v212:=Tryz.zeroValue250
  t213:=Tryz.underlying251
  a213:=Tryz.isAgg251
  z213:=Tryz.sizeOf251
  t232:=Tryz.underlying278
  a232:=Tryz.isAgg278
  z232:=Tryz.sizeOf278
  v232:=Tryz.zeroValue278
  t233:=Tryz.underlying279
  a233:=Tryz.isAgg279
  z233:=Tryz.sizeOf279
  v233:=Tryz.zeroValue279
  g17:=Ag
  g18:=Ag
  g19:=Ag
  i0:=Ag
  i2:=Ag
  i3:=Ag
  i4:=Ag
  i5:=Ag
  i9:=Ag
  i20:=Ag
  i37:=Ag
  i46:=Ag
  i51:=Ag
  i53:=Ag
  i171:=Ag
  i173:=Ag
  i212:=Ag
  i232:=Ag
  i233:=Ag
  m17:=Ag
  m18:=Ag
  m19:=Ag
theorem A22:Go.Proofs.LaysM.n173 Tryz.prog lren where
  mixed:=Ag
  f129:=lay_171.f129
  f173:=Tryz.func48.trans (congrArg some Ag)
  f246:=lay_171.f246
  f283:=lay_171.f283
  f284:=lay_171.f284
  f285:=lay_171.f285
  f286:=lay_171.f286
  f317:=lay_171.f317
  f318:=lay_171.f318
  f319:=lay_171.f319
  f320:=lay_171.f320
  f337:=lay_171.f337
  f338:=lay_171.f338
  t0:=Tryz.underlying0
  a0:=Tryz.isAgg0
  z0:=Tryz.sizeOf0
  v0:=Tryz.zeroValue0
  t2:=Tryz.underlying2
  a2:=Tryz.isAgg2
  z2:=Tryz.sizeOf2
  v2:=Tryz.zeroValue2
  t3:=Tryz.underlying3
  a3:=Tryz.isAgg3
  z3:=Tryz.sizeOf3
  v3:=Tryz.zeroValue3
  t4:=Tryz.underlying4
  a4:=Tryz.isAgg4
  z4:=Tryz.sizeOf4
  v4:=Tryz.zeroValue4
  t5:=Tryz.underlying5
  a5:=Tryz.isAgg5
  z5:=Tryz.sizeOf5
  v5:=Tryz.zeroValue5
  t9:=Tryz.underlying9
  a9:=Tryz.isAgg9
  z9:=Tryz.sizeOf9
  v9:=Tryz.zeroValue9
  t20:=Tryz.underlying20
  a20:=Tryz.isAgg20
  z20:=Tryz.sizeOf20
  v20:=Tryz.zeroValue20
  t37:=Tryz.underlying74
  a37:=Tryz.isAgg74
  z37:=Tryz.sizeOf74
  v37:=Tryz.zeroValue74
  t46:=Tryz.underlying131
  a46:=Tryz.isAgg131
  z46:=Tryz.sizeOf131
  v46:=Tryz.zeroValue131
  t51:=Tryz.underlying191
  a51:=Tryz.isAgg191
  z51:=Tryz.sizeOf191
  v51:=Tryz.zeroValue191
  t53:=Tryz.underlying193
  a53:=Tryz.isAgg193
  z53:=Tryz.sizeOf193
  v53:=Tryz.zeroValue193
  t171:=Tryz.underlying216
  a171:=Tryz.isAgg216
  z171:=Tryz.sizeOf216
  v171:=Tryz.zeroValue216
  t173:=Tryz.underlying218
  a173:=Tryz.isAgg218
  z173:=Tryz.sizeOf218
  v173:=Tryz.zeroValue218
  t212:=Tryz.underlying250
  a212:=Tryz.isAgg250
  z212:=Tryz.sizeOf250
  v212:=Tryz.zeroValue250
  t213:=Tryz.underlying251
  a213:=Tryz.isAgg251
  z213:=Tryz.sizeOf251
  t232:=Tryz.underlying278
  a232:=Tryz.isAgg278
  z232:=Tryz.sizeOf278
  v232:=Tryz.zeroValue278
  t233:=Tryz.underlying279
  a233:=Tryz.isAgg279
  z233:=Tryz.sizeOf279
  v233:=Tryz.zeroValue279
  g17:=Ag
  g18:=Ag
  g19:=Ag
  i0:=Ag
  i2:=Ag
  i3:=Ag
  i4:=Ag
  i5:=Ag
  i9:=Ag
  i20:=Ag
  i37:=Ag
  i46:=Ag
  i51:=Ag
  i53:=Ag
  i171:=Ag
  i173:=Ag
  i212:=Ag
  i232:=Ag
  i233:=Ag
  m17:=Ag
  m18:=Ag
  m19:=Ag
theorem A23:Go.Proofs.Lays.n157 Tryz.prog lren where
  mixed:=Ag
  f157:=Tryz.func142.trans (congrArg some Ag)
  f199:=Tryz.func170.trans (congrArg some Ag)
  f229:=Tryz.func169.trans (congrArg some Ag)
  f261:=Tryz.func180.trans (congrArg some Ag)
  f311:=Tryz.func183.trans (congrArg some Ag)
  f312:=Tryz.func184.trans (congrArg some Ag)
  t0:=Tryz.underlying0
  a0:=Tryz.isAgg0
  z0:=Tryz.sizeOf0
  v0:=Tryz.zeroValue0
  t3:=Tryz.underlying3
  a3:=Tryz.isAgg3
  z3:=Tryz.sizeOf3
  v3:=Tryz.zeroValue3
  t4:=Tryz.underlying4
  a4:=Tryz.isAgg4
  z4:=Tryz.sizeOf4
  v4:=Tryz.zeroValue4
  t5:=Tryz.underlying5
  a5:=Tryz.isAgg5
  z5:=Tryz.sizeOf5
  v5:=Tryz.zeroValue5
  t9:=Tryz.underlying9
  a9:=Tryz.isAgg9
  z9:=Tryz.sizeOf9
  v9:=Tryz.zeroValue9
  t21:=Tryz.underlying21
  a21:=Tryz.isAgg21
  z21:=Tryz.sizeOf21
  v21:=Tryz.zeroValue21
  t31:=Tryz.underlying22
  a31:=Tryz.isAgg22
  z31:=Tryz.sizeOf22
  v31:=Tryz.zeroValue22
  t40:=Tryz.underlying258
  a40:=Tryz.isAgg258
  z40:=Tryz.sizeOf258
  v40:=Tryz.zeroValue258
  t46:=Tryz.underlying131
  a46:=Tryz.isAgg131
  z46:=Tryz.sizeOf131
  v46:=Tryz.zeroValue131
  t49:=Tryz.underlying284
  a49:=Tryz.isAgg284
  z49:=Tryz.sizeOf284
  v49:=Tryz.zeroValue284
  t51:=Tryz.underlying191
  a51:=Tryz.isAgg191
  z51:=Tryz.sizeOf191
  v51:=Tryz.zeroValue191
  t119:=Tryz.underlying243
  a119:=Tryz.isAgg243
  z119:=Tryz.sizeOf243
  t141:=Tryz.underlying276
  a141:=Tryz.isAgg276
  z141:=Tryz.sizeOf276
  v141:=Tryz.zeroValue276
  t152:=Tryz.underlying272
  a152:=Tryz.isAgg272
  z152:=Tryz.sizeOf272
  v152:=Tryz.zeroValue272
  t154:=Tryz.underlying274
  a154:=Tryz.isAgg274
  z154:=Tryz.sizeOf274
  v154:=Tryz.zeroValue274
  t193:=Tryz.underlying280
  a193:=Tryz.isAgg280
  z193:=Tryz.sizeOf280
  v193:=Tryz.zeroValue280
  t194:=Tryz.underlying281
  a194:=Tryz.isAgg281
  z194:=Tryz.sizeOf281
  v194:=Tryz.zeroValue281
  t196:=Tryz.underlying283
  a196:=Tryz.isAgg283
  z196:=Tryz.sizeOf283
  v196:=Tryz.zeroValue283
  t198:=Tryz.underlying286
  a198:=Tryz.isAgg286
  z198:=Tryz.sizeOf286
  v198:=Tryz.zeroValue286
  t201:=Tryz.underlying289
  a201:=Tryz.isAgg289
  z201:=Tryz.sizeOf289
  v201:=Tryz.zeroValue289
  t226:=Tryz.underlying291
  a226:=Tryz.isAgg291
  z226:=Tryz.sizeOf291
  v226:=Tryz.zeroValue291
  t227:=Tryz.underlying292
  a227:=Tryz.isAgg292
  z227:=Tryz.sizeOf292
  v227:=Tryz.zeroValue292
  g0:=Ag
  g6:=Ag
theorem A6y {n:Int}{r:List UInt8} (w:Ak) (b:Ahj n=some r) (a:Glb Tryz.prog w):Calls Tryz.prog 50 #[.int .i64 n] w (fun e w'=>e=.returned (B5 r)∧Grow w w'):=A0t lay_171 w b a
theorem Y6 {n b:Int}{r:List UInt8} (w:Ak) (c:Mn n b=some r) (a:Glb Tryz.prog w):Calls Tryz.prog 48 #[.int .i64 n,.int .i64 b] w (fun e w'=>e=.returned (B5 r)∧Grow w w'):=Asv A22 w c a
theorem A1j {s:List UInt8}{r:List (List UInt8)}{a:Ak} (d:Acs s=some r) (M:Nat→Prop) (w:Ak) (b:GlbM Tryz.prog M w) (c:Base M a w) (f:Own M w [] w):Calls Tryz.prog 142 #[B5 s] w (fun e w'=>∃ X:Al×Ak,e=.returned (X.1)∧Own M w (kn M w.heap.size a X.2::[]) w'∧Arr X.2 X.1 1 (r.map O0)):=Asx A23 Ag Ag d M w b c f
end Go.Proofs.YtaimbkndebaaiaaGreatDoor
end
section
namespace Go.Proofs.YtaimbkndebaaiaaGreatDoor
open Go.Rd
open TLib
namespace TLibR
end TLibR
open TLibR
def Aof:Go.Shelf.Ren:=⟨fun n=>match n with | 101=>91 | 103=>21 | 129=>107 | 138=>45 | 143=>46 | 146=>12 | 171=>50 | 174=>143 | 195=>82 | 197=>83 | 205=>168 | 206=>86 | 208=>141 | 210=>47 | 217=>128 | 218=>84 | 219=>85 | 220=>171 | 221=>20 | 224=>130 | 225=>129 | 243=>90 | 245=>89 | 246=>87 | 247=>136 | 260=>127 | 266=>160 | 267=>131 | 268=>44 | 279=>137 | 280=>138 | 281=>139 | 282=>140 | 283=>132 | 284=>133 | 285=>134 | 286=>135 | 287=>166 | 314=>161 | 316=>167 | 317=>162 | 318=>163 | 319=>164 | 320=>165 | 321=>178 | 322=>179 | 337=>176 | 338=>177 | n=>n,fun n=>match n with | 24=>67 | 31=>22 | 37=>74 | 46=>131 | 51=>191 | 53=>193 | 59=>227 | 75=>118 | 80=>293 | 85=>221 | 105=>166 | 119=>243 | 127=>268 | 138=>245 | 139=>246 | 143=>269 | 145=>271 | 146=>247 | 167=>220 | 168=>223 | 171=>216 | 173=>218 | 175=>252 | 210=>255 | 212=>250 | 213=>251 | 232=>278 | 233=>279 | n=>n,fun n=>match n with | 1=>0 | 3=>1 | 4=>2 | 15=>4 | 16=>5 | 17=>3 | 18=>8 | 19=>9 | n=>n⟩
theorem rlay_146:Go.Proofs.Lays.n146 Tryz.prog Aof where
  mixed:=Ag
  f138:=Tryz.func45.trans (congrArg some Ag)
  f143:=Tryz.func46.trans (congrArg some Ag)
  f146:=Tryz.func12.trans (congrArg some Ag)
  f195:=Tryz.func82.trans (congrArg some Ag)
  f197:=Tryz.func83.trans (congrArg some Ag)
  f217:=Tryz.func128.trans (congrArg some Ag)
  f218:=Tryz.func84.trans (congrArg some Ag)
  f219:=Tryz.func85.trans (congrArg some Ag)
  f221:=Tryz.func20.trans (congrArg some Ag)
  f224:=Tryz.func130.trans (congrArg some Ag)
  f225:=Tryz.func129.trans (congrArg some Ag)
  f260:=Tryz.func127.trans (congrArg some Ag)
  f266:=Tryz.func160.trans (congrArg some Ag)
  f267:=Tryz.func131.trans (congrArg some Ag)
  f268:=Tryz.func44.trans (congrArg some Ag)
  f314:=Tryz.func161.trans (congrArg some Ag)
  t0:=Tryz.underlying0
  a0:=Tryz.isAgg0
  z0:=Tryz.sizeOf0
  v0:=Tryz.zeroValue0
  t3:=Tryz.underlying3
  a3:=Tryz.isAgg3
  z3:=Tryz.sizeOf3
  v3:=Tryz.zeroValue3
  t4:=Tryz.underlying4
  a4:=Tryz.isAgg4
  z4:=Tryz.sizeOf4
  v4:=Tryz.zeroValue4
  t5:=Tryz.underlying5
  a5:=Tryz.isAgg5
  z5:=Tryz.sizeOf5
  v5:=Tryz.zeroValue5
  t9:=Tryz.underlying9
  a9:=Tryz.isAgg9
  z9:=Tryz.sizeOf9
  v9:=Tryz.zeroValue9
  t21:=Tryz.underlying21
  a21:=Tryz.isAgg21
  z21:=Tryz.sizeOf21
  v21:=Tryz.zeroValue21
  t31:=Tryz.underlying22
  a31:=Tryz.isAgg22
  z31:=Tryz.sizeOf22
  v31:=Tryz.zeroValue22
  t46:=Tryz.underlying131
  a46:=Tryz.isAgg131
  z46:=Tryz.sizeOf131
  v46:=Tryz.zeroValue131
  t51:=Tryz.underlying191
  a51:=Tryz.isAgg191
  z51:=Tryz.sizeOf191
  v51:=Tryz.zeroValue191
  t105:=Tryz.underlying166
  a105:=Tryz.isAgg166
  z105:=Tryz.sizeOf166
  v105:=Tryz.zeroValue166
  t119:=Tryz.underlying243
  a119:=Tryz.isAgg243
  z119:=Tryz.sizeOf243
  t138:=Tryz.underlying245
  a138:=Tryz.isAgg245
  z138:=Tryz.sizeOf245
  v138:=Tryz.zeroValue245
  t139:=Tryz.underlying246
  a139:=Tryz.isAgg246
  z139:=Tryz.sizeOf246
  v139:=Tryz.zeroValue246
  t146:=Tryz.underlying247
  a146:=Tryz.isAgg247
  z146:=Tryz.sizeOf247
  v146:=Tryz.zeroValue247
  g1:=Ag
  g3:=Ag
  g4:=Ag
theorem Az4:Go.Proofs.Lays.n145 Tryz.prog Aof where
  mixed:=Ag
  f145:=Tryz.func145.trans (congrArg some Ag)
  f217:=rlay_146.f217
  f219:=rlay_146.f219
  f220:=Tryz.func171.trans (congrArg some Ag)
  f224:=rlay_146.f224
  f225:=rlay_146.f225
  f266:=rlay_146.f266
  f267:=rlay_146.f267
  f314:=rlay_146.f314
  t3:=Tryz.underlying3
  a3:=Tryz.isAgg3
  z3:=Tryz.sizeOf3
  v3:=Tryz.zeroValue3
  t4:=Tryz.underlying4
  a4:=Tryz.isAgg4
  z4:=Tryz.sizeOf4
  v4:=Tryz.zeroValue4
  t5:=Tryz.underlying5
  a5:=Tryz.isAgg5
  z5:=Tryz.sizeOf5
  v5:=Tryz.zeroValue5
  t9:=Tryz.underlying9
  a9:=Tryz.isAgg9
  z9:=Tryz.sizeOf9
  v9:=Tryz.zeroValue9
  t46:=Tryz.underlying131
  a46:=Tryz.isAgg131
  z46:=Tryz.sizeOf131
  v46:=Tryz.zeroValue131
  t51:=Tryz.underlying191
  a51:=Tryz.isAgg191
  z51:=Tryz.sizeOf191
  v51:=Tryz.zeroValue191
  t59:=Tryz.underlying227
  a59:=Tryz.isAgg227
  z59:=Tryz.sizeOf227
  v59:=Tryz.zeroValue227
  t146:=Tryz.underlying247
  a146:=Tryz.isAgg247
  z146:=Tryz.sizeOf247
  v146:=Tryz.zeroValue247
  g1:=Ag
theorem rlay_101:Go.Proofs.Lays.n101 Tryz.prog Aof where
  mixed:=Ag
  f101:=Tryz.func91.trans (congrArg some Ag)
  f206:=Tryz.func86.trans (congrArg some Ag)
  f208:=Tryz.func141.trans (congrArg some Ag)
  t3:=Tryz.underlying3
  a3:=Tryz.isAgg3
  z3:=Tryz.sizeOf3
  v3:=Tryz.zeroValue3
  t4:=Tryz.underlying4
  a4:=Tryz.isAgg4
  z4:=Tryz.sizeOf4
  v4:=Tryz.zeroValue4
  t9:=Tryz.underlying9
  a9:=Tryz.isAgg9
  z9:=Tryz.sizeOf9
  v9:=Tryz.zeroValue9
theorem Az5:Go.Proofs.Lays.n103 Tryz.prog Aof where
  mixed:=Ag
  f103:=Tryz.func21.trans (congrArg some Ag)
  f206:=rlay_101.f206
  f210:=Tryz.func47.trans (congrArg some Ag)
  t3:=Tryz.underlying3
  a3:=Tryz.isAgg3
  z3:=Tryz.sizeOf3
  v3:=Tryz.zeroValue3
  t4:=Tryz.underlying4
  a4:=Tryz.isAgg4
  z4:=Tryz.sizeOf4
  v4:=Tryz.zeroValue4
  t9:=Tryz.underlying9
  a9:=Tryz.isAgg9
  z9:=Tryz.sizeOf9
  v9:=Tryz.zeroValue9
  t24:=Tryz.underlying67
  a24:=Tryz.isAgg67
  z24:=Tryz.sizeOf67
  v24:=Tryz.zeroValue67
theorem Az3:Go.Proofs.LaysC.n174 Tryz.prog Aof where
  mixed:=Ag
  f129:=Tryz.func107.trans (congrArg some Ag)
  f171:=Tryz.func50.trans (congrArg some Ag)
  f174:=Tryz.func143.trans (congrArg some Ag)
  f205:=Tryz.func168.trans (congrArg some Ag)
  f243:=Tryz.func90.trans (congrArg some Ag)
  f245:=Tryz.func89.trans (congrArg some Ag)
  f246:=Tryz.func87.trans (congrArg some Ag)
  f247:=Tryz.func136.trans (congrArg some Ag)
  f279:=Tryz.func137.trans (congrArg some Ag)
  f280:=Tryz.func138.trans (congrArg some Ag)
  f281:=Tryz.func139.trans (congrArg some Ag)
  f282:=Tryz.func140.trans (congrArg some Ag)
  f283:=Tryz.func132.trans (congrArg some Ag)
  f284:=Tryz.func133.trans (congrArg some Ag)
  f285:=Tryz.func134.trans (congrArg some Ag)
  f286:=Tryz.func135.trans (congrArg some Ag)
  f287:=Tryz.func166.trans (congrArg some Ag)
  f316:=Tryz.func167.trans (congrArg some Ag)
  f317:=Tryz.func162.trans (congrArg some Ag)
  f318:=Tryz.func163.trans (congrArg some Ag)
  f319:=Tryz.func164.trans (congrArg some Ag)
  f320:=Tryz.func165.trans (congrArg some Ag)
  f321:=Tryz.func178.trans (congrArg some Ag)
  f322:=Tryz.func179.trans (congrArg some Ag)
  f337:=Tryz.func176.trans (congrArg some Ag)
  f338:=Tryz.func177.trans (congrArg some Ag)
  t0:=Tryz.underlying0
  a0:=Tryz.isAgg0
  z0:=Tryz.sizeOf0
  v0:=Tryz.zeroValue0
  t2:=Tryz.underlying2
  a2:=Tryz.isAgg2
  z2:=Tryz.sizeOf2
  v2:=Tryz.zeroValue2
  t3:=Tryz.underlying3
  a3:=Tryz.isAgg3
  z3:=Tryz.sizeOf3
  v3:=Tryz.zeroValue3
  t4:=Tryz.underlying4
  a4:=Tryz.isAgg4
  z4:=Tryz.sizeOf4
  v4:=Tryz.zeroValue4
  t5:=Tryz.underlying5
  a5:=Tryz.isAgg5
  z5:=Tryz.sizeOf5
  v5:=Tryz.zeroValue5
  t9:=Tryz.underlying9
  a9:=Tryz.isAgg9
  z9:=Tryz.sizeOf9
  v9:=Tryz.zeroValue9
  t20:=Tryz.underlying20
  a20:=Tryz.isAgg20
  z20:=Tryz.sizeOf20
  v20:=Tryz.zeroValue20
  t21:=Tryz.underlying21
  a21:=Tryz.isAgg21
  z21:=Tryz.sizeOf21
  v21:=Tryz.zeroValue21
  t37:=Tryz.underlying74
  a37:=Tryz.isAgg74
  z37:=Tryz.sizeOf74
  v37:=Tryz.zeroValue74
  t46:=Tryz.underlying131
  a46:=Tryz.isAgg131
  z46:=Tryz.sizeOf131
  v46:=Tryz.zeroValue131
  t51:=Tryz.underlying191
  a51:=Tryz.isAgg191
  z51:=Tryz.sizeOf191
  v51:=Tryz.zeroValue191
  t53:=Tryz.underlying193
  a53:=Tryz.isAgg193
  z53:=Tryz.sizeOf193
  v53:=Tryz.zeroValue193
  t75:=Tryz.underlying118
  a75:=Tryz.isAgg118
  z75:=Tryz.sizeOf118
  v75:=Tryz.zeroValue118
  t85:=Tryz.underlying221
  a85:=Tryz.isAgg221
  z85:=Tryz.sizeOf221
  v85:=Tryz.zeroValue221
  t127:=Tryz.underlying268
  a127:=Tryz.isAgg268
  z127:=Tryz.sizeOf268
  v127:=Tryz.zeroValue268
  t143:=Tryz.underlying269
  a143:=Tryz.isAgg269
  z143:=Tryz.sizeOf269
  v143:=Tryz.zeroValue269
  t145:=Tryz.underlying271
  a145:=Tryz.isAgg271
  z145:=Tryz.sizeOf271
  v145:=Tryz.zeroValue271
  t167:=Tryz.underlying220
  a167:=Tryz.isAgg220
  z167:=Tryz.sizeOf220
  v167:=Tryz.zeroValue220
  t168:=Tryz.underlying223
  a168:=Tryz.isAgg223
  z168:=Tryz.sizeOf223
  v168:=Tryz.zeroValue223
  t171:=Tryz.underlying216
  a171:=Tryz.isAgg216
  z171:=Tryz.sizeOf216
  v171:=Tryz.zeroValue216
  t173:=Tryz.underlying218
  a173:=Tryz.isAgg218
  z173:=Tryz.sizeOf218
  v173:=Tryz.zeroValue218
  t175:=Tryz.underlying252
  a175:=Tryz.isAgg252
  z175:=Tryz.sizeOf252
  v175:=Tryz.zeroValue252
  t210:=Tryz.underlying255
  a210:=Tryz.isAgg255
  z210:=Tryz.sizeOf255
  v210:=Tryz.zeroValue255
  t212:=Tryz.underlying250
  a212:=Tryz.isAgg250
  z212:=Tryz.sizeOf250
  v212:=Tryz.zeroValue250
  t213:=Tryz.underlying251
  a213:=Tryz.isAgg251
  z213:=Tryz.sizeOf251
  t232:=Tryz.underlying278
  a232:=Tryz.isAgg278
  z232:=Tryz.sizeOf278
  v232:=Tryz.zeroValue278
  t233:=Tryz.underlying279
  a233:=Tryz.isAgg279
  z233:=Tryz.sizeOf279
  v233:=Tryz.zeroValue279
  g15:=Ag
  g16:=Ag
  g17:=Ag
  g18:=Ag
  g19:=Ag
  t80:=Tryz.underlying293
  a80:=Tryz.isAgg293
  z80:=Tryz.sizeOf293
  v80:=Tryz.zeroValue293
  i0:=Ag
  i2:=Ag
  i3:=Ag
  i4:=Ag
  i5:=Ag
  i9:=Ag
  i20:=Ag
  i21:=Ag
  i37:=Ag
  i46:=Ag
  i51:=Ag
  i53:=Ag
  i75:=Ag
  i80:=Ag
  i85:=Ag
  i127:=Ag
  i143:=Ag
  i145:=Ag
  i167:=Ag
  i168:=Ag
  i171:=Ag
  i173:=Ag
  i175:=Ag
  i210:=Ag
  i212:=Ag
  i232:=Ag
  i233:=Ag
  m15:=Ag
  m16:=Ag
  m17:=Ag
  m18:=Ag
  m19:=Ag
  c0:=Ag
  c2:=Ag
  c3:=Ag
  c4:=Ag
  c5:=Ag
  c9:=Ag
  c20:=Ag
  c21:=Ag
  c37:=Ag
  c46:=Ag
  c51:=Ag
  c53:=Ag
  c75:=Ag
  c80:=Ag
  c85:=Ag
  c127:=Ag
  c143:=Ag
  c145:=Ag
  c167:=Ag
  c168:=Ag
  c171:=Ag
  c173:=Ag
  c175:=Ag
  c210:=Ag
  c212:=Ag
  c213:=Ag
  c232:=Ag
  c233:=Ag
theorem Af2 {s b:List UInt8}{r:List (List UInt8)}{a:Ak} (f:Tn s b=some r) (M:Nat→Prop) (w:Ak) (c:GlbM Tryz.prog M w) (d:Base M a w) (g:Own M w [] w):Calls Tryz.prog 12 #[B5 s,B5 b] w (fun e w'=>∃ X:Al×Ak,e=.returned (X.1)∧Own M w (kn M w.heap.size a X.2::[]) w'∧Arr X.2 X.1 1 (r.map O0)):=Avw rlay_146 Ag Ag f M w c d g
theorem Cut_w {s a:List UInt8}{r:List UInt8×List UInt8×Bool} (w:Ak) (c:Ats s a=some r) (b:Glb Tryz.prog w):Calls Tryz.prog 145 #[B5 s,B5 a] w (fun e w'=>e=.returned (.tuple #[B5 r.1,B5 r.2.1,.bool r.2.2])∧Grow w w'):=A3o Az4 Ag w c b
theorem W0 {s p r:List UInt8} (w:Ak) (a:Jy s p=some r):Calls Tryz.prog 91 #[B5 s,B5 p] w (fun e w'=>e=.returned (B5 r)∧Grow w w'):=Azo rlay_101 w a
theorem Afh {s p:List UInt8}{r:List UInt8×Bool} (w:Ak) (a:Pf s p=some r):Calls Tryz.prog 21 #[B5 s,B5 p] w (fun e w'=>e=.returned (.tuple #[B5 r.1,.bool r.2])∧Grow w w'):=A01 Az5 w a
theorem As8 {s:List UInt8}{b z:Int}{r:Int×Bool}{a:Ak} (f:Wt s b z=some r) (M:Nat→Prop) (w:Ak) (c:GlbM Tryz.prog M w) (d:Base M a w) (g:Own M w [] w):Calls Tryz.prog 143 #[B5 s,.int .i64 b,.int .i64 z] w (fun e w'=>∃ X:Al×Ak,e=.returned (.tuple #[.int .i64 r.1,X.1])∧Own M w (kn M w.heap.size a X.2::[]) w'∧Aq2 X.1 r.2):=Ans Az3 f M w c d g
end Go.Proofs.YtaimbkndebaaiaaGreatDoor
end
section
namespace Go.Proofs.YtaimbkndebaaiaaGreatDoor
open Go.Rd
open TLib TLibR
namespace TLibA
end TLibA
open TLibA
def alren:Go.Shelf.Ren:=⟨fun n=>match n with | 129=>107 | 171=>50 | 172=>49 | 205=>168 | 243=>90 | 244=>88 | 245=>89 | 246=>87 | 247=>136 | 279=>137 | 280=>138 | 281=>139 | 282=>140 | 283=>132 | 284=>133 | 285=>134 | 286=>135 | 287=>166 | 316=>167 | 317=>162 | 318=>163 | 319=>164 | 320=>165 | 321=>178 | 322=>179 | 337=>176 | 338=>177 | n=>n,fun n=>match n with | 37=>74 | 46=>131 | 51=>191 | 53=>193 | 75=>118 | 76=>119 | 80=>293 | 85=>221 | 127=>268 | 143=>269 | 145=>271 | 167=>220 | 168=>223 | 171=>216 | 173=>218 | 175=>252 | 210=>255 | 212=>250 | 213=>251 | 232=>278 | 233=>279 | n=>n,fun n=>match n with | 15=>4 | 16=>5 | 17=>3 | 18=>8 | 19=>9 | n=>n⟩
theorem A1e:Go.Proofs.LaysC.n172 Tryz.prog alren where
  mixed:=Ag
  f129:=Tryz.func107.trans (congrArg some Ag)
  f171:=Tryz.func50.trans (congrArg some Ag)
  f172:=Tryz.func49.trans (congrArg some Ag)
  f205:=Tryz.func168.trans (congrArg some Ag)
  f243:=Tryz.func90.trans (congrArg some Ag)
  f244:=Tryz.func88.trans (congrArg some Ag)
  f245:=Tryz.func89.trans (congrArg some Ag)
  f246:=Tryz.func87.trans (congrArg some Ag)
  f247:=Tryz.func136.trans (congrArg some Ag)
  f279:=Tryz.func137.trans (congrArg some Ag)
  f280:=Tryz.func138.trans (congrArg some Ag)
  f281:=Tryz.func139.trans (congrArg some Ag)
  f282:=Tryz.func140.trans (congrArg some Ag)
  f283:=Tryz.func132.trans (congrArg some Ag)
  f284:=Tryz.func133.trans (congrArg some Ag)
  f285:=Tryz.func134.trans (congrArg some Ag)
  f286:=Tryz.func135.trans (congrArg some Ag)
  f287:=Tryz.func166.trans (congrArg some Ag)
  f316:=Tryz.func167.trans (congrArg some Ag)
  f317:=Tryz.func162.trans (congrArg some Ag)
  f318:=Tryz.func163.trans (congrArg some Ag)
  f319:=Tryz.func164.trans (congrArg some Ag)
  f320:=Tryz.func165.trans (congrArg some Ag)
  f321:=Tryz.func178.trans (congrArg some Ag)
  f322:=Tryz.func179.trans (congrArg some Ag)
  f337:=Tryz.func176.trans (congrArg some Ag)
  f338:=Tryz.func177.trans (congrArg some Ag)
  t0:=Tryz.underlying0
  a0:=Tryz.isAgg0
  z0:=Tryz.sizeOf0
  v0:=Tryz.zeroValue0
  t2:=Tryz.underlying2
  a2:=Tryz.isAgg2
  z2:=Tryz.sizeOf2
  v2:=Tryz.zeroValue2
  t3:=Tryz.underlying3
  a3:=Tryz.isAgg3
  z3:=Tryz.sizeOf3
  v3:=Tryz.zeroValue3
  t4:=Tryz.underlying4
  a4:=Tryz.isAgg4
  z4:=Tryz.sizeOf4
  v4:=Tryz.zeroValue4
  t5:=Tryz.underlying5
  a5:=Tryz.isAgg5
  z5:=Tryz.sizeOf5
  v5:=Tryz.zeroValue5
  t9:=Tryz.underlying9
  a9:=Tryz.isAgg9
  z9:=Tryz.sizeOf9
  v9:=Tryz.zeroValue9
  t20:=Tryz.underlying20
  a20:=Tryz.isAgg20
  z20:=Tryz.sizeOf20
  v20:=Tryz.zeroValue20
  t21:=Tryz.underlying21
  a21:=Tryz.isAgg21
  z21:=Tryz.sizeOf21
  v21:=Tryz.zeroValue21
  t37:=Tryz.underlying74
  a37:=Tryz.isAgg74
  z37:=Tryz.sizeOf74
  v37:=Tryz.zeroValue74
  t46:=Tryz.underlying131
  a46:=Tryz.isAgg131
  z46:=Tryz.sizeOf131
  v46:=Tryz.zeroValue131
  t51:=Tryz.underlying191
  a51:=Tryz.isAgg191
  z51:=Tryz.sizeOf191
  v51:=Tryz.zeroValue191
  t53:=Tryz.underlying193
  a53:=Tryz.isAgg193
  z53:=Tryz.sizeOf193
  v53:=Tryz.zeroValue193
  t75:=Tryz.underlying118
  a75:=Tryz.isAgg118
  z75:=Tryz.sizeOf118
  v75:=Tryz.zeroValue118
  t76:=Tryz.underlying119
  a76:=Tryz.isAgg119
  z76:=Tryz.sizeOf119
  v76:=Tryz.zeroValue119
  t85:=Tryz.underlying221
  a85:=Tryz.isAgg221
  z85:=Tryz.sizeOf221
  v85:=Tryz.zeroValue221
  t127:=Tryz.underlying268
  a127:=Tryz.isAgg268
  z127:=Tryz.sizeOf268
  v127:=Tryz.zeroValue268
  t143:=Tryz.underlying269
  a143:=Tryz.isAgg269
  z143:=Tryz.sizeOf269
  v143:=Tryz.zeroValue269
  t145:=Tryz.underlying271
  a145:=Tryz.isAgg271
  z145:=Tryz.sizeOf271
  v145:=Tryz.zeroValue271
  t167:=Tryz.underlying220
  a167:=Tryz.isAgg220
  z167:=Tryz.sizeOf220
  v167:=Tryz.zeroValue220
  t168:=Tryz.underlying223
  a168:=Tryz.isAgg223
  z168:=Tryz.sizeOf223
  v168:=Tryz.zeroValue223
  t171:=Tryz.underlying216
  a171:=Tryz.isAgg216
  z171:=Tryz.sizeOf216
  v171:=Tryz.zeroValue216
  t173:=Tryz.underlying218
  a173:=Tryz.isAgg218
  z173:=Tryz.sizeOf218
  v173:=Tryz.zeroValue218
  t175:=Tryz.underlying252
  a175:=Tryz.isAgg252
  z175:=Tryz.sizeOf252
  v175:=Tryz.zeroValue252
  t210:=Tryz.underlying255
  a210:=Tryz.isAgg255
  z210:=Tryz.sizeOf255
  v210:=Tryz.zeroValue255
  t212:=Tryz.underlying250
  a212:=Tryz.isAgg250
  z212:=Tryz.sizeOf250
  v212:=Tryz.zeroValue250
  t213:=Tryz.underlying251
  a213:=Tryz.isAgg251
  z213:=Tryz.sizeOf251
  t232:=Tryz.underlying278
  a232:=Tryz.isAgg278
  z232:=Tryz.sizeOf278
  v232:=Tryz.zeroValue278
  t233:=Tryz.underlying279
  a233:=Tryz.isAgg279
  z233:=Tryz.sizeOf279
  v233:=Tryz.zeroValue279
  g15:=Ag
  g16:=Ag
  g17:=Ag
  g18:=Ag
  g19:=Ag
  t80:=Tryz.underlying293
  a80:=Tryz.isAgg293
  z80:=Tryz.sizeOf293
  v80:=Tryz.zeroValue293
  i0:=Ag
  i2:=Ag
  i3:=Ag
  i4:=Ag
  i5:=Ag
  i9:=Ag
  i20:=Ag
  i21:=Ag
  i37:=Ag
  i46:=Ag
  i51:=Ag
  i53:=Ag
  i75:=Ag
  i76:=Ag
  i80:=Ag
  i85:=Ag
  i127:=Ag
  i143:=Ag
  i145:=Ag
  i167:=Ag
  i168:=Ag
  i171:=Ag
  i173:=Ag
  i175:=Ag
  i210:=Ag
  i212:=Ag
  i232:=Ag
  i233:=Ag
  m15:=Ag
  m16:=Ag
  m17:=Ag
  m18:=Ag
  m19:=Ag
  c0:=Ag
  c2:=Ag
  c3:=Ag
  c4:=Ag
  c5:=Ag
  c9:=Ag
  c20:=Ag
  c21:=Ag
  c37:=Ag
  c46:=Ag
  c51:=Ag
  c53:=Ag
  c75:=Ag
  c76:=Ag
  c80:=Ag
  c85:=Ag
  c127:=Ag
  c143:=Ag
  c145:=Ag
  c167:=Ag
  c168:=Ag
  c171:=Ag
  c173:=Ag
  c175:=Ag
  c210:=Ag
  c212:=Ag
  c213:=Ag
  c232:=Ag
  c233:=Ag
theorem A61 {s:List UInt8}{r:Int×Bool}{a:Ak} (d:Amp s=some r) (M:Nat→Prop) (w:Ak) (b:GlbM Tryz.prog M w) (c:Base M a w) (f:Own M w [] w):Calls Tryz.prog 49 #[B5 s] w (fun e w'=>∃ X:Al×Ak,e=.returned (.tuple #[.int .i64 r.1,X.1])∧Own M w (kn M w.heap.size a X.2::[]) w'∧Aq2 X.1 r.2):=A1d A1e d M w b c f
end Go.Proofs.YtaimbkndebaaiaaGreatDoor
end
section
namespace Go.Proofs.YtaimbkndebaaiaaGreatDoor
open Go.Rd
open TLib TLibR TLibA
namespace TSay
theorem Aom:Sg Tryz.prog 104 2:=⟨_,Tryz.underlying104,rfl,Ag⟩
theorem A1x:Go.Rd.Enters Tryz.prog 22:=eT Tryz.func22
theorem en48:Go.Rd.Enters Tryz.prog 48:=eT Tryz.func48
theorem en49:Go.Rd.Enters Tryz.prog 49:=eT Tryz.func49
theorem en50:Go.Rd.Enters Tryz.prog 50:=eT Tryz.func50
theorem en91:Go.Rd.Enters Tryz.prog 91:=eT Tryz.func91
theorem Pp:Cb Tryz.prog 104 0 0:=fT 0 Tryz.underlying104
theorem R6:Cb Tryz.prog 104 1 1:=fT 0 Tryz.underlying104
theorem Pm:Cb Tryz.prog 47 0 0:=fT 0 Tryz.underlying47
theorem Ds:Cb Tryz.prog 47 1 1:=fT 0 Tryz.underlying47
theorem Ko:N3 Tryz.prog 102:=⟨_,Tryz.underlying102,rfl⟩
theorem pl2:N3 Tryz.prog 2:=⟨_,Tryz.underlying2,rfl⟩
theorem pl3:N3 Tryz.prog 3:=⟨_,Tryz.underlying3,rfl⟩
theorem Fl:N3 Tryz.prog 34:=⟨_,Tryz.underlying34,rfl⟩
theorem J3:N3 Tryz.prog 45:=⟨_,Tryz.underlying45,rfl⟩
theorem pl9:N3 Tryz.prog 9:=⟨_,Tryz.underlying9,rfl⟩
theorem Qa:Je Tryz.prog 22 9 1:=⟨Tryz.underlying22,Ag⟩
theorem Fs:Je Tryz.prog 34 3 1:=⟨Tryz.underlying34,Ag⟩
theorem Xl:Je Tryz.prog 43 2 1:=⟨Tryz.underlying43,Ag⟩
theorem Ajr:Dt Tryz.prog 102 1:=by unfold Dt;kernel_rfl
theorem Axt:Dt Tryz.prog 104 2:=by unfold Dt;kernel_rfl
theorem Aa1:Nx Tryz.prog 102 43 1 [.slice none 0 0]:=⟨Tryz.underlying102,Ag⟩
theorem L7:Nx Tryz.prog 34 3 1 [.int .i64 0]:=⟨Tryz.underlying34,Ag⟩
theorem Agh:Xj Tryz.prog 102 43 1 24:=⟨Tryz.underlying102,Ag,Ah⟩
theorem Xh:Xj Tryz.prog 34 3 1 8:=⟨Tryz.underlying34,Ag,Ah⟩
theorem Aam:Xj Tryz.prog 43 2 1 8:=⟨Tryz.underlying43,Ag,Ah⟩
theorem Atf:ZeroT Tryz.prog 104 [.slice none 0 0,.slice none 0 0]:=by unfold ZeroT;kernel_rfl
theorem ze2:ZeroT Tryz.prog 2 [.int .i64 0]:=by unfold ZeroT;kernel_rfl
end TSay
open TSay
theorem Nh {t:Al}{word:List UInt8}{l:List Int}{r:List UInt8} (w:Ak) (f:F3 word l=some r) (d:Arr w t 1 (l.map Ar)) (z:Glb Tryz.prog w):Calls Tryz.prog 22 #[B5 word,t] w (fun e w'=>e=.returned (B5 r)∧Grow w w'):=by
 unfold F3 at f;refine have k:=D0 (w:=w);cw 20 Tryz.func22 Z (have y:=Xp z;sr (wa Z (nt (Au (sr (wm Z (wq Z (A5 Tryz.underlying34 Z Z d.lenMap) (wm Z (nt ?_))))))))) (Av k (D3 w));obtain⟨s,E,I,F⟩:=bl f;refine B6 (dt [7,8] [0] Z) (fun (a:List UInt8) (b:Int)=>[(0,(true,B5 a)),(9,(true,i_ b))]) (fun a b=>[]) (fun a b m=>Cp (Gd l) m (a,b)=some s) (fun a b=>s=.go (a,b)) word 0 I F (sb Z) (pk [0]) ?_ ?_
 ·skip
  rintro a b rfl;refine Aj (sr (wm Z (wa Z (nt (A9 ?_)))));obtain rfl:=(Ad E).symm;exact Aw Z Z fun w g=>kg g
 rintro a b K j;obtain⟨H,M,rfl,c,p⟩:=A0 j;unfold Gd at c;simp only at c;refine sr (wq Z (QV.lss Z Z Z Z) (nt (Au ?_)));refine wc Z c (fun x n=>?_) (fun x C=>?_)
 ·skip
  refine sk (Aj (Au (Cq (sr ?_))));obtain⟨i,o⟩:=cs n;obtain⟨L,q⟩:=d.lenMap.ix (sz:=1) Ao i;refine wq Z (Ae Fs Z Z Z Z q) (wl pl3 Z (cl 0 (Ai 0 Z k d) q i Z) (wa Z (nr (wm Z (wm Z ?_)))));obtain⟨J,G,A⟩:=An o;refine wq Z (QV.call en48 (ea Z) (fun w g=>have h:=Y6 w G (y.at g);h)) ?_;refine have ⟨c21,u,v,B⟩:=cs3 A;wq Z (D4 Z Z Z Z c21) (wq Z (D4 Z Z Z Z u) (wa Z (Bk (Ba (Aj (Bn (wq Z (A6 Z Z Z Z v) (wm Z (Bk ?_)))))))));exact Bs (a++([32]++J)) (b+1) H (A3 B p) (Cc _) (sb Z) (pk [0])
 refine Cw (te (te (Am ?_)));exact Cm a b (Bh C p) (sb Z) (pk [0])
theorem Tb {t:Al}{word:List UInt8}{l:List Int}{r:List UInt8} (w:Ak) (f:I6 word l=some r) (d:Arr w t 1 (l.map Ar)) (z:Glb Tryz.prog w):Calls Tryz.prog 93 #[B5 word,t] w (fun e w'=>e=.returned (B5 r)∧Grow w w'):=by
 unfold I6 at f;refine have k:=D0 (w:=w);cw 20 Tryz.func93 Z (have y:=Xp z;sr (wa Z (nt (Au (sr (wm Z (wq Z (A5 Tryz.underlying43 Z Z d.lenMap) (wm Z (nt ?_))))))))) (Av k (D3 w));obtain⟨s,E,I,F⟩:=bl f;refine B6 (dt [7,8] [0] Z) (fun (a:List UInt8) (b:Int)=>[(0,(true,B5 a)),(9,(true,i_ b))]) (fun a b=>[]) (fun a b m=>Cp (Ny l) m (a,b)=some s) (fun a b=>s=.go (a,b)) word 0 I F (sb Z) (pk [0]) ?_ ?_
 ·skip
  rintro a b rfl;refine Aj (sr (wm Z (wa Z (nt (A9 ?_)))));obtain rfl:=(Ad E).symm;exact Aw Z Z fun w g=>kg g
 rintro a b K j;obtain⟨H,M,rfl,c,p⟩:=A0 j;unfold Ny at c;simp only at c;refine sr (wq Z (QV.lss Z Z Z Z) (nt (Au ?_)));refine wc Z c (fun x n=>?_) (fun x C=>?_)
 ·skip
  refine sk (Aj (Au (Cq (sr ?_))));obtain⟨i,o⟩:=cs n;obtain⟨L,q⟩:=d.lenMap.ix (sz:=1) Ao i;refine wq Z (Ae Xl Z Z Z Z q) (wl pl2 Z (cl 0 (Ai 0 Z k d) q i Z) (wa Z (nr (wm Z (wm Z ?_)))));obtain⟨J,G,A⟩:=An o;refine wq Z (QV.call en48 (ea Z) (fun w g=>have h:=Y6 w G (y.at g);h)) ?_;refine have ⟨c21,u,v,B⟩:=cs3 A;wq Z (D4 Z Z Z Z c21) (wq Z (D4 Z Z Z Z u) (wa Z (Bk (Ba (Aj (Bn (wq Z (A6 Z Z Z Z v) (wm Z (Bk ?_)))))))));exact Bs (a++([32]++J)) (b+1) H (A3 B p) (Cc _) (sb Z) (pk [0])
 refine Cw (te (te (Am ?_)));exact Cm a b (Bh C p) (sb Z) (pk [0])
theorem Oz {f:Al}{l:List Int}{r:List UInt8} (w:Ak) (b:Fx l=some r) (j:Arr w f 1 (l.map Ar)) (i:Glb Tryz.prog w):Calls Tryz.prog 51 #[f] w (fun e w'=>e=.returned (B5 r)∧Grow w w'):=by
 unfold Fx at b;refine have c:=D0 (w:=w);cw 6 Tryz.func51 Z (have g:=Xp i;sr (wa Z (ns (wm Z ?_)))) (Av c (D3 w));obtain⟨o,m,d⟩:=An b;refine wq Z (QV.call A1x (ea Z) (fun w a=>have h:=Nh w m ((Ai 0 Z c j) w a) (g.at a);h)) ?_;obtain⟨p,n,k⟩:=An d;refine wq Z (QV.call en91 (ea Z) (fun w a=>have h:=W0 w n ;h)) ?_;refine wa Z (nt (A9 ?_));obtain rfl:=(Ad k).symm;exact Aw Z Z fun w a=>kg a
theorem Afo {I:Al}{words:List (List UInt8)}{r:List Int×Bool}{g:Ak} (p:K9 words=some r) (o:Arr g I 1 (words.map O0)) (M:Nat→Prop) (w:Ak) (v:GlbM Tryz.prog M w) (l:Base M g w) (Y:Own M w [] w):Calls Tryz.prog 23 #[I] w (fun e w'=>∃ X:Al×Ak,e=.returned (.tuple #[X.1,.bool r.2])∧Own M w (kn M w.heap.size g X.2::[]) w'∧Arr X.2 X.1 1 (r.1.map Ar)):=by
 unfold K9 at p;refine cw 42 Tryz.func23 Z (sr (wa Z (wa Z (ns (wa Z (nt (Au (sr (wm Z (wq Z (A5 Tryz.underlying22 Z Z o.lenMap) (wm Z (nt (F7 (fun w i=>i.vecNil (E:=3) (sz:=1) (enc:=Ar)) ?_))))))))))))) (Av l Y);obtain⟨H,F,a4,U⟩:=bl p;refine Kh (dt [9,10] [] Z) (fun (a:List Int) (c:Int) (b:Al) (f:Ak)=>[(4,(true,b)),(11,(true,i_ c))]) (fun a c b f=>[vec b 3 1 (List.map Ar a),kn M w.heap.size g f]) (fun a c b f m=>Cp (F4 words) m (a,c)=some H∧SliceLen b a.length∧Le g f) (fun a c b f=>H=.go (a,c)∧SliceLen b a.length∧Le g f) [] 0 (.slice none 0 0) g a4 ⟨U,Gq,(Ih _)⟩ (sb Z) (pk [0,1]) ?_ ?_
 ·skip
  rintro a c b f ⟨rfl,y,j⟩;refine Aj (sr (wm Z (wa Z (wa Z (nt (A9 ?_))))));obtain rfl:=(Ad F).symm;refine kp [1,0] Z (Gk l (fun a2 a7 V=>have N:=Cj V;Eg Z Z Z (fun w i=>?_)));exact⟨(b,a2),Z,i.pick [0] Ah,N⟩
 rintro a c b f a8 ⟨x,y,j⟩;obtain⟨a3,b0,rfl,n,q⟩:=A0 x;unfold F4 at n;simp only at n;refine sr (wq Z (QV.lss Z Z Z Z) (nt (Au ?_)));refine wc Z n (fun K z=>?_) (fun K T=>?_)
 ·skip
  refine sk (Aj (Au (Cq (sr ?_))));obtain⟨t,A⟩:=cs z;obtain⟨a9,G⟩:=(o.le j).lenMap.ix (sz:=1) Ao t;refine wq Z (Ae Qa Z Z Z Z G) (wl pl9 Z (cl 0 (Ai 1 Z l (o.le j)) G t Z) (wa Z (ns (wm Z (Ab Z ?_)))));obtain⟨k,a0,B⟩:=An A;refine(crG [1,0] v l en49 Z (A61 a0) Z (fun s O P=>wm Z (wq Z (Bi Z Z Z) (wq Z (Bi Z Z Z) (wa Z (wa Z (nt (Au (sr (wm Z (wq Z (Aw9 Tryz.underlying118 Z Z O) (wm Z (gN Z (QV.move Z Z) (gn Z (fun d=>QV.lss Z d Z Z) (wq Z (Bc Z Z Z (fun h=>Fm h)) (wm Z (gN Z (QV.move Z Z) (gn Z (fun d=>QV.gtr Z d Z Z) (wq Z (Bc Z Z Z (fun h=>Fm h)) (wm Z (gN Z (QV.move Z Z) ?_)))))))))))))))))))));obtain⟨b1,a1,C⟩:=Dg B;refine gn Z (fun d=>QV.call en50 (De Z d eN) (fun w i=>have h:=A6y w (a1 d) (v.at i);h)) ?_;refine gN Z (QV.move Z Z) (gn Z (fun d=>Sd Z d Z d) (wq Z (Bc Z Z Z (fun h=>Fm h)) (nt ?_)));refine wc Z C (fun L Q=>?_) (fun L R=>?_)
  ·skip
   refine sr (wa Z (wa Z (nt (A9 (tr (kr (tr (tr (kr (tr (tr ?_)))))))))));obtain rfl:=Dr Q q;obtain rfl:=(Ad F).symm;refine Eg Z Z Z (fun w i=>?_);exact⟨(.slice none 0 0,s.2),Z,i.pick [0] Ah,Gr⟩
  refine sk (Aj (Bn (wm Z (wm Z (Ab Z ((Di Ah L7 Ah Ah (ps:=[(0,.tmp 37)]) (cells:=[i_ k.1]) (ea Z) Ag (fun a6=>Ab Z (have ⟨u,J,S⟩:=cs2 R;(Bt (enc:=Ar) (xs:=a) (ys:=[k.1]) ((a++[k.1])) 2 Ah Xh Z Z Z Z Z (Bb 0 (rows:=[k.1].map Ar) Z Z (Bq Bd)) Bd (Dl _) Z u.1 u.2 (fun a5 W=>wa Z (Bk (Ba (Aj (Bn (wq Z (A6 Z Z Z Z J) (wm Z (Bk ?_))))))))))))))))));exact F1 (a++[k.1]) (c+1) a5 s.2 a3 ⟨A3 S q,W,(j.trans P)⟩ (Cc _) (sb Z) (pk [2,1])
 refine Cw (te (te (Am ?_)));exact Mw a c b f ⟨Bh T q,y,j⟩ (sb Z) (pk [0,1])
theorem Ajf {b8 b7 b9:Al}{l:Lp}{r:Sta}{k:Ak} (O:Oc l=some r) (G:Arr k b8 1 (l.logs.map Ar)) (d2:Arr k b7 9 (l.body.map Stm.cells)) (f7:Arr k b9 1 (l.outs.map Ar)) (M:Nat→Prop) (w:Ak) (f6:GlbM Tryz.prog M w) (u:Base M k w) (e8:Own M w [] w):Calls Tryz.prog 92 #[.agg #[b8,b7,b9]] w (fun e w'=>∃ X:Al×Al×Ak,e=.returned (.agg #[X.1,X.2.1])∧Own M w (kn M w.heap.size k X.2.2::[]) w'∧RowsA X.2.2 X.1 r.bef∧RowsA X.2.2 X.2.1 r.mem):=by
 unfold Oc at O;refine cw 35 Tryz.func92 Z (sr (Ab Z ((A4 Ah Z Z (fun b1=>Ab Z ((B9 Ah Atf (fun b2=>ns (Ab Z ((B9 Ah Atf (fun P=>nt (Au (sr (wf Ds Z (wl J3 Z (Aq 2 Z Z) (wq Z (A5 Tryz.underlying45 Z Z d2.lenMap) (wm Z (nt (F7 (fun w o=>o.vecNil (E:=43) (sz:=1) (enc:=Hy)) ?_)))))))))))))))))))) (Av u e8);obtain⟨b4,a4,f3,d9⟩:=bl O;refine O6 (dt [1,2,3,8] [2,3] Z) (fun (f:List (List Int)) (n:Int) (h:Al) (c:List (Al×List Int)) (g:Ak)=>[(9,(true,i_ n))]) (fun f n h c g=>[vec h 43 1 (List.map Hy c),blk P [h,.slice none 0 0] 104,kn M w.heap.size k g]) (fun f n h c g m=>Cp (Ix l) m (f,n)=some b4∧SliceLen h f.length∧c.map (·.2)=f∧RowsK g c∧Le k g) (fun f n h c g=>b4=.go (f,n)∧SliceLen h f.length∧c.map (·.2)=f∧RowsK g c∧Le k g) [] 0 (.slice none 0 0) [] k f3 ⟨d9,Gq,Z,Agd,(Ih _)⟩ (sb Z) (pk [0,1,4,2,3]) ?_ ?_
 ·skip
  rintro f n h c g ⟨rfl,N,z,B,p⟩;refine Aj (Au (sr (wf Pm Z (wl Fl Z (Aq 4 Z Z) (wq Z (A5 Tryz.underlying34 Z Z (G.le p).lenMap) (wm Z (nt (F7 (fun w o=>o.vecNil (E:=43) (sz:=1) (enc:=Hy)) ?_))))))));obtain⟨b3,d3,f2,d8⟩:=bl a4;refine O6 (dt [2,3,19,20] [1,4,5] Z) (fun (d:List (List Int)) (a:Int) (i:Al) (b:List (Al×List Int)) (j:Ak)=>[(21,(true,i_ a))]) (fun d a i b j=>[vec i 43 1 (List.map Hy b),blk P [h,i] 104,kn M w.heap.size k j]) (fun d a i b j m=>Cp (Iw l) m (d,a)=some b3∧SliceLen i d.length∧b.map (·.2)=d∧RowsK j b∧Le g j) (fun d a i b j=>b3=.go (d,a)∧SliceLen i d.length∧b.map (·.2)=d∧RowsK j b∧Le g j) [] 0 (.slice none 0 0) [] g f2 ⟨d8,Gq,Z,Agd,(Ih _)⟩ (sb Z) (pk [0,2,3,1,4,5]) ?_ ?_
  ·skip
   rintro d a i b j ⟨rfl,L,y,A,q⟩;refine Aj (sr (wq Z (Af Aom Z Z Z (Ac 1 Z)) (Ab Z ((ex 4 [h,i] (show Ea _=List.toArray _ from Z) Axt (oc (Cy N) (oc (Cy L) B3)) Z (nt (A9 ?_)))))));obtain rfl:=(Ad d3).symm;refine kp [2,3,0,1,4,5] Z (Gk u (fun e9 Y e0=>?_));have c8:RowsA e9 h f:=⟨c,z,Cj e0,(B.le (q.trans Y))⟩;refine Gk u (fun a8 a0 e1=>?_);have c9:RowsA a8 i d:=⟨b,y,Cj e1,(A.le (Y.trans a0))⟩;refine Wr Z Aom Z Z (Ac 2 Z) (fun w o=>?_);exact⟨(h,i,a8),Z,o.pick [0] Ah,(c8.le a0),c9⟩
  rintro d a i b j m18 ⟨V,L,y,A,q⟩;obtain⟨f0,g0,rfl,C,a5⟩:=A0 V;unfold Iw at C;simp only at C;refine sr (wq Z (QV.lss Z Z Z Z) (nt (Au ?_)));refine wc Z C (fun c6 a1=>?_) (fun c6 d5=>?_)
  ·skip
   refine sk (Aj (Au (Cq (sr ?_))));obtain⟨Q,a2⟩:=cs a1;obtain⟨f9,a7⟩:=(G.le (p.trans q)).lenMap.ix (sz:=1) Ao Q;refine wq Z (Ae Fs Z Z Z Z a7) (wl pl3 Z (cl 0 (Ai 2 Z u (G.le (p.trans q))) a7 Q Z) (wa Z (nt (dp 9 [2,1,3,4,5] Z (zf 0 R6 Z Z (zl 1 Ko Z Z (Aq 1 Z Z) (zm 2 Z Z ?_)))))));obtain⟨c0,c1,c2,R,c3,d4⟩:=cs5 a2;refine wz 3 Z Z (QV.shlD Z Z Z Z c0) (Cx 4 Z Ag Z ((Ael (enc:=Ar) (0:Int) Ah Aam ze2 Z Z c1 Z c2 (fun s e4=>bp [3,2,4,5,6] Z (pk [0,1,2,3,4]) (Cx 5 Z Ag Z ((Di Ah Aa1 Ah Ah (ps:=[(0,.tmp 29)]) (cells:=[s]) (ea Z) (Wd e4) (fun f4=>bp [4,0,3,5,6,7] Z (pk [0,2,3,4,5]) (Cx 6 Z Ag Z (ep [4,1,0,2,3,5,6,7] Z (Sh u (fun a9 J e2=>?_))))))))))));have T:=Cj e2;have d0:RowsK a9 (b++[(s,(List.replicate (shlD 1 (ele l.logs a)).toNat (0:Int)))]):=Vb (A.le J) T;have v:((b++[(s,(List.replicate (shlD 1 (ele l.logs a)).toNat (0:Int)))]):List (Al×List Int)).map (·.2)=(d++[(List.replicate (shlD 1 (ele l.logs a)).toNat (0:Int))]):=Yo y;refine(Bt (enc:=Hy) (xs:=b) (ys:=[(s,(List.replicate (shlD 1 (ele l.logs a)).toNat (0:Int)))]) (b++[(s,(List.replicate (shlD 1 (ele l.logs a)).toNat (0:Int)))]) 2 Ah Agh Z Z Z Z Z (Bb 1 (rows:=[(s,(List.replicate (shlD 1 (ele l.logs a)).toNat (0:Int)))].map Hy) Z Z (Bq Jf)) Jf (Ab8 T.lenMap) Z (AL.b1 v R) (AL.b2 v R) (fun b5 e5=>have H:=Uw v e5;bp [0,1,2,3,4,5,6] Z (fun w o=>C8 J (p.trans q) (o.pick [0,1,3,4,5,6] Ah)) (zf 7 R6 Z Z (Ig 8 Z Ag Z ((ex 3 [b5] (Hr H) Ajr (oc (Cy H) B3) Z (Ba (Aj (Bn (wq Z (A6 Z Z Z Z c3) (wm Z (Bk ?_))))))))))));exact O5 (d++[(List.replicate (shlD 1 (ele l.logs a)).toNat (0:Int))]) (a+1) b5 (b++[(s,(List.replicate (shlD 1 (ele l.logs a)).toNat (0:Int)))]) a9 f0 ⟨A3 d4 a5,H,v,d0,(q.trans J)⟩ (Cc _) (sb Z) (pk [2,3,0,4,5,6])
  refine Cw (te (te (Am ?_)));exact Tm d a i b j ⟨Bh d5 a5,L,y,A,q⟩ (sb Z) (pk [0,1,2,3,4,5])
 rintro f n h c g f8 ⟨W,N,z,B,p⟩;obtain⟨f1,g1,rfl,F,a6⟩:=A0 W;unfold Ix at F;simp only at F;refine sr (wq Z (QV.lss Z Z Z Z) (nt (Au ?_)));refine wc Z F (fun c7 a3=>?_) (fun c7 d7=>?_)
 ·skip
  refine sk (Aj (Au (Cq (dp 7 [2,1,3,4] Z (zf 0 Pp Z Z (zl 1 Ko Z Z (Aq 1 Z Z) (Cx 2 Z Ag Z ?_)))))));obtain⟨c4,c5,S,c75,d6⟩:=cs4 a3;refine(Ael (enc:=Ar) (0:Int) Ah Aam ze2 Z Z c4 Z c5 (fun t e6=>bp [3,2,4,5] Z (pk [0,1,2,3]) (Cx 3 Z Ag Z ((Di Ah Aa1 Ah Ah (ps:=[(0,.tmp 13)]) (cells:=[t]) (ea Z) (Wd e6) (fun f5=>bp [4,0,3,5,6] Z (pk [0,2,3,4]) (Cx 4 Z Ag Z (ep [4,1,0,2,3,5,6] Z (Sh u (fun b0 K e3=>?_))))))))));have U:=Cj e3;have d1:RowsK b0 (c++[(t,(List.replicate (3:Int).toNat (0:Int)))]):=Vb (B.le K) U;have x:((c++[(t,(List.replicate (3:Int).toNat (0:Int)))]):List (Al×List Int)).map (·.2)=(f++[(List.replicate (3:Int).toNat (0:Int))]):=Yo z;refine(Bt (enc:=Hy) (xs:=c) (ys:=[(t,(List.replicate (3:Int).toNat (0:Int)))]) (c++[(t,(List.replicate (3:Int).toNat (0:Int)))]) 2 Ah Agh Z Z Z Z Z (Bb 1 (rows:=[(t,(List.replicate (3:Int).toNat (0:Int)))].map Hy) Z Z (Bq Jf)) Jf (Ab8 U.lenMap) Z (AL.b1 x S) (AL.b2 x S) (fun b6 e7=>have I:=Uw x e7;bp [0,1,2,3,4,5] Z (fun w o=>C8 K p (o.pick [0,1,3,4,5] Ah)) (zf 5 Pp Z Z (Ig 6 Z Ag Z ((ex 3 [b6] (Hr I) Ajr (oc (Cy I) B3) Z (Ba (Aj (Bn (wq Z (A6 Z Z Z Z c75) (wm Z (Bk ?_))))))))))));exact O5 (f++[(List.replicate (3:Int).toNat (0:Int))]) (n+1) b6 (c++[(t,(List.replicate (3:Int).toNat (0:Int)))]) b0 f1 ⟨A3 d6 a6,I,x,d1,(p.trans K)⟩ (Cc _) (sb Z) (pk [2,3,0,4,5])
 refine Cw (te (te (Am ?_)));exact Tm f n h c g ⟨Bh d7 a6,N,z,B,p⟩ (sb Z) (pk [0,1,2,3,4])
end Go.Proofs.YtaimbkndebaaiaaGreatDoor
end
section
namespace Go.Proofs.YtaimbkndebaaiaaGreatDoor
open Go.Rd
open TLib TLibR TLibA TSay
namespace TNum0
end TNum0
open TNum0
theorem Ai7 {c:Int}{r:List UInt8} (w:Ak) (a:N7 c=some r) (f:Glb Tryz.prog w):Calls Tryz.prog 144 #[.int .i64 c] w (fun e w'=>e=.returned (B5 r)∧Grow w w'):=by
 unfold N7 at a;refine have g:=D0 (w:=w);cw 5 Tryz.func144 Z (have d:=Xp f;sr (wa Z (ns (wm Z ?_)))) (Av g (D3 w));obtain⟨k,j,i⟩:=An a;refine wq Z (QV.call en48 (ea Z) (fun w b=>have h:=Y6 w j (d.at b);h)) ?_;refine wa Z (nt (A9 ?_));obtain rfl:=(Ad i).symm;exact Aw Z Z fun w b=>kg b
end Go.Proofs.YtaimbkndebaaiaaGreatDoor
end
section
namespace Go.Proofs.YtaimbkndebaaiaaGreatDoor
open Go.Rd
open TLib TLibR TLibA TSay TNum0
namespace TNum
theorem A4v:Go.Rd.Enters Tryz.prog 152:=eT Tryz.func152
theorem A4u:Go.Rd.Enters Tryz.prog 153:=eT Tryz.func153
end TNum
open TNum
theorem Y8 {b:Int}{r:Bool} (w:Ak) (a:Mp b=some r) :Calls Tryz.prog 152 #[.int .i64 b] w (fun e w'=>e=.returned (.bool r)∧Grow w w'):=by
 unfold Mp at a;refine have d:=D0 (w:=w);cw 9 Tryz.func152 Z (sr (wa Z (ns (wm Z (wq Z (QV.geq Z Z Z Z) (wm Z (gP Z (QV.move Z Z) (gp Z (fun c=>QV.leq Z c Z Z) (wq Z (A7 Z Z Z (fun h=>h)) (wa Z (nt (A9 ?_)))))))))))) (Av d (D3 w));obtain rfl:=(Ad a).symm;exact Aw Z Z fun w f=>kg f
theorem Yx {step plus g log r:Int} (w:Ak) (c:Mg step plus g log=some r) :Calls Tryz.prog 114 #[.int .i64 step,.int .i64 plus,.int .i64 g,.int .i64 log] w (fun e w'=>e=.returned (.int .i64 r)∧Grow w w'):=by
 unfold Mg at c;refine have n:=D0 (w:=w);cw 45 Tryz.func114 Z (sr (wa Z (ns (wa Z (nt (Au (sr (wm Z (wq Z (QV.lss Z Z Z Z) (wm Z (gN Z (QV.move Z Z) (gn Z (fun a=>QV.gtr Z a Z Z) (wq Z (Bc Z Z Z (fun h=>Fm h)) (wm Z (gN Z (QV.move Z Z) (gN Z (QV.move Z Z) ?_)))))))))))))))) (Av n (D3 w));obtain⟨u,s,d⟩:=Dg c;refine gn Z (fun a=>N6 A4v Z a (De Z a eN) (fun w b=>have h:=Y8 w (s a) ;h)) ?_;refine gn Z (fun a=>QV.not Z a) (wq Z (Bc Z Z Z (fun h=>Fm h)) (wm Z (gN Z (QV.move Z Z) (gN Z (QV.move Z Z) ?_))));obtain⟨v,t,f⟩:=Dg d;refine gn Z (fun a=>N6 A4v Z a (De Z a eN) (fun w b=>have h:=Y8 w (t a) ;h)) ?_;refine gn Z (fun a=>QV.not Z a) (wq Z (Bc Z Z Z (fun h=>Fm h)) (wm Z (gN Z (QV.move Z Z) (gn Z (fun a=>QV.lss Z a Z Z) (wq Z (Bc Z Z Z (fun h=>Fm h)) (wm Z (gN Z (QV.move Z Z) (gn Z (fun a=>QV.gtr Z a Z Z) (wq Z (Bc Z Z Z (fun h=>Fm h)) (nt ?_))))))))));refine wc Z f (fun m p=>?_) (fun m q=>?_)
 ·skip
  refine sr (wa Z (nt (A9 (tr ?_))));obtain rfl:=(Ad p).symm;exact Aw Z Z fun w b=>kg b
 refine sk (Aj (sr (wm Z (wm Z (have ⟨i,j,k,l,o⟩:=cs4 q;wq Z (QV.mul Z Z Z Z i) (wm Z (wq Z (A6 Z Z Z Z j) (wm Z (wq Z (QV.shlD Z Z Z Z k) (wq Z (D2 Z Z Z Z l) (wq Z (Af5 Z Z Z Z) (wa Z (nt (A9 ?_))))))))))))));obtain rfl:=(Ad o).symm;exact Aw Z Z fun w b=>kg b
theorem Ae7 {c:Bool}{r:Int} (w:Ak) (a:Q3 c=some r) :Calls Tryz.prog 153 #[.bool c] w (fun e w'=>e=.returned (.int .i64 r)∧Grow w w'):=by
 unfold Q3 at a;refine have f:=D0 (w:=w);cw 4 Tryz.func153 Z (sr (wa Z (nt (Au (sr (wm Z (nt ?_))))))) (Av f (D3 w));refine wc Z a (fun d g=>?_) (fun d h=>?_)
 ·skip
  refine sr (wa Z (nt (A9 (tr ?_))));obtain rfl:=(Ad g).symm;exact Aw Z Z fun w b=>kg b
 refine sk (Aj (sr (wa Z (nt (A9 ?_)))));obtain rfl:=(Ad h).symm;exact Aw Z Z fun w b=>kg b
theorem Ao8 {op a b r:Int} (w:Ak) (d:Uz op a b=some r) :Calls Tryz.prog 116 #[.int .i64 op,.int .i64 a,.int .i64 b] w (fun e w'=>e=.returned (.int .i64 r)∧Grow w w'):=by
 unfold Uz at d;refine have z:=D0 (w:=w);cw 53 Tryz.func116 Z (sr (wa Z (ns (wa Z (nt (Au (sr (wm Z (nt (Cq (sr (wq Z (QV.eql Z Z Z Z) (wa Z (nt ?_)))))))))))))) (Av z (D3 w));refine wc Z d (fun p E=>?_) (fun p m=>?_)
 ·skip
  refine sr (wm Z (wm Z (wq Z (Au1 Z Z Z Z) (wa Z (nt (A9 (kr (tr ?_))))))));obtain rfl:=(Ad E).symm;exact Aw Z Z fun w c=>kg c
 refine sr (wq Z (QV.eql Z Z Z Z) (wa Z (nt ?_)));refine wc Z m (fun x I=>?_) (fun x n=>?_)
 ·skip
  refine sr (wm Z (wm Z (wq Z (Af4 Z Z Z Z) (wa Z (nt (A9 (kr (tr ?_))))))));obtain rfl:=(Ad I).symm;exact Aw Z Z fun w c=>kg c
 refine sr (wq Z (QV.eql Z Z Z Z) (wa Z (nt ?_)));refine wc Z n (fun y J=>?_) (fun y o=>?_)
 ·skip
  refine sr (wm Z (wm Z (wq Z (Au0 Z Z Z Z) (wa Z (nt (A9 (kr (tr ?_))))))));obtain rfl:=(Ad J).symm;exact Aw Z Z fun w c=>kg c
 refine sr (wq Z (QV.eql Z Z Z Z) (wa Z (nt ?_)));refine wc Z o (fun q A=>?_) (fun q f=>?_)
 ·skip
  refine sr (wm Z (wm Z (wq Z (Af5 Z Z Z Z) (wa Z (nt (A9 (kr (tr ?_))))))));obtain rfl:=(Ad A).symm;exact Aw Z Z fun w c=>kg c
 refine sr (wq Z (QV.eql Z Z Z Z) (wa Z (nt ?_)));refine wc Z f (fun s B=>?_) (fun s g=>?_)
 ·skip
  refine sr (wm Z (wm Z (wq Z (A6w Z Z Z Z) (wa Z (nt (A9 (kr (tr ?_))))))));obtain rfl:=(Ad B).symm;exact Aw Z Z fun w c=>kg c
 refine sr (wq Z (QV.eql Z Z Z Z) (wa Z (nt ?_)));refine wc Z g (fun t C=>?_) (fun t i=>?_)
 ·skip
  refine sr (wm Z (wm Z (wq Z (A3w Z Z Z Z) (wa Z (nt (A9 (kr (tr ?_))))))));obtain rfl:=(Ad C).symm;exact Aw Z Z fun w c=>kg c
 refine sr (wq Z (QV.eql Z Z Z Z) (wa Z (nt ?_)));refine wc Z i (fun u j=>?_) (fun u k=>?_)
 ·skip
  refine sr (wm Z (wm Z (wm Z (wq Z (QV.lss Z Z Z Z) ?_))));obtain⟨M,K,F⟩:=An j;refine wq Z (N6 A4u Z Z (ea Z) (fun w c=>have h:=Ae7 w K ;h)) ?_;refine wa Z (nt (A9 (kr (tr ?_))));obtain rfl:=(Ad F).symm;exact Aw Z Z fun w c=>kg c
 refine sr (wq Z (QV.eql Z Z Z Z) (wa Z (nt ?_)));refine wc Z k (fun v l=>?_) (fun v H=>?_)
 ·skip
  refine sr (wm Z (wm Z (wm Z (wq Z (QV.eql Z Z Z Z) ?_))));obtain⟨N,L,G⟩:=An l;refine wq Z (N6 A4u Z Z (ea Z) (fun w c=>have h:=Ae7 w L ;h)) ?_;refine wa Z (nt (A9 (kr (tr ?_))));obtain rfl:=(Ad G).symm;exact Aw Z Z fun w c=>kg c
 refine sk (Ba (Aj (sr (wa Z (nt (A9 ?_))))));obtain rfl:=(Ad H).symm;exact Aw Z Z fun w c=>kg c
theorem H3 {op r:Int} (w:Ak) (b:Fg op=some r) :Calls Tryz.prog 34 #[.int .i64 op] w (fun e w'=>e=.returned (.int .i64 r)∧Grow w w'):=by
 unfold Fg at b;refine have m:=D0 (w:=w);cw 9 Tryz.func34 Z (sr (wa Z (nt (Au (sr (wm Z (nt (Cq (Au (sr (wq Z (QV.eql Z Z Z Z) (wa Z (nt ?_))))))))))))) (Av m (D3 w));refine wc Z b (fun h d=>?_) (fun h g=>?_)
 ·skip
  refine sk (Aj ?_);refine wc Z d (fun k q=>?_) (fun k f=>?_)
  ·skip
   refine sr (wa Z (nt (A9 (kr (tr ?_)))));obtain rfl:=(Ad q).symm;exact Aw Z Z fun w a=>kg a
  refine sr (wq Z (QV.eql Z Z Z Z) (wa Z (nt ?_)));refine wc Z f (fun l s=>?_) (fun l t=>?_)
  ·skip
   refine sr (wa Z (nt (A9 (kr (tr ?_)))));obtain rfl:=(Ad s).symm;exact Aw Z Z fun w a=>kg a
  refine sk (Ba (Aj (sr (wa Z (nt (A9 ?_))))));obtain rfl:=(Ad t).symm;exact Aw Z Z fun w a=>kg a
 refine Bn (wq Z (QV.eql Z Z Z Z) (wa Z (nt ?_)));refine wc Z g (fun i n=>?_) (fun i c=>?_)
 ·skip
  refine sr (wa Z (nt (A9 (kr (tr ?_)))));obtain rfl:=(Ad n).symm;exact Aw Z Z fun w a=>kg a
 refine sr (wq Z (QV.eql Z Z Z Z) (wa Z (nt ?_)));refine wc Z c (fun j o=>?_) (fun j p=>?_)
 ·skip
  refine sr (wa Z (nt (A9 (kr (tr ?_)))));obtain rfl:=(Ad o).symm;exact Aw Z Z fun w a=>kg a
 refine sk (Ba (Aj (sr (wa Z (nt (A9 ?_))))));obtain rfl:=(Ad p).symm;exact Aw Z Z fun w a=>kg a
theorem Aw5 {log r:Int} (w:Ak) (d:Sc log=some r) :Calls Tryz.prog 39 #[.int .i64 log] w (fun e w'=>e=.returned (.int .i64 r)∧Grow w w'):=by
 unfold Sc at d;refine have l:=D0 (w:=w);cw 14 Tryz.func39 Z (sr (wa Z (ns (wa Z (nt (Au (sr (wa Z (nt ?_))))))))) (Av l (D3 w));obtain⟨h,q,v,s⟩:=bl d;refine B6 (dt [0] [0] Z) (fun (a:Int) (b:Int)=>[(3,(true,i_ a)),(4,(true,i_ b))]) (fun a b=>[]) (fun a b m=>Cp (Qq log) m (a,b)=some h) (fun a b=>h=.go (a,b)) 1 0 v s (sb Z) (pk [0]) ?_ ?_
 ·skip
  rintro a b rfl;refine Aj (sr (wm Z (wa Z (nt (A9 ?_)))));obtain rfl:=(Ad q).symm;exact Aw Z Z fun w t=>kg t
 rintro a b x f;obtain⟨u,y,rfl,c,g⟩:=A0 f;unfold Qq at c;simp only at c;refine Au (sr (wm Z (wm Z (wq Z (QV.lss Z Z Z Z) (nt ?_)))));refine wc Z c (fun k n=>?_) (fun k p=>?_)
 ·skip
  refine sk (Aj (Au (Cq (Bn (wm Z (wm Z (have ⟨i,j,o⟩:=cs2 n;wq Z (A6 Z Z Z Z i) (wa Z (Bk (Ba (Aj (Bn (wm Z (wq Z (A6 Z Z Z Z j) (wa Z (Bk ?_))))))))))))))));exact Bs (a+a) (b+1) u (A3 o g) (Cc _) (sb Z) (pk [0])
 refine Cw (te (te (Am ?_)));exact Cm a b (Bh p g) (sb Z) (pk [0])
end Go.Proofs.YtaimbkndebaaiaaGreatDoor
end
section
namespace Go.Proofs.YtaimbkndebaaiaaGreatDoor
open Go.Rd
open TLib TLibR TLibA TSay TNum0 TNum
namespace TLoop
theorem Gn:Sg Tryz.prog 27 7:=⟨_,Tryz.underlying27,rfl,Ag⟩
theorem Fc:Sg Tryz.prog 47 3:=⟨_,Tryz.underlying47,rfl,Ag⟩
theorem Ol:Sg Tryz.prog 80 2:=⟨_,Tryz.underlying80,rfl,Ag⟩
theorem Oj:Sg Tryz.prog 82 9:=⟨_,Tryz.underlying82,rfl,Ag⟩
theorem Tz:Amq Tryz.prog 25 3 1:=⟨_,Tryz.underlying25,Ag⟩
theorem Avg:Go.Rd.Enters Tryz.prog 10:=eT Tryz.func10
theorem Ave:Go.Rd.Enters Tryz.prog 27:=eT Tryz.func27
theorem Aqz:Go.Rd.Enters Tryz.prog 28:=eT Tryz.func28
theorem Ai5:Go.Rd.Enters Tryz.prog 34:=eT Tryz.func34
theorem Ai4:Go.Rd.Enters Tryz.prog 56:=eT Tryz.func56
theorem en57:Go.Rd.Enters Tryz.prog 57:=eT Tryz.func57
theorem en97:Go.Rd.Enters Tryz.prog 97:=eT Tryz.func97
theorem Aqx:EqT Tryz.prog 80 2:=⟨Ag,⟨_,Tryz.underlying80⟩,Ag,Ag⟩
theorem Yj:Cb Tryz.prog 27 0 0:=fT 2 Tryz.underlying27
theorem V6:Cb Tryz.prog 27 1 3:=fT 2 Tryz.underlying27
theorem Nw:Cb Tryz.prog 27 2 6:=fT 0 Tryz.underlying27
theorem Yg:Cb Tryz.prog 47 2 2:=fT 0 Tryz.underlying47
theorem St:Cb Tryz.prog 80 0 0:=fT 0 Tryz.underlying80
theorem Rg:Cb Tryz.prog 80 1 1:=fT 0 Tryz.underlying80
theorem Jd:Cb Tryz.prog 82 0 0:=fT 0 Tryz.underlying82
theorem Ub:Cb Tryz.prog 82 1 1:=fT 1 Tryz.underlying82
theorem V5:Cb Tryz.prog 82 2 3:=fT 1 Tryz.underlying82
theorem Ss:Cb Tryz.prog 82 3 5:=fT 0 Tryz.underlying82
theorem Ye:Cb Tryz.prog 82 4 6:=fT 0 Tryz.underlying82
theorem Yd:Cb Tryz.prog 82 5 7:=fT 0 Tryz.underlying82
theorem Amg:Cb Tryz.prog 82 6 8:=fT 0 Tryz.underlying82
theorem Ty:N3 Tryz.prog 43:=⟨_,Tryz.underlying43,rfl⟩
theorem Ti:Je Tryz.prog 102 43 1:=⟨Tryz.underlying102,Ag⟩
theorem Xk:Je Tryz.prog 45 82 9:=⟨Tryz.underlying45,Ag⟩
theorem Au7:Je Tryz.prog 83 80 2:=⟨Tryz.underlying83,Ag⟩
theorem Aan:Dt Tryz.prog 80 2:=by unfold Dt;kernel_rfl
theorem Tw:Dt Tryz.prog 82 9:=by unfold Dt;kernel_rfl
theorem A4c:Nx Tryz.prog 83 80 2 [.int .i64 0,.int .i64 0]:=⟨Tryz.underlying83,Ag⟩
theorem Ak9:ZeroT Tryz.prog 80 [.int .i64 0,.int .i64 0]:=by unfold ZeroT;kernel_rfl
theorem Tv:ZeroT Tryz.prog 82 [.int .i64 0,.int .i64 0,.int .i64 0,.int .i64 0,.int .i64 0,.int .i64 0,.int .i64 0,.int .i64 0,.int .i64 0]:=by unfold ZeroT;kernel_rfl
end TLoop
open TLoop
theorem M6 {t:Tgt}{r:Bool} (w:Ak) (g:Gy t=some r) :Calls Tryz.prog 10 #[.agg #[.int .i64 t.u0,.int .i64 t.u1,.int .i64 t.u2,.int .i64 t.w0,.int .i64 t.w1,.int .i64 t.w2,.int .i64 t.regs]] w (fun e w'=>e=.returned (.bool r)∧Grow w w'):=by
 unfold Gy at g;refine have x:=D0 (w:=w);cw 42 Tryz.func10 Z (sr (Ab Z ((A4 Ah Z Z (fun b1=>wa Z (nt (Au (sr (wm Z (nt ?_)))))))))) (Av x (D3 w));obtain⟨q,p,G,E⟩:=bl g;refine D6 (dt [1] [0,1] Z) (fun (b:Int)=>[(4,(true,i_ b))]) (fun b=>[]) (fun b m=>Cp (Oa t) m b=some q) (fun b=>q=.go b) 0 G E (sb Z) (pk [0,1]) ?_ ?_
 ·skip
  rintro b rfl;refine Aj (sr (wf Nw Z (wl pl3 Z (Aq 0 Z Z) (wq Z (QV.geq Z Z Z Z) (wm Z (gP Z (QV.fieldAddr Nw Z Z) (gp Z (fun a=>Cs pl3 Z a (Aq 0 Z Z)) (gp Z (fun a=>QV.leq Z a Z Z) (wq Z (A7 Z Z Z (fun h=>h)) (wa Z (nt (A9 ?_))))))))))));obtain rfl:=(Ad p).symm;exact Aw Z Z fun w l=>kg l
 rintro b H n;obtain⟨F,I,rfl,j,k⟩:=A0 n;unfold Oa at j;refine sr (wq Z (QV.lss Z Z Z Z) (nt (Au ?_)));refine wc Z j (fun u y=>?_) (fun u C=>?_)
 ·skip
  refine sk (Aj (Au (Cq (sr (wm Z (wa Z (ns (wm Z (wf Yj Z (have ⟨c,d,f,c21,o⟩:=cs4 y;wq Z (Cr Tz Z Z Z Z c.1 c.2) (wl pl3 Z (Ez 0 Z (Ir (off:=0) (i:=b) c.1 c.2 Z Z Z) (Hu _ _ _)) (wq Z (QV.lss Z Z Z Z) (wm Z (gN Z (QV.move Z Z) (gN Z (QV.fieldAddr Yj Z Z) (gn Z (fun a=>Cr Tz Z a Z a (d a).1 (d a).2) (gn Z (fun a=>Cs pl3 Z a (Ez 0 Z (Ir (off:=0) (i:=b) (d a).1 (d a).2 Z Z Z) (Hu _ _ _))) (gn Z (fun a=>QV.gtr Z a Z Z) (wq Z (Bc Z Z Z (fun h=>Fm h)) (wm Z (gN Z (QV.move Z Z) (gN Z (QV.fieldAddr V6 Z Z) (gn Z (fun a=>Cr Tz Z a Z a (f a).1 (f a).2) (gn Z (fun a=>Cs pl3 Z a (Ez 0 Z (Ir (off:=3) (i:=b) (f a).1 (f a).2 Z Z Z) (Hu _ _ _))) (gn Z (fun a=>QV.lss Z a Z Z) (wq Z (Bc Z Z Z (fun h=>Fm h)) (wm Z (gN Z (QV.move Z Z) (gN Z (QV.fieldAddr V6 Z Z) (gn Z (fun a=>Cr Tz Z a Z a (c21 a).1 (c21 a).2) (gn Z (fun a=>Cs pl3 Z a (Ez 0 Z (Ir (off:=3) (i:=b) (c21 a).1 (c21 a).2 Z Z Z) (Hu _ _ _))) (gn Z (fun a=>QV.gtr Z a Z Z) ?_))))))))))))))))))))))))))))))));refine wq Z (Bc Z Z Z (fun h=>Fm h)) (nt ?_);refine wc Z o (fun v z=>?_) (fun v A=>?_)
  ·skip
   refine sr (wa Z (nt (A9 (kr (tr (tr (kr (tr (tr ?_)))))))));obtain rfl:=Dr z k;obtain rfl:=(Ad p).symm;exact Aw Z Z fun w l=>kg l
  refine sk (Ba (Aj (Bn (have ⟨s,B⟩:=cs A;wq Z (A6 Z Z Z Z s) (wm Z (Bk ?_))))));exact D5 (b+1) F (A3 B k) (Cc _) (sb Z) (pk [0,1])
 refine Cw (te (te (Am ?_)));exact Eo b (Bh C k) (sb Z) (pk [0,1])
theorem N8 {t:Tgt}{op r:Int} (w:Ak) (c:G1 t op=some r) :Calls Tryz.prog 29 #[.agg #[.int .i64 t.u0,.int .i64 t.u1,.int .i64 t.u2,.int .i64 t.w0,.int .i64 t.w1,.int .i64 t.w2,.int .i64 t.regs],.int .i64 op] w (fun e w'=>e=.returned (.int .i64 r)∧Grow w w'):=by
 unfold G1 at c;refine have j:=D0 (w:=w);cw 13 Tryz.func29 Z (sr (Ab Z ((A4 Ah Z Z (fun b1=>wa Z (nt (Au (sr (wq Z (Af Gn Z Z Z (Ac 0 Z)) ?_))))))))) (Av j (D3 w));obtain⟨q,n,d⟩:=An c;refine wq Z (QV.call Avg (ea Z) (fun w a=>have h:=M6 w n ;h)) ?_;refine wq Z (QV.not Z Z) (nt ?_);refine wc Z d (fun g m=>?_) (fun g f=>?_)
 ·skip
  refine sr (wa Z (nt (A9 (tr ?_))));obtain rfl:=(Ad m).symm;exact Aw Z Z fun w a=>kg a
 refine sk (Aj (sr (wm Z ?_)));obtain⟨p,o,k⟩:=An f;refine wq Z (QV.call Ai5 (ea Z) (fun w a=>have h:=H3 w o ;h)) ?_;refine wf V6 Z (have ⟨b,l⟩:=cs k;wq Z (Cr Tz Z Z Z Z b.1 b.2) (wl pl3 Z (Ez 0 Z (Ir (off:=3) (i:=p) b.1 b.2 Z Z Z) (Hu _ _ _)) (wa Z (nt (A9 ?_)))));obtain rfl:=(Ad l).symm;exact Aw Z Z fun w a=>kg a
theorem Ld {d a below:Int}{r:Bool} (w:Ak) (c:Gj d a below=some r) :Calls Tryz.prog 56 #[.int .i64 d,.int .i64 a,.int .i64 below] w (fun e w'=>e=.returned (.bool r)∧Grow w w'):=by
 unfold Gj at c;refine have f:=D0 (w:=w);cw 15 Tryz.func56 Z (sr (wa Z (ns (wm Z (wm Z (wq Z (QV.geq Z Z Z Z) (wm Z (gP Z (QV.move Z Z) (gP Z (QV.move Z Z) (gp Z (fun b=>QV.lss Z b Z b) (wq Z (A7 Z Z Z (fun h=>h)) (wa Z (nt (A9 ?_)))))))))))))) (Av f (D3 w));obtain rfl:=(Ad c).symm;exact Aw Z Z fun w g=>kg g
theorem Mh {s:Stm}{r:List Rf}{d:Ak} (g:Fh s=some r)  (M:Nat→Prop) (w:Ak) (f:Base M d w) (x:Own M w [] w):Calls Tryz.prog 28 #[.agg #[.int .i64 s.op,.int .i64 s.a.st,.int .i64 s.a.bk,.int .i64 s.b.st,.int .i64 s.b.bk,.int .i64 s.ar,.int .i64 s.sp,.int .i64 s.pl,.int .i64 s.n]] w (fun e w'=>∃ X:Al×Ak,e=.returned (X.1)∧Own M w (kn M w.heap.size d X.2::[]) w'∧Arr X.2 X.1 2 (r.map Rf.cells)):=by
 unfold Fh at g;refine cw 19 Tryz.func28 Z (sr (Ab Z ((A4 Ah Z Z (fun b1=>wa Z (nt (Au (Cq (sr (wf Jd Z (wl pl3 Z (Aq 0 Z Z) (wq Z (QV.eql Z Z Z Z) (wa Z (nt ?_)))))))))))))) (Av f x);refine wc Z g (fun k q=>?_) (fun k h=>?_)
 ·skip
  refine sr (wf Ub Z (wq Z (Af Ol Z Z Z (cu 1 2 (Ac 0 Z) Z)) (Ab Z ((Di Ah A4c Ah Ah (ps:=[(0,.tmp 8)]) (cells:=[i_ s.a.st,i_ s.a.bk]) (ea Z) Ag (fun i=>wa Z (nt (A9 (kr (tr ?_))))))))));obtain rfl:=(Ad q).symm;refine F7 (fun w c=>c.blkVec Rf.cells ([s.a]:List Rf) Z Rf.cells_len (nl Z)) (kp [2,0,1] Z (Gk f (fun z B v=>have o:=Cj v;Aw Z Z (fun w c=>?_))));exact⟨((Fp i 1 1),z),Z,c.pick [0] Ah,o⟩
 refine sr (wf Jd Z (wl pl3 Z (Aq 0 Z Z) (wq Z (QV.gtr Z Z Z Z) (wa Z (nt ?_)))));refine wc Z h (fun l t=>?_) (fun l p=>?_)
 ·skip
  refine sr (wf Ub Z (wq Z (Af Ol Z Z Z (cu 1 2 (Ac 0 Z) Z)) (wf V5 Z (wq Z (Af Ol Z Z Z (cu 3 2 (Ac 0 Z) Z)) (Ab Z ((Di Ah A4c Ah Ah (ps:=[(0,.tmp 15),(1,.tmp 17)]) (cells:=[i_ s.a.st,i_ s.a.bk,i_ s.b.st,i_ s.b.bk]) (ea Z) Ag (fun j=>wa Z (nt (A9 (kr (tr ?_))))))))))));obtain rfl:=(Ad t).symm;refine F7 (fun w c=>c.blkVec Rf.cells ([s.a,s.b]:List Rf) Z Rf.cells_len (nl Z)) (kp [2,0,1] Z (Gk f (fun y A u=>have m:=Cj u;Aw Z Z (fun w c=>?_))));exact⟨((Fp j 2 2),y),Z,c.pick [0] Ah,m⟩
 refine sk (Ba (Aj (sr (wa Z (nt (A9 ?_))))));obtain rfl:=(Ad p).symm;refine Aw Z Z (fun w c=>?_);exact⟨(.slice none 0 0,d),Z,c.pick [1] Ah,Gr⟩
theorem Asp {n m o:Al}{l:Lp}{k:Int}{d:Rf}{r:Bool} (w:Ak) (c:S5 l k d=some r) (A:Arr w n 1 (l.logs.map Ar)) (q:Arr w m 9 (l.body.map Stm.cells)) (B:Arr w o 1 (l.outs.map Ar)):Calls Tryz.prog 97 #[.agg #[n,m,o],.int .i64 k,.agg #[.int .i64 d.st,.int .i64 d.bk]] w (fun e w'=>e=.returned (.bool r)∧Grow w w'):=by
 unfold S5 at c;refine have s:=D0 (w:=w);cw 24 Tryz.func97 Z (sr (Ab Z ((A4 Ah Z Z (fun b1=>Ab Z ((A4 Ah Z Z (fun b2=>wa Z (ns (wf Ds Z (wl J3 Z (Aq 1 Z Z) (wq Z (A5 Tryz.underlying45 Z Z q.lenMap) (wa Z (nt (Au (sr (wf Rg Z (wl pl3 Z (Aq 0 Z Z) (wq Z (QV.eql Z Z Z Z) (nt ?_)))))))))))))))))))) (Av s (D3 w));refine wc Z c (fun p i=>?_) (fun p f=>?_)
 ·skip
  refine Bn (wm Z (wa Z (ns (wf Rg Z (wl pl3 Z (Aq 0 Z Z) ?_)))));obtain⟨x5,y,j⟩:=An i;refine wq Z (QV.call Ai4 (ea Z) (fun w b=>have h:=Ld w y ;h)) ?_;refine wm Z (gP Z (QV.fieldAddr St Z Z) (gp Z (fun a=>Cs pl3 Z a (Aq 0 Z Z)) (gP Z (QV.move Z Z) ?_)));obtain⟨F,z,t⟩:=Dg j;refine gp Z (fun a=>QV.call Ai4 (De Z a (ec Z (De Z a eN))) (fun w b=>have h:=Ld w (z a) ;h)) ?_;refine wq Z (A7 Z Z Z (fun h=>h)) (wa Z (nt (A9 ?_)));obtain rfl:=(Ad t).symm;exact Aw Z Z fun w b=>kg b
 refine sk (Aj (sr (wf Rg Z (wl pl3 Z (Aq 0 Z Z) ?_))));obtain⟨C,v,g⟩:=An f;refine wq Z (QV.call Ai4 (ea Z) (fun w b=>have h:=Ld w v ;h)) ?_;refine wm Z (gP Z (QV.fieldAddr St Z Z) (gp Z (fun a=>Cs pl3 Z a (Aq 0 Z Z)) (gP Z (QV.move Z Z) ?_)));obtain⟨E,x,u⟩:=Dg g;refine gp Z (fun a=>QV.call Ai4 (De Z a (ec Z (De Z a eN))) (fun w b=>have h:=Ld w (x a) ;h)) ?_;refine wq Z (A7 Z Z Z (fun h=>h)) (wa Z (nt (A9 ?_)));obtain rfl:=(Ad u).symm;exact Aw Z Z fun w b=>kg b
theorem Aqd {P O Q:Al}{l:Lp}{f:Int}{r:Bool} (w:Ak) (x:Q4 l f=some r) (v:Arr w P 1 (l.logs.map Ar)) (k:Arr w O 9 (l.body.map Stm.cells)) (a0:Arr w Q 1 (l.outs.map Ar)):Calls Tryz.prog 57 #[.agg #[P,O,Q],.int .i64 f] w (fun e w'=>e=.returned (.bool r)∧Grow w w'):=by
 unfold Q4 at x;refine have i:=D0 (w:=w);cw 132 Tryz.func57 Z (sr (Ab Z ((A4 Ah Z Z (fun b1=>wa Z (ns (wf Ds Z (wl J3 Z (Aq 0 Z Z) (wm Z (have ⟨c2,E⟩:=cs x;have ⟨c8,L⟩:=k.lenMap.ix (sz:=9) Ao c2;wq Z (Ae Xk Z Z Z Z L) (wq Z (Af Oj Z Z Z (el (Ai 1 Z i k) L c2)) (Ab Z ((B9 Ah Tv (fun c5=>Ab Z ((ew 0 (Stm.cells (ele l.body f)) Tw Z (ns (wq Z (QV.build (ps:=[]) (cells:=[i_ 0,i_ 0]) eN Ag) (Ab Z ((B9 Ah Ak9 (fun c6=>Ab Z ((ew 0 [i_ 0,i_ 0] Aan Z (ns (wf Ss Z (wl pl3 Z (Aq 1 Z Z) (wf Pm Z (wl Fl Z (Aq 2 Z Z) (wq Z (A5 Tryz.underlying34 Z Z v.lenMap) ?_))))))))))))))))))))))))))))))) (Av i (D3 w));obtain⟨d5,b9,y⟩:=An E;refine wq Z (QV.call Ai4 (ea Z) (fun w d=>have h:=Ld w b9 ;h)) ?_;refine wm Z (gP Z (QV.fieldAddr Ye Z Z) (gp Z (fun c=>Cs pl3 Z c (Aq 1 Z Z)) ?_));obtain⟨d1,b4,z⟩:=Dg y;refine gp Z (fun c=>QV.call Ai4 (De Z c (ea Z)) (fun w d=>have h:=Ld w (b4 c) ;h)) ?_;refine wq Z (A7 Z Z Z (fun h=>h)) (wm Z (gP Z (QV.fieldAddr Yd Z Z) (gp Z (fun c=>Cs pl3 Z c (Aq 1 Z Z)) ?_)));obtain⟨d2,b5,A⟩:=Dg z;refine gp Z (fun c=>QV.call Ai4 (De Z c (ea Z)) (fun w d=>have h:=Ld w (b5 c) ;h)) ?_;refine wq Z (A7 Z Z Z (fun h=>h)) (wa Z (ns (wf Ss Z (wl pl3 Z (Aq 1 Z Z) (wq Z (QV.eql Z Z Z Z) (wm Z (gP Z (QV.fieldAddr Ye Z Z) (gp Z (fun c=>Cs pl3 Z c (Aq 1 Z Z)) (gp Z (fun c=>QV.eql Z c Z Z) (wq Z (A7 Z Z Z (fun h=>h)) (wm Z (gP Z (QV.fieldAddr Yd Z Z) (gp Z (fun c=>Cs pl3 Z c (Aq 1 Z Z)) (gp Z (fun c=>QV.eql Z c Z Z) (wq Z (A7 Z Z Z (fun h=>h)) (wa Z (nt (Au (sr (wq Z (Af Oj Z Z Z (Ac 1 Z)) (Ab Z ?_)))))))))))))))))))));obtain⟨s,b6,B⟩:=An A;refine(cr [3,0,1,2] i Aqz Z (Mh b6) Z (fun c3 j n=>wq Z (A5 Tryz.underlying83 Z Z j.lenMap) (wm Z (nt ?_))));obtain⟨N,o,c1,b3⟩:=bl B;refine D6 (dt [1,2,5,6,7,8,47,48] [0,1,2,3] Z) (fun (g:Int)=>[(49,(true,i_ g))]) (fun g=>[]) (fun g m=>Cp (Hx l f s) m g=some N) (fun g=>N=.go g) 0 c1 b3 (sb Z) (pk [0,1,2,3]) ?_ ?_
 ·skip
  rintro g rfl;refine Aj (Au (Cq (sr (wf Jd Z (wl pl3 Z (Aq 2 Z Z) (wq Z (QV.eql Z Z Z Z) (wa Z (nt ?_))))))));refine wc Z o (fun S a1=>?_) (fun S C=>?_)
  ·skip
   refine sr (wm Z (wm Z (gP Z (QV.fieldAddr Ub Z Z) (gp Z (fun c=>Af Ol Z Z c (cu 1 2 (Ac 2 Z) Z)) (gP Z (Af Ol Z Z Z (Ac 1 Z)) (gp Z (fun c=>To Aqx (ns:=[((ele l.body f).a).st,((ele l.body f).a).bk]) (ms:=[0,0]) Z c Z c Z Z) (wq Z (A7 Z Z Z (fun h=>h)) (wm Z (gP Z (QV.fieldAddr V5 Z Z) (gp Z (fun c=>Af Ol Z Z c (cu 3 2 (Ac 2 Z) Z)) (gP Z (Af Ol Z Z Z (Ac 1 Z)) (gp Z (fun c=>To Aqx (ns:=[((ele l.body f).b).st,((ele l.body f).b).bk]) (ms:=[0,0]) Z c Z c Z Z) (wq Z (A7 Z Z Z (fun h=>h)) (wa Z (nt (A9 (kr (tr ?_))))))))))))))))));obtain rfl:=(Ad a1).symm;exact Aw Z Z fun w d=>kg d
  refine sr (wf Amg Z (wl pl2 Z (Aq 2 Z Z) (wq Z (QV.neq Z Z Z Z) (wa Z (nt ?_)))));refine wc Z C (fun T a2=>?_) (fun T F=>?_)
  ·skip
   refine sr (wa Z (nt (A9 (kr (tr ?_)))));obtain rfl:=(Ad a2).symm;exact Aw Z Z fun w d=>kg d
  refine sr (wf Jd Z (wl pl3 Z (Aq 2 Z Z) (wq Z (QV.eql Z Z Z Z) (wa Z (nt ?_)))));refine wc Z F (fun U a3=>?_) (fun U G=>?_)
  ·skip
   refine sr (wm Z (wm Z (gP Z (QV.fieldAddr Ub Z Z) (gp Z (fun c=>Af Ol Z Z c (cu 1 2 (Ac 2 Z) Z)) (gP Z (Af Ol Z Z Z (Ac 1 Z)) (gp Z (fun c=>To Aqx (ns:=[((ele l.body f).a).st,((ele l.body f).a).bk]) (ms:=[0,0]) Z c Z c Z Z) (wq Z (A7 Z Z Z (fun h=>h)) (wm Z (gP Z (QV.fieldAddr V5 Z Z) (gp Z (fun c=>Af Ol Z Z c (cu 3 2 (Ac 2 Z) Z)) (gP Z (Af Ol Z Z Z (Ac 1 Z)) (gp Z (fun c=>To Aqx (ns:=[((ele l.body f).b).st,((ele l.body f).b).bk]) (ms:=[0,0]) Z c Z c Z Z) (wq Z (A7 Z Z Z (fun h=>h)) (wa Z (nt (A9 (kr (tr ?_))))))))))))))))));obtain rfl:=(Ad a3).symm;exact Aw Z Z fun w d=>kg d
  refine sr (wf Jd Z (wl pl3 Z (Aq 2 Z Z) (wq Z (QV.eql Z Z Z Z) (wa Z (nt ?_)))));refine wc Z G (fun V a4=>?_) (fun V H=>?_)
  ·skip
   refine sr (wm Z (wm Z (gP Z (QV.fieldAddr Ub Z Z) (gp Z (fun c=>Af Ol Z Z c (cu 1 2 (Ac 2 Z) Z)) (gP Z (Af Ol Z Z Z (Ac 1 Z)) (gp Z (fun c=>To Aqx (ns:=[((ele l.body f).a).st,((ele l.body f).a).bk]) (ms:=[0,0]) Z c Z c Z Z) (wq Z (A7 Z Z Z (fun h=>h)) (wm Z (gP Z (QV.fieldAddr V5 Z Z) (gp Z (fun c=>Af Ol Z Z c (cu 3 2 (Ac 2 Z) Z)) (gP Z (Af Ol Z Z Z (Ac 1 Z)) (gp Z (fun c=>To Aqx (ns:=[((ele l.body f).b).st,((ele l.body f).b).bk]) (ms:=[0,0]) Z c Z c Z Z) (wq Z (A7 Z Z Z (fun h=>h)) (wa Z (nt (A9 (kr (tr ?_))))))))))))))))));obtain rfl:=(Ad a4).symm;exact Aw Z Z fun w d=>kg d
  refine sr (wf Jd Z (wl pl3 Z (Aq 2 Z Z) (wq Z (QV.eql Z Z Z Z) (wa Z (nt ?_)))));refine wc Z H (fun W a5=>?_) (fun W I=>?_)
  ·skip
   refine sr (wm Z (wm Z (gP Z (QV.fieldAddr V5 Z Z) (gp Z (fun c=>Af Ol Z Z c (cu 3 2 (Ac 2 Z) Z)) (gP Z (Af Ol Z Z Z (Ac 1 Z)) (gp Z (fun c=>To Aqx (ns:=[((ele l.body f).b).st,((ele l.body f).b).bk]) (ms:=[0,0]) Z c Z c Z Z) (wq Z (A7 Z Z Z (fun h=>h)) (wa Z (nt (A9 (kr (tr ?_))))))))))));obtain rfl:=(Ad a5).symm;exact Aw Z Z fun w d=>kg d
  refine sk (Ba (Aj (sr (wm Z (wm Z (gP Z (QV.fieldAddr Jd Z Z) (gp Z (fun c=>Cs pl3 Z c (Aq 2 Z Z)) (gp Z (fun c=>Af4 Z c Z Z) ?_))))))));obtain⟨d3,b7,a6⟩:=Dg I;refine gp Z (fun c=>QV.call Ai4 (De Z c (ea Z)) (fun w d=>have h:=Ld w (b7 c) ;h)) ?_;refine wq Z (A7 Z Z Z (fun h=>h)) (wa Z (nt (A9 ?_)));obtain rfl:=(Ad a6).symm;exact Aw Z Z fun w d=>kg d
 rintro g c7 u;obtain⟨c0,d0,rfl,p,q⟩:=A0 u;unfold Hx at p;refine sr (wq Z (QV.lss Z Z Z Z) (nt (Au ?_)));refine wc Z p (fun X a7=>?_) (fun X b2=>?_)
 ·skip
  refine sk (Aj (Au (Cq (sr (have ⟨t,J⟩:=cs a7;have ⟨c9,M⟩:=j.lenMap.ix (sz:=2) Ao t;wq Z (Ae Au7 Z Z Z Z M) (wq Z (Af Ol Z Z Z (el (Ai 0 Z i j) M t)) (Ab Z ((B9 Ah Ak9 (fun c4=>Ab Z ((ew 0 [i_ ((ele s g).st),i_ ((ele s g).bk)] Aan Z (ns (wq Z (Af Fc Z Z Z (Ac 4 Z)) (wm Z (wq Z (Af Ol Z Z Z (Ac 0 Z)) ?_))))))))))))))));obtain⟨d4,b8,K⟩:=An J;refine wq Z (QV.call en97 (ea Z) (fun w d=>have h:=Asp w b8 ((Ai 1 Z i (v.le n)) w d) ((Ai 1 Z i (k.le n)) w d) ((Ai 1 Z i (a0.le n)) w d);h)) ?_;refine wq Z (QV.not Z Z) (nt ?_);refine wc Z K (fun Y a8=>?_) (fun Y a9=>?_)
  ·skip
   refine sr (wa Z (nt (A9 (kr (tr (tr (kr (tr (tr ?_)))))))));obtain rfl:=Dr a8 q;obtain rfl:=(Ad o).symm;exact Aw Z Z fun w d=>kg d
  refine sk (Ba (Aj (Bn (have ⟨R,b0⟩:=cs a9;wq Z (A6 Z Z Z Z R) (wm Z (Bk ?_))))));exact D5 (g+1) c0 (A3 b0 q) (Cc _) (sb Z) (pk [1,2,3,4])
 refine Cw (te (te (Am ?_)));exact Eo g (Bh b2 q) (sb Z) (pk [0,1,2,3])
theorem Qm {U T V:Al}{l:Lp}{r:Bool} (w:Ak) (p:Is l=some r) (k:Arr w U 1 (l.logs.map Ar)) (j:Arr w T 9 (l.body.map Stm.cells)) (n:Arr w V 1 (l.outs.map Ar)):Calls Tryz.prog 27 #[.agg #[U,T,V]] w (fun e w'=>e=.returned (.bool r)∧Grow w w'):=by
 unfold Is at p;refine have i:=D0 (w:=w);cw 64 Tryz.func27 Z (sr (Ab Z ((A4 Ah Z Z (fun b1=>wa Z (nt (Au (sr (wf Pm Z (wl Fl Z (Aq 0 Z Z) (wq Z (A5 Tryz.underlying34 Z Z k.lenMap) (wm Z (nt ?_))))))))))))) (Av i (D3 w));obtain⟨R,s,c9,c1⟩:=bl p;refine D6 (dt [1,10,11] [0,1] Z) (fun (d:Int)=>[(12,(true,i_ d))]) (fun d=>[]) (fun d m=>Cp (Kr l) m d=some R) (fun d=>R=.go d) 0 c9 c1 (sb Z) (pk [0,1]) ?_ ?_
 ·skip
  rintro d rfl;refine Aj (sr (wa Z (nt (Au (sr (wf Yg Z (wl Fl Z (Aq 0 Z Z) (wq Z (A5 Tryz.underlying34 Z Z n.lenMap) (wm Z (nt ?_))))))))));obtain⟨S,u,c7,b9⟩:=bl s;refine B6 (dt [1,21,22] [0,1] Z) (fun (g:Int) (c:Int)=>[(5,(true,i_ g)),(23,(true,i_ c))]) (fun g c=>[]) (fun g c m=>Cp (Kq l) m (g,c)=some S) (fun g c=>S=.go (g,c)) (-1) 0 c7 b9 (sb Z) (pk [0,1]) ?_ ?_
  ·skip
   rintro g c rfl;refine Aj (Au (sr (wf Ds Z (wl J3 Z (Aq 0 Z Z) (wq Z (A5 Tryz.underlying45 Z Z j.lenMap) (wm Z (nt ?_)))))));obtain⟨Q,F,c8,c0⟩:=bl u;refine D6 (dt [1,39] [0,1] Z) (fun (f:Int)=>[(40,(true,i_ f))]) (fun f=>[]) (fun f m=>Cp (H4 l) m f=some Q) (fun f=>Q=.go f) 0 c8 c0 (sb Z) (pk [0,1]) ?_ ?_
   ·skip
    rintro f rfl;refine Aj (sr (wf Pm Z (wl Fl Z (Aq 0 Z Z) (wq Z (A5 Tryz.underlying34 Z Z k.lenMap) (wq Z (QV.leq Z Z Z Z) (wm Z (gP Z (QV.fieldAddr Ds Z Z) (gp Z (fun b=>Cs J3 Z b (Aq 0 Z Z)) (gp Z (fun b=>A5 Tryz.underlying45 Z b j.lenMap) (gp Z (fun b=>QV.gtr Z b Z Z) (wq Z (A7 Z Z Z (fun h=>h)) (wa Z (nt (A9 ?_))))))))))))));obtain rfl:=(Ad F).symm;exact Aw Z Z fun w a=>kg a
   rintro f m17 B;obtain⟨m19,d4,rfl,q,v⟩:=A0 B;unfold H4 at q;refine sr (wq Z (QV.lss Z Z Z Z) (nt (Au ?_)));refine wc Z q (fun Y G=>?_) (fun Y a8=>?_)
   ·skip
    refine sk (Aj (Au (Cq (sr (wm Z (wa Z (ns (wf Ds Z (wl J3 Z (Aq 0 Z Z) (wq Z (A5 Tryz.underlying45 Z Z j.lenMap) (wq Z (QV.gtr Z Z Z Z) (wm Z (gN Z (Af Fc Z Z Z (Ac 0 Z)) (gN Z (QV.move Z Z) ?_))))))))))))));obtain⟨d7,c2,H⟩:=Dg G;refine gn Z (fun b=>QV.call en57 (De Z b (De Z b eN)) (fun w a=>have h:=Aqd w (c2 b) ((Ai 1 Z i k) w a) ((Ai 1 Z i j) w a) ((Ai 1 Z i n) w a);h)) ?_;refine gn Z (fun b=>QV.not Z b) (wq Z (Bc Z Z Z (fun h=>Fm h)) (nt ?_));refine wc Z H (fun a0 a5=>?_) (fun a0 a6=>?_)
    ·skip
     refine sr (wa Z (nt (A9 (kr (tr (tr (kr (tr (tr ?_)))))))));obtain rfl:=Dr a5 v;obtain rfl:=(Ad F).symm;exact Aw Z Z fun w a=>kg a
    refine sk (Ba (Aj (Bn (have ⟨W,a7⟩:=cs a6;wq Z (A6 Z Z Z Z W) (wm Z (Bk ?_))))));exact D5 (f+1) m19 (A3 a7 v) (Cc _) (sb Z) (pk [0,1])
   refine Cw (te (te (Am ?_)));exact Eo f (Bh a8 v) (sb Z) (pk [0,1])
  rintro g c d0 C;obtain⟨c5,d5,rfl,o,x⟩:=A0 C;unfold Kq at o;simp only at o;refine sr (wq Z (QV.lss Z Z Z Z) (nt (Au ?_)));refine wc Z o (fun a1 I=>?_) (fun a1 b4=>?_)
  ·skip
   refine sk (Aj (Au (Cq (sr ?_))));obtain⟨z,a9⟩:=cs I;obtain⟨d2,O⟩:=n.lenMap.ix (sz:=1) Ao z;refine wq Z (Ae Fs Z Z Z Z O) (wl pl3 Z (cl 0 (Ai 1 Z i n) O z Z) (wa Z (nt (Au (sr (wm Z (wm Z (have ⟨c46,J⟩:=cs a9;wq Z (A6 Z Z Z Z c46) (wf Ds Z (wl J3 Z (Aq 0 Z Z) (wq Z (A5 Tryz.underlying45 Z Z j.lenMap) ?_)))))))))));obtain⟨d8,c3,K⟩:=An J;refine wq Z (QV.call Ai4 (ea Z) (fun w a=>have h:=Ld w c3 ;h)) ?_;refine wq Z (QV.not Z Z) (nt ?_);refine wc Z K (fun a2 b0=>?_) (fun a2 b2=>?_)
   ·skip
    refine sr (wa Z (nt (A9 (tr (kr (tr (tr (kr (tr (tr ?_))))))))));obtain rfl:=Dr b0 x;obtain rfl:=(Ad u).symm;exact Aw Z Z fun w a=>kg a
   refine sk (Aj (Bn (wm Z (wa Z (Bk (Ba (Aj (Bn (have ⟨X,b3⟩:=cs b2;wq Z (A6 Z Z Z Z X) (wm Z (Bk ?_)))))))))));exact Bs (ele l.outs c) (c+1) c5 (A3 b3 x) (Cc _) (sb Z) (pk [0,1])
  refine Cw (te (te (Am ?_)));exact Cm g c (Bh b4 x) (sb Z) (pk [0,1])
 rintro d d1 E;obtain⟨c6,d6,rfl,t,y⟩:=A0 E;unfold Kr at t;refine sr (wq Z (QV.lss Z Z Z Z) (nt (Au ?_)));refine wc Z t (fun a3 L=>?_) (fun a3 b8=>?_)
 ·skip
  refine sk (Aj (Au (Cq (sr ?_))));obtain⟨A,M⟩:=cs L;obtain⟨d3,P⟩:=k.lenMap.ix (sz:=1) Ao A;refine wq Z (Ae Fs Z Z Z Z P) (wl pl3 Z (cl 0 (Ai 1 Z i k) P A Z) (wa Z (ns (wm Z ?_))));obtain⟨d9,c4,N⟩:=An M;refine wq Z (QV.call Ai4 (ea Z) (fun w a=>have h:=Ld w c4 ;h)) ?_;refine wq Z (QV.not Z Z) (nt ?_);refine wc Z N (fun a4 b5=>?_) (fun a4 b6=>?_)
  ·skip
   refine sr (wa Z (nt (A9 (kr (tr (tr (kr (tr (tr ?_)))))))));obtain rfl:=Dr b5 y;obtain rfl:=(Ad s).symm;exact Aw Z Z fun w a=>kg a
  refine sk (Ba (Aj (Bn (have ⟨c75,b7⟩:=cs b6;wq Z (A6 Z Z Z Z c75) (wm Z (Bk ?_))))));exact D5 (d+1) c6 (A3 b7 y) (Cc _) (sb Z) (pk [0,1])
 refine Cw (te (te (Am ?_)));exact Eo d (Bh b8 y) (sb Z) (pk [0,1])
theorem Aqe {M L N O P:Al}{l:Lp}{s:Sta}{r:Bool} (w:Ak) (k:Pc l s=some r) (g:Arr w M 1 (l.logs.map Ar)) (y:Arr w L 9 (l.body.map Stm.cells)) (a3:Arr w N 1 (l.outs.map Ar)) (i:RowsA w O s.bef) (j:RowsA w P s.mem):Calls Tryz.prog 70 #[.agg #[M,L,N],.agg #[O,P]] w (fun e w'=>e=.returned (.bool r)∧Grow w w'):=by
 unfold Pc at k;refine have f:=D0 (w:=w);cw 59 Tryz.func70 Z (sr (Ab Z ((A4 Ah Z Z (fun b1=>Ab Z ((A4 Ah Z Z (fun b2=>wa Z (nt (Au (sr (wq Z (Af Fc Z Z Z (Ac 1 Z)) ?_)))))))))))) (Av f (D3 w));obtain⟨d5,c2,E⟩:=An k;refine wq Z (QV.call Ave (ea Z) (fun w b=>have h:=Qm w c2 ((Ai 2 Z f g) w b) ((Ai 2 Z f y) w b) ((Ai 2 Z f a3) w b);h)) ?_;refine wq Z (QV.not Z Z) (wm Z (gN Z (QV.fieldAddr Pp Z Z) (gn Z (fun a=>Cs Ko Z a (Aq 0 Z Z)) (gn Z (fun a=>A5 Tryz.underlying102 Z a i.slen) (gN Z (QV.fieldAddr Ds Z Z) (gn Z (fun a=>Cs J3 Z a (Aq 1 Z Z)) (gn Z (fun a=>A5 Tryz.underlying45 Z a y.lenMap) (gn Z (fun a=>QV.neq Z a Z a) (wq Z (Bc Z Z Z (fun h=>Fm h)) (wm Z (gN Z (QV.fieldAddr R6 Z Z) (gn Z (fun a=>Cs Ko Z a (Aq 0 Z Z)) (gn Z (fun a=>A5 Tryz.underlying102 Z a j.slen) (gN Z (QV.fieldAddr Pm Z Z) (gn Z (fun a=>Cs Fl Z a (Aq 1 Z Z)) (gn Z (fun a=>A5 Tryz.underlying34 Z a g.lenMap) (gn Z (fun a=>QV.neq Z a Z a) (wq Z (Bc Z Z Z (fun h=>Fm h)) (nt ?_)))))))))))))))))));refine wc Z E (fun Y b7=>?_) (fun Y H=>?_)
 ·skip
  refine sr (wa Z (nt (A9 (tr ?_))));obtain rfl:=(Ad b7).symm;exact Aw Z Z fun w b=>kg b
 refine sk (Aj (Au (sr (wf Pp Z (wl Ko Z (Aq 0 Z Z) (wq Z (A5 Tryz.underlying102 Z Z i.slen) (wm Z (nt ?_))))))));obtain⟨K,n,c5,b8⟩:=bl H;refine D6 (dt [2,3,31,32] [0,1,2] Z) (fun (c:Int)=>[(33,(true,i_ c))]) (fun c=>[]) (fun c m=>Cp (K1 s) m c=some K) (fun c=>K=.go c) 0 c5 b8 (sb Z) (pk [0,1,2]) ?_ ?_
 ·skip
  rintro c rfl;refine Aj (Au (sr (wf R6 Z (wl Ko Z (Aq 0 Z Z) (wq Z (A5 Tryz.underlying102 Z Z j.slen) (wm Z (nt ?_)))))));obtain⟨J,z,c6,b9⟩:=bl n;refine D6 (dt [2,42,43] [0,1,2] Z) (fun (d:Int)=>[(44,(true,i_ d))]) (fun d=>[]) (fun d m=>Cp (Kz l s) m d=some J) (fun d=>J=.go d) 0 c6 b9 (sb Z) (pk [0,1,2]) ?_ ?_
  ·skip
   rintro d rfl;refine Aj (sr (wa Z (nt (A9 ?_))));obtain rfl:=(Ad z).symm;exact Aw Z Z fun w b=>kg b
  rintro d m19 v;obtain⟨c3,d1,rfl,o,q⟩:=A0 v;unfold Kz at o;refine sr (wq Z (QV.lss Z Z Z Z) (nt (Au ?_)));refine wc Z o (fun V A=>?_) (fun V b0=>?_)
  ·skip
   refine sk (Aj (Au (Cq (sr (wm Z ?_)))));obtain⟨Q,B⟩:=cs A;obtain⟨c8,d3,c0,a4,a1⟩:=j.ix Q;refine wq Z (Ae Ti Z Z Z Z c0) (wl Ty Z (co 0 (A2 2 Z f a4) Z) (wa Z (wa Z (ns (wm Z (wq Z (A5 Tryz.underlying43 Z Z a1.lenMap) (wf Pm Z (wl Fl Z (Aq 1 Z Z) (wm Z ?_)))))))));obtain⟨u,a6⟩:=cs B;obtain⟨c9,I⟩:=g.lenMap.ix (sz:=1) Ao u;refine wq Z (Ae Fs Z Z Z Z I) (wl pl3 Z (cl 0 (Ai 2 Z f g) I u Z) (have ⟨R,C⟩:=cs a6;wq Z (QV.shlD Z Z Z Z R) (wq Z (QV.neq Z Z Z Z) (nt ?_))));refine wc Z C (fun W a7=>?_) (fun W a8=>?_)
   ·skip
    refine sr (wa Z (nt (A9 (kr (tr (tr (kr (tr (tr ?_)))))))));obtain rfl:=Dr a7 q;obtain rfl:=(Ad z).symm;exact Aw Z Z fun w b=>kg b
   refine sk (Ba (Aj (Bn (have ⟨S,a9⟩:=cs a8;wq Z (A6 Z Z Z Z S) (wm Z (Bk ?_))))));exact D5 (d+1) c3 (A3 a9 q) (Cc _) (sb Z) (pk [0,1,2])
  refine Cw (te (te (Am ?_)));exact Eo d (Bh b0 q) (sb Z) (pk [0,1,2])
 rintro c c7 x;obtain⟨c4,d2,rfl,p,t⟩:=A0 x;unfold K1 at p;refine sr (wq Z (QV.lss Z Z Z Z) (nt (Au ?_)));refine wc Z p (fun X F=>?_) (fun X b6=>?_)
 ·skip
  refine sk (Aj (Au (Cq (sr ?_))));obtain⟨T,G⟩:=cs F;obtain⟨d0,d4,c1,a5,a2⟩:=i.ix T;refine wq Z (Ae Ti Z Z Z Z c1) (wl Ty Z (co 0 (A2 2 Z f a5) Z) (wa Z (ns (wm Z (wq Z (A5 Tryz.underlying43 Z Z a2.lenMap) (wq Z (QV.neq Z Z Z Z) (nt ?_)))))));refine wc Z G (fun a0 b3=>?_) (fun a0 b4=>?_)
  ·skip
   refine sr (wa Z (nt (A9 (kr (tr (tr (kr (tr (tr ?_)))))))));obtain rfl:=Dr b3 t;obtain rfl:=(Ad n).symm;exact Aw Z Z fun w b=>kg b
  refine sk (Ba (Aj (Bn (have ⟨U,b5⟩:=cs b4;wq Z (A6 Z Z Z Z U) (wm Z (Bk ?_))))));exact D5 (c+1) c4 (A3 b5 t) (Cc _) (sb Z) (pk [0,1,2])
 refine Cw (te (te (Am ?_)));exact Eo c (Bh b6 t) (sb Z) (pk [0,1,2])
end Go.Proofs.YtaimbkndebaaiaaGreatDoor
end
section
namespace Go.Proofs.YtaimbkndebaaiaaGreatDoor
open Go.Rd
open TLib TLibR TLibA TSay TNum0 TNum TLoop
namespace TPar
theorem ag50:Sg Tryz.prog 50 2:=⟨_,Tryz.underlying50,rfl,Ag⟩
theorem A1y:Go.Rd.Enters Tryz.prog 12:=eT Tryz.func12
theorem en142:Go.Rd.Enters Tryz.prog 142:=eT Tryz.func142
theorem en143:Go.Rd.Enters Tryz.prog 143:=eT Tryz.func143
theorem en144:Go.Rd.Enters Tryz.prog 144:=eT Tryz.func144
theorem en145:Go.Rd.Enters Tryz.prog 145:=eT Tryz.func145
theorem en21:Go.Rd.Enters Tryz.prog 21:=eT Tryz.func21
theorem en26:Go.Rd.Enters Tryz.prog 26:=eT Tryz.func26
theorem en54:Go.Rd.Enters Tryz.prog 54:=eT Tryz.func54
theorem A1v:Go.Rd.Enters Tryz.prog 55:=eT Tryz.func55
theorem en94:Go.Rd.Enters Tryz.prog 94:=eT Tryz.func94
theorem en95:Go.Rd.Enters Tryz.prog 95:=eT Tryz.func95
theorem en96:Go.Rd.Enters Tryz.prog 96:=eT Tryz.func96
theorem Qe:Cb Tryz.prog 77 0 0:=fT 2 Tryz.underlying77
theorem A4l:N3 Tryz.prog 176:=⟨_,Tryz.underlying176,rfl⟩
theorem pl178:N3 Tryz.prog 178:=⟨_,Tryz.underlying178,rfl⟩
theorem A4h:Je Tryz.prog 177 176 1:=⟨Tryz.underlying177,Ag⟩
theorem A4g:Je Tryz.prog 179 178 1:=⟨Tryz.underlying179,Ag⟩
theorem sz2:Dt Tryz.prog 2 1:=by unfold Dt;kernel_rfl
theorem sz3:Dt Tryz.prog 3 1:=by unfold Dt;kernel_rfl
theorem Ai2:Dt Tryz.prog 34 1:=by unfold Dt;kernel_rfl
theorem sz45:Dt Tryz.prog 45 1:=by unfold Dt;kernel_rfl
theorem Au6:Dt Tryz.prog 47 3:=by unfold Dt;kernel_rfl
theorem Axl:Dt Tryz.prog 50 2:=by unfold Dt;kernel_rfl
theorem A5v:Nx Tryz.prog 177 176 1 [.pointer none]:=⟨Tryz.underlying177,Ag⟩
theorem A5u:Nx Tryz.prog 179 178 1 [.pointer none]:=⟨Tryz.underlying179,Ag⟩
theorem Axs:Nx Tryz.prog 45 82 9 [.int .i64 0,.int .i64 0,.int .i64 0,.int .i64 0,.int .i64 0,.int .i64 0,.int .i64 0,.int .i64 0,.int .i64 0]:=⟨Tryz.underlying45,Ag⟩
theorem ve45:Xj Tryz.prog 45 82 9 72:=⟨Tryz.underlying45,Ag,Ah⟩
theorem A1l:ZeroT Tryz.prog 47 [.slice none 0 0,.slice none 0 0,.slice none 0 0]:=by unfold ZeroT;kernel_rfl
theorem ze50:ZeroT Tryz.prog 50 [.int .i64 0,.int .i64 0]:=by unfold ZeroT;kernel_rfl
end TPar
open TPar
theorem Acu {s:List UInt8}{most:Int}{r:Int×Bool} (w:Ak) (c:Kx s most=some r) (k:Glb Tryz.prog w):Calls Tryz.prog 95 #[B5 s,.int .i64 most] w (fun e w'=>e=.returned (.tuple #[.int .i64 r.1,.bool r.2])∧Grow w w'):=by
 unfold Kx at c;refine have f:=D0 (w:=w);cw 29 Tryz.func95 Z (have d:=Xp k;sr (wa Z (wa Z (ns (wm Z (Ab Z ?_)))))) (Av f (D3 w));obtain⟨t,m,g⟩:=An c;refine(cqG d f en143 Z (As8 m) Z (fun p j q=>wm Z (wq Z (Bi Z Z Z) (wq Z (Bi Z Z Z) (wa Z (wa Z (ns (wm Z (wm Z (wq Z (Axb Tryz.underlying118 Z Z j) (wm Z (gP Z (QV.move Z Z) ?_))))))))))));obtain⟨x5,n,i⟩:=Dg g;refine gp Z (fun a=>QV.call en144 (De Z a eN) (fun w b=>have h:=Ai7 w (n a) (d.at b);h)) ?_;refine gP Z (QV.move Z Z) (gp Z (fun a=>C4 Z a Z a) (wq Z (A7 Z Z Z (fun h=>h)) (wm Z (gP Z (QV.move Z Z) ?_))));obtain⟨u,o,l⟩:=Dg i;refine gp Z (fun a=>QV.call en91 (De Z a (ea Z)) (fun w b=>have h:=W0 w (o a) ;h)) ?_;refine gp Z (fun a=>Ki Tryz.underlying9 Z a) (gP Z (QV.move Z Z) (gp Z (fun a=>QV.leq Z a Z a) (wq Z (A7 Z Z Z (fun h=>h)) (wa Z (wa Z (nt (A9 ?_)))))));obtain rfl:=(Ad l).symm;exact Eg Z Z Z fun w b=>kg b
theorem R8 {s:List UInt8}{r:Int×Bool} (w:Ak) (a:Ft s=some r) (d:Glb Tryz.prog w):Calls Tryz.prog 55 #[B5 s] w (fun e w'=>e=.returned (.tuple #[.int .i64 r.1,.bool r.2])∧Grow w w'):=by
 unfold Ft at a;refine have f:=D0 (w:=w);cw 13 Tryz.func55 Z (have c:=Xp d;sr (wa Z (wa Z (ns (wm Z ?_))))) (Av f (D3 w));obtain⟨j,i,g⟩:=An a;refine wq Z (QV.call en95 (ea Z) (fun w b=>have h:=Acu w i (c.at b);h)) ?_;refine wm Z (wq Z (Bi Z Z Z) (wq Z (Bi Z Z Z) (wa Z (wa Z (ns (wm Z (wm Z (wa Z (wa Z (nt (A9 ?_)))))))))));obtain rfl:=(Ad g).symm;exact Eg Z Z Z fun w b=>kg b
theorem Ano {s:List UInt8}{r:Rf×Bool} (w:Ak) (d:M4 s=some r) (n:Glb Tryz.prog w):Calls Tryz.prog 96 #[B5 s] w (fun e w'=>e=.returned (.tuple #[.agg #[.int .i64 r.1.st,.int .i64 r.1.bk],.bool r.2])∧Grow w w'):=by
 unfold M4 at d;refine have o:=D0 (w:=w);cw 53 Tryz.func96 Z (have c:=Xp n;sr (Ab Z ((B9 Ah Ak9 (fun b1=>wa Z (ns (wm Z ?_))))))) (Av o (D3 w));obtain⟨z,u,i⟩:=An d;refine wq Z (QV.call en21 (ea Z) (fun w a=>have h:=Afh w u ;h)) ?_;refine wm Z (wq Z (Bi Z Z Z) (wq Z (Bi Z Z Z) (wa Z (wa Z (ns (wm Z ?_))))));obtain⟨x5,v,j⟩:=An i;refine wq Z (QV.call en145 (ea Z) (fun w a=>have h:=Cut_w w v (c.at a);h)) ?_;refine wm Z (wq Z (Bi Z Z Z) (wq Z (Bi Z Z Z) (wq Z (Bi Z Z Z) (wa Z (wa Z (wa Z (ns (wm Z ?_))))))));obtain⟨b,x,f⟩:=An j;refine wq Z (QV.call A1v (ea Z) (fun w a=>have h:=R8 w x (c.at a);h)) ?_;refine wm Z (wq Z (Bi Z Z Z) (wq Z (Bi Z Z Z) (wa Z (wa Z (ns (wm Z (wq Z (QV.build (ps:=[(0,.tmp 30)]) (cells:=[i_ b.1,i_ 0]) (ea Z) Ag) (Ab Z ((B9 Ah Ak9 (fun y=>Ab Z ((ew 0 [i_ b.1,i_ 0] Aan Z (nt (Au (sr (wm Z (nt ?_))))))))))))))))));refine wc Z f (fun l g=>?_) (fun l q=>?_)
 ·skip
  refine sr (wm Z ?_);obtain⟨k,t,p⟩:=An g;refine wq Z (QV.call A1v (ea Z) (fun w a=>have h:=R8 w t (c.at a);h)) ?_;refine wm Z (wq Z (Bi Z Z Z) (wq Z (Bi Z Z Z) (wa Z (wa Z (ns (wm Z (wf Rg Z (Ab Z ((ew 0 [i_ k.1] sz3 Z (nr (wm Z (wm Z (gP Z (QV.move Z Z) (wq Z (A7 Z Z Z (fun h=>h)) (wm Z (gP Z (QV.move Z Z) (gp Z (fun m=>QV.gtr Z m Z Z) (wq Z (A7 Z Z Z (fun h=>h)) (wa Z (ns (wq Z (Af Ol Z Z Z (Ac 0 Z)) (wm Z (wm Z (gP Z (QV.move Z Z) (wq Z (A7 Z Z Z (fun h=>h)) (Ab Z ((ew 1 [i_ b.1,i_ k.1] Aan Z (wa Z (nt (A9 ?_))))))))))))))))))))))))))))))));obtain rfl:=(Ad p).symm;exact Dq Z Ol Z Z Z (Ac 1 Z) fun w a=>kg a
 refine sk (Aj (sr (wq Z (Af Ol Z Z Z (Ac 0 Z)) (wm Z (wm Z (gP Z (QV.move Z Z) (wq Z (A7 Z Z Z (fun h=>h)) (Ab Z ((ew 1 [i_ b.1,i_ 0] Aan Z (wa Z (nt (A9 ?_)))))))))))));obtain rfl:=(Ad q).symm;exact Dq Z Ol Z Z Z (Ac 1 Z) fun w a=>kg a
theorem Ann {word:List UInt8}{r:Int×List UInt8×Bool} (w:Ak) (f:Pu word=some r) (I:Glb Tryz.prog w):Calls Tryz.prog 94 #[B5 word] w (fun e w'=>e=.returned (.tuple #[.int .i64 r.1,B5 r.2.1,.bool r.2.2])∧Grow w w'):=by
 unfold Pu at f;refine have d:=D0 (w:=w);cw 30 Tryz.func94 Z (have H:=Xp I;sr (wa Z (wa Z (wa Z (nt (Au (sr (wm Z (nt (Cq (sr (wq Z (C4 Z Z Z Z) (wa Z (nt ?_)))))))))))))) (Av d (D3 w));refine wc Z f (fun A K=>?_) (fun A p=>?_)
 ·skip
  refine sr (wa Z (wa Z (wa Z (nt (A9 (kr (tr ?_)))))));obtain rfl:=(Ad K).symm;exact Og Z Z Z Z fun w a=>kg a
 refine sr (wq Z (C4 Z Z Z Z) (wa Z (nt ?_)));refine wc Z p (fun F Q=>?_) (fun F s=>?_)
 ·skip
  refine sr (wa Z (wa Z (wa Z (nt (A9 (kr (tr ?_)))))));obtain rfl:=(Ad Q).symm;exact Og Z Z Z Z fun w a=>kg a
 refine sr (wq Z (C4 Z Z Z Z) (wa Z (nt ?_)));refine wc Z s (fun G R=>?_) (fun G t=>?_)
 ·skip
  refine sr (wa Z (wa Z (wa Z (nt (A9 (kr (tr ?_)))))));obtain rfl:=(Ad R).symm;exact Og Z Z Z Z fun w a=>kg a
 refine sr (wq Z (C4 Z Z Z Z) (wa Z (nt ?_)));refine wc Z t (fun B J=>?_) (fun B k=>?_)
 ·skip
  refine sr (wa Z (wa Z (wa Z (nt (A9 (kr (tr ?_)))))));obtain rfl:=(Ad J).symm;exact Og Z Z Z Z fun w a=>kg a
 refine sk (Ba (Aj (Au (sr (Ab Z ?_)))));obtain⟨W,T,l⟩:=An k;refine(cqG H d en142 Z (A1j T) Z (fun X c Y=>wq Z (A5 Tryz.underlying22 Z Z c.lenMap) (wm Z (nt ?_))));obtain⟨v,n,V,S⟩:=bl l;refine D6 (dt [0,16,17] [0] Z) (fun (b:Int)=>[(18,(true,i_ b))]) (fun b=>[]) (fun b m=>Cp (G0 word W) m b=some v) (fun b=>v=.go b) 0 V S (sb Z) (pk [0]) ?_ ?_
 ·skip
  rintro b rfl;refine Aj (sr (wa Z (wa Z (wa Z (nt (A9 ?_))))));obtain rfl:=(Ad n).symm;exact Og Z Z Z Z fun w a=>kg a
 rintro b a0 j;obtain⟨U,a2,rfl,g,h⟩:=A0 j;unfold G0 at g;refine sr (wq Z (QV.lss Z Z Z Z) (nt (Au ?_)));refine wc Z g (fun C o=>?_) (fun C P=>?_)
 ·skip
  refine sk (Aj (Au (Cq (sr (wm Z ?_)))));obtain⟨i,q⟩:=cs o;obtain⟨a1,u⟩:=c.lenMap.ix (sz:=1) Ao i;refine wq Z (Ae Qa Z Z Z Z u) (wl pl9 Z (cl 0 (Ai 0 Z d c) u i Z) (wa Z (wa Z (ns (wm Z (wm Z (wq Z (C4 Z Z Z Z) (nt ?_))))))));refine wc Z q (fun E L=>?_) (fun E N=>?_)
  ·skip
   refine sr (wm Z (have ⟨x,y,M⟩:=cs2 L;wq Z (A6 Z Z Z Z x) (wq Z (A6 Z Z Z Z y) (wa Z (wa Z (wa Z (nt (A9 (kr (tr (tr (kr (tr (tr ?_))))))))))))));obtain rfl:=Dr M h;obtain rfl:=(Ad n).symm;exact Og Z Z Z Z fun w a=>kg a
  refine sk (Ba (Aj (Bn (have ⟨z,O⟩:=cs N;wq Z (A6 Z Z Z Z z) (wm Z (Bk ?_))))));exact D5 (b+1) U (A3 O h) (Cc _) (sb Z) (pk [0])
 refine Cw (te (te (Am ?_)));exact Eo b (Bh P h) (sb Z) (pk [0])
theorem Abj {y u z:Al}{I:Nat}{d1:Al}{F:List Int}{o:List Stm}{G:List Int}{words:List (List UInt8)}{r:Bool×List Stm}{v:Ak} (N:I3 F o G words=some r) (h7:SliceLen y F.length) (K:SliceLen u o.length) (f2:SliceLen z G.length) (s:Arr v d1 1 (words.map O0)) (M:Nat→Prop) (w:Ak) (B:GlbM Tryz.prog M w) (n:Base M v w) (g9:Own M w [blk I [y,u,z] 77,vec y 3 1 (List.map Ar F),vec u 82 9 (List.map Stm.cells o),vec z 3 1 (List.map Ar G)] w):Calls Tryz.prog 54 #[.pointer (some (⟨I,0,none⟩)),d1] w (fun e w'=>∃ X:Al×Ak,e=.returned (.bool r.1)∧Own M w (kn M w.heap.size v X.2::[blk I [y,X.1,z] 77,vec y 3 1 (List.map Ar F),vec z 3 1 (List.map Ar G),vec X.1 82 9 (List.map Stm.cells r.2)]) w'∧SliceLen X.1 (r.2).length):=by
 unfold I3 at N;refine cw 121 Tryz.func54 Z (sr (wa Z (ns (wm Z ?_)))) (Av n g9);obtain⟨c1,a6⟩:=cs N;obtain⟨i1,c2⟩:=s.lenMap.ix (sz:=1) Ao c1;refine wq Z (Ae Qa Z Z Z Z c2) (wl pl9 Z (cl 0 (Ai 0 Z n s) c2 c1 Z) ?_);obtain⟨x5,h1,g0⟩:=An a6;refine wq Z (QV.call en94 (ea Z) (fun w b=>have h:=Ann w h1 (B.at b);h)) ?_;refine wm Z (wq Z (Bi Z Z Z) (wq Z (Bi Z Z Z) (wq Z (Bi Z Z Z) (wa Z (wa Z (wa Z (nt (Au (sr (wm Z (wq Z (QV.not Z Z) (wm Z (gN Z (QV.move Z Z) (gn Z (fun a=>A5 Tryz.underlying22 Z a s.lenMap) (have ⟨c8,b8⟩:=cs g0;gn Z (fun a=>D2 Z a Z Z (c8 a)) (gN Z (QV.move Z Z) (gn Z (fun a=>Ki Tryz.underlying9 Z a) (gn Z (fun a=>QV.neq Z a Z a) (wq Z (Bc Z Z Z (fun h=>Fm h)) (wm Z (gN Z (QV.move Z Z) (gn Z (fun a=>QV.nilCheck Z a) (gn Z (fun a=>QV.fieldAddr Qe Z a) (gn Z (fun a=>QV.fieldAddr Yg Z a) (gn Z (fun a=>Cs Fl Z a (Aq 1 Z Z)) (gn Z (fun a=>A5 Tryz.underlying34 Z a f2) (gn Z (fun a=>QV.gtr Z a Z Z) (wq Z (Bc Z Z Z (fun h=>Fm h)) (nt ?_)))))))))))))))))))))))))))));refine wc Z b8 (fun e2 f5=>?_) (fun e2 a3=>?_)
 ·skip
  refine sr (wa Z (nt (A9 (tr ?_))));obtain rfl:=(Ad f5).symm;refine Aw Z Z (fun w b=>?_);exact⟨(u,v),Z,b.pick [0,1,2,4,3] Ah,K⟩
 refine sk (Aj (sr (wm Z (wq Z (QV.build (ps:=[(0,.tmp 40)]) (cells:=[i_ x5.1,i_ 0,i_ 0,i_ 0,i_ 0,i_ 0,i_ 0,i_ 0,i_ 0]) (ea Z) Ag) (Ab Z ((B9 Ah Tv (fun i=>Ab Z ((ew 0 [i_ x5.1,i_ 0,i_ 0,i_ 0,i_ 0,i_ 0,i_ 0,i_ 0,i_ 0] Tw Z (nt (Au (sr (wm Z (wq Z (QV.eql Z Z Z Z) (nt ?_))))))))))))))));refine wc Z a3 (fun e3 a4=>?_) (fun e3 f7=>?_)
 ·skip
  refine sr (wm Z ?_);obtain⟨Q,a5⟩:=cs a4;obtain⟨i0,c0⟩:=s.lenMap.ix (sz:=1) Ao Q;refine wq Z (Ae Qa Z Z Z Z c0) (wl pl9 Z (cl 0 (Ai 1 Z n s) c0 Q Z) ?_);obtain⟨A,h0,a7⟩:=An a5;refine wq Z (QV.call en95 (ea Z) (fun w b=>have h:=Acu w h0 (B.at b);h)) ?_;refine wm Z (wq Z (Bi Z Z Z) (wq Z (Bi Z Z Z) (wf Amg Z (Ab Z ((ew 0 [i_ A.1] sz2 Z (wa Z (nt (Au (dp 13 [1,0,2,3,5] Z (zm 0 Z Z (zm 1 Z Z (wz 2 Z Z (QV.nilCheck Z Z) (zf 3 Qe Z Z (zf 4 Ds Z Z (zl 5 J3 Z Z (Aq 2 Z Z) (wz 6 Z Z (Af Oj Z Z Z (Ac 1 Z)) (Cx 7 Z Ag Z ((Di Ah Axs Ah Ah (ps:=[(0,.tmp 58)]) (cells:=[i_ x5.1,i_ 0,i_ 0,i_ 0,i_ 0,i_ 0,i_ 0,i_ 0,i_ A.1]) (ea Z) Ag (fun h5=>bp [2,0,1,3,4,6] Z (pk [0,2,3,4,5]) (Cx 8 Z Ag Z ?_))))))))))))))))))))));obtain⟨R,f6⟩:=cs a7;refine(Bt (enc:=Stm.cells) (xs:=o) (ys:=[(Stm.mk x5.1 (Rf.mk 0 0) (Rf.mk 0 0) 0 0 0 A.1)]) ((o++[(Stm.mk x5.1 (Rf.mk 0 0) (Rf.mk 0 0) 0 0 0 A.1)])) 5 Ah ve45 Z Z Z Z Z (Bb 0 (rows:=[(Stm.mk x5.1 (Rf.mk 0 0) (Rf.mk 0 0) 0 0 0 A.1)].map Stm.cells) Z Z (Bq An5)) An5 (Stm.cells_one _) Z R.1 R.2 (fun c9 O=>bp [2,0,1,3,4,5,6] Z (pk [0,1,2,3,4,6]) (wz 9 Z Z (QV.nilCheck Z Z) (zf 10 Qe Z Z (zf 11 Ds Z Z (Ig 12 Z Ag Z ((ex 3 [c9] (Hr O) sz45 (oc (Cy O) B3) Z (Aj (sr (wm Z (wa Z (nt (A9 (tr ?_)))))))))))))));obtain rfl:=(Ad f6).symm;refine Aw Z Z (fun w b=>?_);exact⟨(c9,v),Z,b.pick [2,3,4,6,5] Ah,O⟩
 refine sk (Aj (sr (wf Ss Z (wf Ye Z (wf Yd Z (Ab Z ((Di Ah A5v Ah Ah (ps:=[(0,.tmp 65),(1,.tmp 66),(2,.tmp 67)]) (cells:=[.pointer (some (⟨i,5,none⟩)),.pointer (some (⟨i,6,none⟩)),.pointer (some (⟨i,7,none⟩))]) (ea Z) Ag (fun d3=>F7 (fun w b=>b.blkVec (Agl i) (([5,6,7]:List Int):List Int) Z Akb (nl Z)) (kp [2,0,1,3,4,5,6] Z (Gk n (fun h8 a2 g7=>have e8:=Cj g7;wf Ub Z (wf V5 Z (Ab Z ((Di Ah A5u Ah Ah (ps:=[(0,.tmp 69),(1,.tmp 70)]) (cells:=[.pointer (some (⟨i,1,none⟩)),.pointer (some (⟨i,3,none⟩))]) (ea Z) Ag (fun d4=>F7 (fun w b=>b.blkVec (Agl i) (([1,3]:List Int):List Int) Z Akb (nl Z)) (kp [1,0,2,3,4,5,6] Z (Gk n (fun t L g8=>have e9:=Cj g8;wa Z (wa Z (nt (Au (sr (wm Z (have ⟨S,a8⟩:=cs f7;have J:=Ip (s.le (a2.trans L)) S;wq Z (Ow Qa Z Z (s.le (a2.trans L)).lenMap Z Z S) (wq Z (A5 Tryz.underlying22 Z Z J.lenMap) (wm Z (nt ?_)))))))))))))))))))))))))))));obtain⟨c7,C,h4,g6⟩:=bl a8;refine Aw4 (dt [0,6,8,73,74] [0,2,3,4,5] Z) (fun (d:List Int) (g:List Int) (f:List Int) (l:Int) (j:Al) (k:Al)=>[(9,(true,j)),(10,(true,k)),(75,(true,i_ l))]) (fun d g f l j k=>[blk i (List.map Dv d) 82]) (fun d g f l j k m=>Cp (Da o words x5) m (d,g,f,l)=some c7∧Arr t j 1 (g.map (Agl i))∧Arr t k 1 (f.map (Agl i))) (fun d g f l j k=>c7=.go (d,g,f,l)∧Arr t j 1 (g.map (Agl i))∧Arr t k 1 (f.map (Agl i))) ([x5.1,0,0,0,0,0,0,0,0]:List Int) ([5,6,7]:List Int) ([1,3]:List Int) 0 (Fp d3 3 3) (Fp d4 2 2) h4 ⟨g6,(e8.le L),e9⟩ (sb Z) (pk [1,0,2,3,4,5]) ?_ ?_
 ·skip
  rintro d g f l j k ⟨rfl,p,q⟩;refine Aj (Au (dp 13 [1,0,2,3,5] Z (zm 0 Z Z (zm 1 Z Z (wz 2 Z Z (QV.nilCheck Z Z) (zf 3 Qe Z Z (zf 4 Ds Z Z (zl 5 J3 Z Z (Aq 2 Z Z) ?_))))))));obtain⟨d5,T,f8⟩:=cs2 C;refine wz 6 Z Z (Af (cs:=(Z6 d).cells) Oj Z Z Z (S8 (c:=Dv) (xs:=d) 1 Z (Ap5 d5))) (Cx 7 Z Ag Z ((Di Ah Axs Ah Ah (ps:=[(0,.tmp 115)]) (cells:=(Stm.cells (Z6 d))) (ea Z) Ag (fun h6=>bp [2,0,1,3,4,6] Z (pk [0,2,3,4,5]) (Cx 8 Z Ag Z ((Bt (enc:=Stm.cells) (xs:=o) (ys:=[(Z6 d)]) ((o++[(Z6 d)])) 5 Ah ve45 Z Z Z Z Z (Bb 0 (rows:=[(Z6 d)].map Stm.cells) Z Z (Bq An5)) An5 (Stm.cells_one _) Z T.1 T.2 (fun d0 P=>bp [2,0,1,3,4,5,6] Z (pk [0,1,2,3,4,6]) (wz 9 Z Z (QV.nilCheck Z Z) (zf 10 Qe Z Z (zf 11 Ds Z Z (Ig 12 Z Ag Z ((ex 3 [d0] (Hr P) sz45 (oc (Cy P) B3) Z (Aj (sr (wa Z (nt (A9 ?_)))))))))))))))))));obtain rfl:=(Ad f8).symm;refine Aw Z Z (fun w b=>?_);exact⟨(d0,t),Z,b.pick [2,3,4,6,5] Ah,P⟩
 rintro d g f l j k h9 ⟨a1,p,q⟩;obtain⟨c6,i5,rfl,E,x⟩:=A0 a1;unfold Da at E;simp only at E;refine sr (wq Z (QV.lss Z Z Z Z) (nt (Au ?_)));refine wc Z E (fun e4 a9=>?_) (fun e4 f4=>?_)
 ·skip
  refine sk (Aj (Au (Cq (sr (wm Z ?_)))));obtain⟨U,f9⟩:=cs a9;obtain⟨i2,c3⟩:=J.lenMap.ix (sz:=1) Ao U;refine wq Z (Ae Qa Z Z Z Z c3) (wl pl9 Z (cl 0 (Ai 1 Z n J) c3 U Z) (wa Z (wa Z (nt (Au (sr (wm Z (wm Z (have ⟨d6,b0⟩:=cs f9;wq Z (Ks Tryz.underlying9 Z Z Z Z d6) (wq Z (QV.eql Z Z Z Z) (nt ?_)))))))))));refine wc Z b0 (fun e5 b1=>?_) (fun e5 b5=>?_)
  ·skip
   refine Au (dp 11 [1,2,3,4,5] Z (zm 0 Z Z ?_));obtain⟨V,b2⟩:=cs b1;obtain⟨i3,c4⟩:=p.lenMap.ix (sz:=1) Ao V;refine wz 1 Z Z (Ae A4h Z Z Z Z c4) (zl 2 A4l Z Z (cl 0 (Ai 0 Z n p) c4 V Z) (zm 3 Z Z ?_));obtain⟨d2,h2,b3⟩:=An b2;refine wz 4 Z Z (QV.call A1v (ea Z) (fun w b=>have h:=R8 w h2 (B.at b);h)) ?_;refine zm 5 Z Z (wz 6 Z Z (Bi Z Z Z) (wz 7 Z Z (Bi Z Z Z) (wz 8 Z Z (QV.nilCheck Z Z) (Cx 9 Z Ag Z ?_))));obtain⟨d7,W,b4⟩:=cs2 b3;refine(Vj (c:=Dv) (xs:=d) 0 (ele g 0) d2.1 Z Z Z Z Z Z d7 Z Z sz3 (bp [1,0,2,3,4,5] Z (pk [0,2,3,4,5]) (wz 10 Z Z (QV.assign Z Z) (Eh Ag (Aj (Bn (wm Z (have f0:=Ip p W;wq Z (Ow A4h Z Z p.lenMap Z Z W) (wa Z (ns (wm Z (wq Z (QV.not Z Z) (nt ?_)))))))))))));refine wc Z b4 (fun e6 g1=>?_) (fun e6 g2=>?_)
   ·skip
    refine sr (wa Z (nt (A9 (kr (tr (tr (kr (tr (tr ?_)))))))));obtain rfl:=Dr g1 x;obtain rfl:=(Ad C).symm;refine Aw Z Z (fun w b=>?_);exact⟨(u,t),Z,b.pick [1,2,3,5,4] Ah,K⟩
   refine sk (Ba (Aj (Bn (have ⟨d8,g3⟩:=cs g2;wq Z (A6 Z Z Z Z d8) (wm Z (Bk ?_))))));exact Ak1 (upd d (ele g 0) d2.1) (sub g 1 (ln g)) f (l+1) (Np j 1 (Int.toNat 1) (Int.toNat (ln g))) k c6 ⟨A3 g3 x,f0,q⟩ (Cc _) (sb Z) (pk [0,1,2,3,4,5])
  refine Au (dp 11 [1,2,3,4,5] Z (zm 0 Z Z ?_));obtain⟨Y,b6⟩:=cs b5;obtain⟨i4,c5⟩:=q.lenMap.ix (sz:=1) Ao Y;refine wz 1 Z Z (Ae A4g Z Z Z Z c5) (zl 2 pl178 Z Z (cl 0 (Ai 0 Z n q) c5 Y Z) (zm 3 Z Z ?_));obtain⟨H,h3,b7⟩:=An b6;refine wz 4 Z Z (QV.call en96 (ea Z) (fun w b=>have h:=Ano w h3 (B.at b);h)) ?_;refine zm 5 Z Z (wz 6 Z Z (Bi Z Z Z) (wz 7 Z Z (Bi Z Z Z) (wz 8 Z Z (QV.nilCheck Z Z) (Cx 9 Z Ag Z ?_))));obtain⟨d9,e0,a0,b9⟩:=cs3 b7;refine(Ata (xs:=d) 0 (ele f 0) H.1.st H.1.bk Z Z Z Z Z Z d9 e0 Z Aan (bp [1,0,2,3,4,5] Z (pk [0,2,3,4,5]) (wz 10 Z Z (QV.assign Z Z) (Eh Ag (Aj (Bn (wm Z (have f1:=Ip q a0;wq Z (Ow A4g Z Z q.lenMap Z Z a0) (wa Z (ns (wm Z (wq Z (QV.not Z Z) (nt ?_)))))))))))));refine wc Z b9 (fun e7 g4=>?_) (fun e7 g5=>?_)
  ·skip
   refine sr (wa Z (nt (A9 (kr (tr (tr (kr (tr (tr ?_)))))))));obtain rfl:=Dr g4 x;obtain rfl:=(Ad C).symm;refine Aw Z Z (fun w b=>?_);exact⟨(u,t),Z,b.pick [1,2,3,5,4] Ah,K⟩
  refine sk (Ba (Aj (Bn (have ⟨e1,f3⟩:=cs g5;wq Z (A6 Z Z Z Z e1) (wm Z (Bk ?_))))));exact Ak1 (upd (upd d (ele f 0) H.1.st) ((ele f 0)+1) H.1.bk) g (sub f 1 (ln f)) (l+1) j (Np k 1 (Int.toNat 1) (Int.toNat (ln f))) c6 ⟨A3 f3 x,p,f1⟩ (Cc _) (sb Z) (pk [0,1,2,3,4,5])
 refine Cw (te (te (Am ?_)));exact A3v d g f l j k ⟨Bh f4 x,p,q⟩ (sb Z) (pk [0,1,2,3,4,5])
theorem Abk {i g j:Al}{q:Nat}{m:List Int}{y:List Stm}{n:List Int}{s:List UInt8}{r:Bool×List Int×List Stm×List Int}{z:Ak} (u:I4 m y n s=some r) (o:SliceLen i m.length) (k:SliceLen g y.length) (l:SliceLen j n.length) (M:Nat→Prop) (w:Ak) (t:GlbM Tryz.prog M w) (f:Base M z w) (a9:Own M w [blk q [i,g,j] 77,vec i 3 1 (List.map Ar m),vec g 82 9 (List.map Stm.cells y),vec j 3 1 (List.map Ar n)] w):Calls Tryz.prog 26 #[.pointer (some (⟨q,0,none⟩)),B5 s] w (fun e w'=>∃ X:Al×Al×Al×Ak,e=.returned (.bool r.1)∧Own M w (kn M w.heap.size z X.2.2.2::[blk q [X.1,X.2.1,X.2.2.1] 77,vec X.1 3 1 (List.map Ar r.2.1),vec X.2.1 82 9 (List.map Stm.cells r.2.2.1),vec X.2.2.1 3 1 (List.map Ar r.2.2.2)]) w'∧SliceLen X.1 (r.2.1).length∧SliceLen X.2.1 (r.2.2.1).length∧SliceLen X.2.2.1 (r.2.2.2).length):=by
 unfold I4 at u;refine cw 79 Tryz.func26 Z (sr (wa Z (ns (wm Z (Ab Z ?_))))) (Av f a9);obtain⟨c1,b1,N⟩:=An u;refine(cqG t f A1y Z (Af2 b1) Z (fun p b b6=>wa Z (nt (Au (sr (wm Z ?_))))));obtain⟨c5,Q⟩:=cs N;obtain⟨c0,U⟩:=b.lenMap.ix (sz:=1) Ao c5;refine wq Z (Ae Qa Z Z Z Z U) (wl pl9 Z (cl 0 (Ai 0 Z f b) U c5 Z) (wq Z (Sd Z Z Z Z) (wm Z (gP Z (QV.move Z Z) ?_))));obtain⟨c9,G⟩:=cs Q;obtain⟨b7,R⟩:=b.lenMap.ixG (sz:=1) Ao c9;refine gp Z (fun a=>Ae Qa Z a Z Z (R a)) (gp Z (fun a=>Cs pl9 Z a (cl 0 (Ai 0 Z f b) (R a) (c9 a) Z)) (gp Z (fun a=>Sd Z a Z Z) (wq Z (A7 Z Z Z (fun h=>h)) (nt ?_))));refine wc Z G (fun a0 H=>?_) (fun a0 I=>?_)
 ·skip
  refine sr (wm Z (wm Z (Ab Z ?_)));obtain⟨c2,b0,a4⟩:=An H;refine(cqG t f en54 Z (Abj b0 o k l b) Z (fun A a3 b5=>wa Z (nt (A9 (tr ?_)))));obtain rfl:=(Ad a4).symm;refine Aw Z Z (fun w c=>?_);exact⟨(i,A.1,j,A.2),Z,c.pick [0,1,2,4,3] Ah,o,a3,l⟩
 refine sk (Aj (Au (sr (wm Z (wq Z (A5 Tryz.underlying22 Z Z b.lenMap) (wq Z (QV.neq Z Z Z Z) (nt ?_)))))));refine wc Z I (fun a1 a5=>?_) (fun a1 J=>?_)
 ·skip
  refine sr (wa Z (nt (A9 (tr ?_))));obtain rfl:=(Ad a5).symm;refine Aw Z Z (fun w c=>?_);exact⟨(i,g,j,p.2),Z,c.pick [0,1,2,3,4] Ah,o,k,l⟩
 refine sk (Aj (sr (wm Z ?_)));obtain⟨B,K⟩:=cs J;obtain⟨b8,S⟩:=b.lenMap.ix (sz:=1) Ao B;refine wq Z (Ae Qa Z Z Z Z S) (wl pl9 Z (cl 0 (Ai 0 Z f b) S B Z) ?_);obtain⟨d,b2,L⟩:=An K;refine wq Z (QV.call A1v (ea Z) (fun w c=>have h:=R8 w b2 (t.at c);h)) ?_;refine wm Z (wq Z (Bi Z Z Z) (wq Z (Bi Z Z Z) (wa Z (wa Z (nt (Au (sr (wm Z ?_))))))));obtain⟨C,O⟩:=cs L;obtain⟨b9,T⟩:=b.lenMap.ix (sz:=1) Ao C;refine wq Z (Ae Qa Z Z Z Z T) (wl pl9 Z (cl 0 (Ai 0 Z f b) T C Z) (wq Z (C4 Z Z Z Z) (nt ?_)));refine wc Z O (fun a2 P=>?_) (fun a2 a7=>?_)
 ·skip
  refine Au (dq 18 (zm 0 Z Z (zm 1 Z Z (zP 2 Z Z (QV.move Z Z) (zp 3 Z Z (fun a=>QV.nilCheck Z a) (zp 4 Z Z (fun a=>QV.fieldAddr Qe Z a) (zp 5 Z Z (fun a=>QV.fieldAddr Ds Z a) (zp 6 Z Z (fun a=>Cs J3 Z a (Aq 1 Z Z)) (zp 7 Z Z (fun a=>A5 Tryz.underlying45 Z a k) (zP 8 Z Z (QV.move Z Z) (zp 9 Z Z (fun a=>QV.nilCheck Z a) (zp 10 Z Z (fun a=>QV.fieldAddr Qe Z a) (zp 11 Z Z (fun a=>QV.fieldAddr Yg Z a) (zp 12 Z Z (fun a=>Cs Fl Z a (Aq 1 Z Z)) (zp 13 Z Z (fun a=>A5 Tryz.underlying34 Z a l) ?_)))))))))))))));obtain⟨Y,E,a6⟩:=cs2 P;refine zp 14 Z Z (fun a=>A6 Z a Z a (Y a)) (zp 15 Z Z (fun a=>QV.eql Z a Z Z) (wz 16 Z Z (A7 Z Z Z (fun h=>h)) (wz 17 Z Z (QV.assign Z Z) (Eh Ag (Aj (Bn (wm Z (wm Z (wq Z (QV.nilCheck Z Z) (wf Qe Z (wf Pm Z (wl Fl Z (Aq 1 Z Z) (wm Z (Ab Z ((Di Ah L7 Ah Ah (ps:=[(0,.tmp 60)]) (cells:=[i_ d.1]) (ea Z) Ag (fun b3=>Ab Z ((Bt (enc:=Ar) (xs:=m) (ys:=[d.1]) ((m++[d.1])) 3 Ah Xh Z Z Z Z Z (Bb 0 (rows:=[d.1].map Ar) Z Z (Bq Bd)) Bd (Dl _) Z E.1 E.2 (fun V v=>wq Z (QV.nilCheck Z Z) (wf Qe Z (wf Pm Z (Ab Z ((ex 2 [V] (Hr v) Ai2 (oc (Cy v) B3) Z (ns (wm Z (wa Z (nt (A9 ?_))))))))))))))))))))))))))))));obtain rfl:=(Ad a6).symm;refine Aw Z Z (fun w c=>?_);exact⟨(V,g,j,p.2),Z,c.pick [1,2,3,4,5] Ah,v,k,l⟩
 refine Bn (wm Z (wm Z (wq Z (QV.nilCheck Z Z) (wf Qe Z (wf Yg Z (wl Fl Z (Aq 1 Z Z) (wm Z (Ab Z ((Di Ah L7 Ah Ah (ps:=[(0,.tmp 72)]) (cells:=[i_ d.1]) (ea Z) Ag (fun b4=>Ab Z (have ⟨F,a8⟩:=cs a7;(Bt (enc:=Ar) (xs:=n) (ys:=[d.1]) ((n++[d.1])) 5 Ah Xh Z Z Z Z Z (Bb 0 (rows:=[d.1].map Ar) Z Z (Bq Bd)) Bd (Dl _) Z F.1 F.2 (fun W x=>wq Z (QV.nilCheck Z Z) (wf Qe Z (wf Yg Z (Ab Z ((ex 2 [W] (Hr x) Ai2 (oc (Cy x) B3) Z (ns (wm Z (wa Z (nt (A9 ?_))))))))))))))))))))))));obtain rfl:=(Ad a8).symm;refine Aw Z Z (fun w c=>?_);exact⟨(i,g,W,p.2),Z,c.pick [1,2,3,4,5] Ah,o,k,x⟩
theorem Acv {s:List UInt8}{r:Lp×Flt}{y:Ak} (C:M5 s=some r)  (M:Nat→Prop) (w:Ak) (L:GlbM Tryz.prog M w) (n:Base M y w) (c2:Own M w [] w):Calls Tryz.prog 15 #[B5 s] w (fun e w'=>∃ X:Al×Al×Al×Ak,e=.returned (.tuple #[.agg #[X.1,X.2.1,X.2.2.1],.agg #[.int .i64 r.2.code,.int .i64 r.2.at']])∧Own M w (kn M w.heap.size y X.2.2.2::[]) w'∧Arr X.2.2.2 X.1 1 (r.1.logs.map Ar)∧Arr X.2.2.2 X.2.1 9 (r.1.body.map Stm.cells)∧Arr X.2.2.2 X.2.2.1 1 (r.1.outs.map Ar)):=by
 unfold M5 at C;refine cw 54 Tryz.func15 Z (sr (Ab Z ((B9 Ah A1l (fun b1=>Ab Z ((B9 Ah ze50 (fun b2=>ns (wm Z (Ab Z ?_)))))))))) (Av n c2);obtain⟨H,c4,b3⟩:=An C;refine(crG [2,0,1] L n A1y Z (Af2 c4) Z (fun z q d1=>wa Z (ns (wm Z (wq Z (A5 Tryz.underlying22 Z Z q.lenMap) (have ⟨c7,J,P⟩:=cs2 b3;wq Z (D2 Z Z Z Z c7) (wa Z (ns (wq Z (QV.build (ps:=[]) (cells:=[.slice none 0 0,.slice none 0 0,.slice none 0 0]) eN Ag) (Ab Z ((A4 Ah Z Z (fun a0=>wa Z (nt (Au (sr (wm Z (wm Z (have A:=Ip q J;wq Z (Ox Qa Z Z q.lenMap Z Z J) (wq Z (A5 Tryz.underlying22 Z Z A.lenMap) (wm Z (nt (F7 (fun w a=>a.vecNil (E:=3) (sz:=1) (enc:=Ar)) (F7 (fun w a=>a.vecNil (E:=82) (sz:=9) (enc:=Stm.cells)) (F7 (fun w a=>a.vecNil (E:=3) (sz:=1) (enc:=Ar)) ?_)))))))))))))))))))))))));obtain⟨Y,F,c9,b8⟩:=bl P;refine Ak3 (dt [2,3,4,5,6,18,19] [5,6] Z) (fun (j:List Int) (i:List Stm) (g:List Int) (f:Int) (d:Al) (c:Al) (b:Al) (l:Ak)=>[(20,(true,i_ f))]) (fun j i g f d c b l=>[vec d 3 1 (List.map Ar j),vec c 82 9 (List.map Stm.cells i),vec b 3 1 (List.map Ar g),blk a0 [b,c,d] 77,kn M w.heap.size y l]) (fun j i g f d c b l m=>Cp (H5 H) m (j,i,g,f)=some Y∧SliceLen d j.length∧SliceLen c i.length∧SliceLen b g.length∧Le z.2 l) (fun j i g f d c b l=>Y=.go (j,i,g,f)∧SliceLen d j.length∧SliceLen c i.length∧SliceLen b g.length∧Le z.2 l) [] [] [] 0 (.slice none 0 0) (.slice none 0 0) (.slice none 0 0) z.2 c9 ⟨b8,Gq,Gq,Gq,(Ih _)⟩ (sb Z) (pk [0,1,2,3,4,5,6]) ?_ ?_
 ·skip
  rintro j i g f d c b l ⟨rfl,v,u,t,o⟩;refine Aj (Au (sr (wm Z (wm Z ?_))));obtain⟨c21,Q⟩:=cs F;obtain⟨d5,V⟩:=(q.le o).lenMap.ix (sz:=1) Ao c21;refine wq Z (Ae Qa Z Z Z Z V) (wl pl9 Z (cl 0 (Ai 4 Z n (q.le o)) V c21 Z) (wq Z (Sd Z Z Z Z) (wm Z (gN Z (QV.move Z Z) (gn Z (fun k=>QV.nilCheck Z k) (gn Z (fun k=>QV.fieldAddr Qe Z k) (gn Z (fun k=>Af Fc Z Z k (Ac 3 Z)) ?_)))))));obtain⟨d8,c3,R⟩:=Dg Q;refine gn Z (fun k=>QV.call Ave (De Z k eN) (fun w a=>have h:=Qm w (c3 k) ((Cz 2 Z) w a) ((Cz 1 Z) w a) ((Cz 0 Z) w a);h)) ?_;refine gn Z (fun k=>QV.not Z k) (wq Z (Bc Z Z Z (fun h=>Fm h)) (nt ?_));refine wc Z R (fun a1 a9=>?_) (fun a1 b0=>?_)
  ·skip
   refine sr (wq Z (QV.build (ps:=[]) (cells:=[.slice none 0 0,.slice none 0 0,.slice none 0 0]) eN Ag) (wm Z (wq Z (QV.build (ps:=[(0,.const (i_ 2)),(1,.tmp 47)]) (cells:=[i_ 2,i_ ((ln H) - 1)]) (ea Z) Ag) (Ab Z ((ew 6 [.slice none 0 0,.slice none 0 0,.slice none 0 0] Au6 Z (Ab Z ((ew 5 [i_ 2,i_ ((ln H) - 1)] Axl Z (nt (A9 (tr ?_))))))))))));obtain rfl:=(Ad a9).symm;refine Y3 Z Fc Z Z (Ac 6 Z) ag50 Z Z (Ac 5 Z) (fun w a=>?_);exact⟨(.slice none 0 0,.slice none 0 0,.slice none 0 0,l),Z,a.pick [4] Ah,Gr,Gr,Gr⟩
  refine sk (Aj (sr (wm Z (wq Z (QV.nilCheck Z Z) (wf Qe Z (wq Z (Af Fc Z Z Z (Ac 3 Z)) (wq Z (QV.build (ps:=[]) (cells:=[i_ 0,i_ 0]) eN Ag) (Ab Z ((ex 6 [b,c,d] (show Ea _=List.toArray _ from Z) Au6 (oc (Cy t) (oc (Cy u) (oc (Cy v) B3))) Z (Ab Z ((ew 5 [i_ 0,i_ 0] Axl Z (nt (A9 ?_)))))))))))))));obtain rfl:=(Ad b0).symm;refine kp [4,2,0,1,3,5,6] Z (Gk n (fun d2 d0 b9=>have a4:=Cj b9;kp [0,2,1,3,4,5] Z (Gk n (fun d3 a7 c0=>have a5:=Cj c0;Gk n (fun c6 O c1=>have a6:=Cj c1;Y3 Z Fc Z Z (Ac 3 Z) ag50 Z Z (Ac 2 Z) (fun w a=>?_))))));exact⟨(b,c,d,c6),Z,a.pick [0] Ah,(a4.le (a7.trans O)),(a5.le O),a6⟩
 rintro j i g f d c b l d4 ⟨N,v,u,t,o⟩;obtain⟨c8,d7,rfl,x,G⟩:=A0 N;unfold H5 at x;simp only at x;refine sr (wq Z (QV.lss Z Z Z Z) (nt (Au ?_)));refine wc Z x (fun a2 S=>?_) (fun a2 b7=>?_)
 ·skip
  refine sk (Aj (Au (Cq (sr (wm Z ?_)))));obtain⟨K,T⟩:=cs S;obtain⟨d6,W⟩:=(A.le o).lenMap.ix (sz:=1) Ao K;refine wq Z (Ae Qa Z Z Z Z W) (wl pl9 Z (cl 0 (Ai 4 Z n (A.le o)) W K Z) (wa Z (wa Z (ns (wm Z (wm Z (Ab Z ?_)))))));obtain⟨I,c5,U⟩:=An T;refine(crG [4,3,2,1,0,5,6] L n en26 Z (Abk c5 t u v) Z (fun p B a8=>wq Z (QV.not Z Z) (nt ?_)));refine wc Z U (fun a3 b4=>?_) (fun a3 b5=>?_)
  ·skip
   refine sr (wq Z (QV.build (ps:=[]) (cells:=[.slice none 0 0,.slice none 0 0,.slice none 0 0]) eN Ag) (wm Z (wq Z (QV.build (ps:=[(0,.const (i_ 2)),(1,.tmp 30)]) (cells:=[i_ 2,i_ f]) (ea Z) Ag) (Ab Z ((ew 6 [.slice none 0 0,.slice none 0 0,.slice none 0 0] Au6 Z (Ab Z ((ew 5 [i_ 2,i_ f] Axl Z (nt (A9 (kr (tr (tr (kr (tr (tr ?_)))))))))))))))));obtain rfl:=Dr b4 G;obtain rfl:=(Ad F).symm;refine Y3 Z Fc Z Z (Ac 6 Z) ag50 Z Z (Ac 5 Z) (fun w a=>?_);exact⟨(.slice none 0 0,.slice none 0 0,.slice none 0 0,p.2.2.2),Z,a.pick [0] Ah,Gr,Gr,Gr⟩
  refine sk (Ba (Aj (Bn (have ⟨c53,b6⟩:=cs b5;wq Z (A6 Z Z Z Z c53) (wm Z (Bk ?_))))));exact Ak0 I.2.2.2 I.2.2.1 I.2.1 (f+1) p.2.2.1 p.2.1 p.1 p.2.2.2 c8 ⟨A3 b6 G,B.2.2,B.2.1,B.1,(o.trans a8)⟩ (Cc _) (sb Z) (pk [4,3,2,1,0,5,6])
 refine Cw (te (te (Am ?_)));exact Auv j i g f d c b l ⟨Bh b7 G,v,u,t,o⟩ (sb Z) (pk [0,1,2,3,4,5,6])
end Go.Proofs.YtaimbkndebaaiaaGreatDoor
end
section
namespace Go.Rd
open Go
def Ab4 (p:Al×Opr×Int×Int):List Al:=[p.1]
theorem Akr:∀ p:Al×Opr×Int×Int,(Ab4 p).length=1:=fun _=>rfl
def ClosK (fn:Nat) (c:Al) (k:Ak) (B:List (Al×Opr×Int×Int)):Prop:=∀ p∈B,∃ pa a b,p.1=.func (.func fn) #[] #[.pointer (some pa),c,.pointer (some a),.pointer (some b)]∧CellsAt k pa [Dv p.2.2.2] 0∧CellsAt k a p.2.1.cells 0∧CellsAt k b [Dv p.2.2.1] 0
theorem ClosK.nil {fn:Nat}{b:Al}{k:Ak}:ClosK fn b k []:=fun p a=>by cases a
theorem ClosK.le {fn:Nat}{e:Al}{k k':Ak}{B:List (Al×Opr×Int×Int)} (h:ClosK fn e k B) (d:Le k k'):ClosK fn e k' B:=fun p l=>by
 obtain⟨a,b,c,f,g,i,j⟩:=h p l;exact⟨a,b,c,f,g.mono d,i.mono d,j.mono d⟩
theorem ClosK.snoc {fn:Nat}{c:Al}{k:Ak}{B:List (Al×Opr×Int×Int)}{pa d e:Addr}{o:Opr}{t a:Int} (h:ClosK fn c k B) (f:CellsAt k pa [Dv a] 0) (g:CellsAt k d o.cells 0) (i:CellsAt k e [Dv t] 0) :
  ClosK fn c k (B++[(.func (.func fn) #[] #[.pointer (some pa),c,.pointer (some d),.pointer (some e)],o,t,a)]):=fun p b=>by
 rcases F8.1 b with b | b
 ·exact h p b
 ·simp at b;subst b;exact⟨pa,d,e,rfl,f,g,i⟩
theorem ClosK.ix {fn:Nat}{d:Al}{k:Ak}{B:List (Al×Opr×Int×Int)}{xs:List (Opr×Int×Int)} (h:ClosK fn d k B) (m:B.map (·.2)=xs) {i:Int} (hi:IX i (ln xs)) :
  ∃ pa a b,(∀ (w:Ak) (v:Al),Arr w v 1 (B.map Ab4)→∀ p,Lw v i 1 p→CellsAt w p [.func (.func fn) #[] #[.pointer (some pa),d,.pointer (some a),.pointer (some b)]] 0)
   ∧ CellsAt k pa [Dv (ele xs i).2.2] 0∧CellsAt k a (ele xs i).1.cells 0∧CellsAt k b [Dv (ele xs i).2.1] 0:=by
 subst m
 have c:i.toNat<B.length:=by have:=hi.2;unfold ln at this;rw[Gl] at this;have:=hi.1;omega
 obtain⟨pa,a,b,f,g,j,l⟩:=h B[i.toNat] (Vy c)
 have e:ele (B.map (·.2)) i=B[i.toNat].2:=by unfold ele;simp[Ec,E7 c]
 refine⟨pa,a,b,fun w v n p o=>?_,by rw[e];exact g,by rw[e];exact j,by rw[e];exact l⟩;have:=n.row i.toNat (Ab4 B[i.toNat]) p (by simp[E7 c]) (by rwa [Aep hi.1]);rw[←f];exact this
theorem A04 {B:List (Al×Opr×Int×Int)}{xs:List (Opr×Int×Int)}{u:Al}{r:Opr×Int×Int} (h:B.map (·.2)=xs):(B++[(u,r)]).map (·.2)=xs++[r]:=by rw[Q0,h];rfl
theorem A3q {u:Al}{r:Opr×Int×Int} (h:u.oneCell'=true):∀ p∈[(u,r)],∀ c∈Ab4 p,c.oneCell'=true:=fun p b c a=>by
 simp at b;subst b;simp[Ab4] at a;subst a;exact h
theorem AL.c1 {B:List (Al×Opr×Int×Int)}{xs:List (Opr×Int×Int)}{b:Nat} (h:B.map (·.2)=xs) (a:AL xs.length b):B.length≤maxLen:=by subst h;have:=a.1;rwa [Gl] at this
theorem AL.c2 {B:List (Al×Opr×Int×Int)}{xs:List (Opr×Int×Int)}{b:Nat} (h:B.map (·.2)=xs) (a:AL xs.length b):B.length * b≤140737488355328:=by subst h;have:=a.2;rwa [Gl] at this
theorem Azx {v:Al}{B:List (Al×Opr×Int×Int)}{xs:List (Opr×Int×Int)} (h:B.map (·.2)=xs) (hs:SliceLen v B.length):SliceLen v xs.length:=by subst h;rwa [Gl]
end Go.Rd
end
section
namespace Go.Proofs.YtaimbkndebaaiaaGreatDoor
open Go.Rd
open TLib TLibR TLibA TSay TNum0 TNum TLoop TPar
namespace TStable
theorem R0:Sg Tryz.prog 213 3:=⟨_,Tryz.underlying213,rfl,Ag⟩
theorem Atl:Go.Rd.Enters Tryz.prog 126:=eT Tryz.func126
theorem en159:Go.Rd.Enters Tryz.prog 159:=eT Tryz.func159
theorem A4r:Go.Rd.Enters Tryz.prog 174:=eT Tryz.func174
theorem Aey:Go.Rd.Enters Tryz.prog 175:=eT Tryz.func175
theorem en182:Go.Rd.Enters Tryz.prog 182:=eT Tryz.func182
theorem Ax5:Go.Rd.Enters Tryz.prog 185:=eT Tryz.func185
theorem Ana:Cb Tryz.prog 213 0 0:=fT 0 Tryz.underlying213
theorem Kd:Je Tryz.prog 161 213 3:=⟨Tryz.underlying161,Ag⟩
theorem Aew:Dt Tryz.prog 213 3:=by unfold Dt;kernel_rfl
end TStable
open TStable
theorem G4 {a b:Due}{r:Int} (w:Ak) (c:Dh a b=some r) :Calls Tryz.prog 126 #[.agg #[.int .i64 a.due,.int .i64 a.reg,.int .i64 a.v],.agg #[.int .i64 b.due,.int .i64 b.reg,.int .i64 b.v]] w (fun e w'=>e=.returned (.int .i64 r)∧Grow w w'):=by
 unfold Dh at c;refine have d:=D0 (w:=w);cw 10 Tryz.func126 Z (sr (Ab Z ((A4 Ah Z Z (fun b1=>Ab Z ((A4 Ah Z Z (fun b2=>wa Z (ns (wf Ana Z (wl pl3 Z (Aq 1 Z Z) (wf Ana Z (wl pl3 Z (Aq 0 Z Z) (have ⟨c3,f⟩:=cs c;wq Z (D2 Z Z Z Z c3) (wa Z (nt (A9 ?_))))))))))))))))) (Av d (D3 w));obtain rfl:=(Ad f).symm;exact Aw Z Z fun w g=>kg g
theorem Eu {f:Al}{data:List Due}{a b n:Int}{r:List Due}{h:Ak} (k:B2 data a b n=some r) (K:SliceLen f data.length) (M:Nat→Prop) (w:Ak) (L:Base M h w) (a0:Own M w [Fy f 213 3 (List.map Due.cells data)] w):Calls Tryz.prog 185 #[f,.int .i64 a,.int .i64 b,.int .i64 n,.func (.func 126) #[] #[]] w (fun e w'=>∃ X:Ak,e=.returned (.tuple #[])∧Own M w (kn M w.heap.size h X::[Fy f 213 3 (List.map Due.cells r)]) w'∧SliceLen f (r).length):=by
 unfold B2 at k;refine cw 38 Tryz.func185 Z (sr (wa Z (nt ?_))) (Av L a0);obtain⟨C,R,a2,W⟩:=bl k;refine B6 (dt [0,1,2,3] [0] Z) (fun (d:List Due) (c:Int)=>[(10,(true,i_ c))]) (fun d c=>[Fy f 213 3 (List.map Due.cells d)]) (fun d c m=>Cp (B0 a b n) m (d,c)=some C∧SliceLen f d.length) (fun d c=>C=.go (d,c)∧SliceLen f d.length) data 0 a2 ⟨W,K⟩ (sb Z) (pk [1,0]) ?_ ?_
 ·skip
  rintro d c ⟨rfl,g⟩;obtain rfl:=(Ad R).symm;refine Jk Z (fun w Y=>?_);exact⟨h,Z,Y.pick [1,0] Ah,g⟩
 rintro d c a3 ⟨t,g⟩;obtain⟨a1,a8,rfl,j,x⟩:=A0 t;unfold B0 at j;simp only at j;refine Au (sr (wm Z (wm Z (wq Z (QV.lss Z Z Z Z) (nt ?_)))));refine wc Z j (fun J O=>?_) (fun J V=>?_)
 ·skip
  refine sk (Aj (Au (Cq (Amm (m:=24) (fun i=>[4,5,6,7].contains i) Ag Ag Ag (D8 0 0 1 Z Ag Z Z Z Z (QV.move Z Z) (D8 1 1 3 Z Ag Z Z Z Z (QV.move Z Z) (D8 2 3 7 Z Ag Z Z Z Z (QV.move Z Z) (have ⟨E,F,G,c20,P⟩:=cs4 O;D8 3 7 15 Z Ag Z Z Z Z (A6 Z Z Z Z E) (Uo 4 15 31 Z Ag Z Z Z (QV.move Z Z) (Uo 5 31 63 Z Ag Z Z Z (QV.move Z Z) (Uo 6 63 127 Z Ag Z Z Z (QV.move Z Z) (Uo 7 127 255 Z Ag Z Z Z (A6 Z Z Z Z F) (D8 8 255 511 Z Ag Z Z Z Z (QV.move Z Z) (D8 9 511 1023 Z Ag Z Z Z Z (QV.move Z Z) (D8 10 1023 2047 Z Ag Z Z Z Z (QV.move Z Z) (D8 11 2047 4095 Z Ag Z Z Z Z (A6 Z Z Z Z G) (have ⟨a4,y⟩:=g.ix (sz:=3) Ao c20;D8 12 4095 8191 Z Ag Z Z Z Z (Ae Kd Z Z Z Z y) (D8 13 8191 16383 Z Ag Z Z Z Z (Af R0 Z Z Z (el (Dw 0 Z) y c20)) (D8 14 16383 32767 Z Ag Z Z Z Z (QV.move Z Z) (D8 15 32767 65535 Z Ag Z Z Z Z (QV.move Z Z) (D8 16 65535 131071 Z Ag Z Z Z Z (QV.move Z Z) (have ⟨H,p,Q⟩:=cs2 P;D8 17 131071 262143 Z Ag Z Z Z Z (A6 Z Z Z Z H) (have ⟨a5,z⟩:=g.ix (sz:=3) Ao p;D8 18 262143 524287 Z Ag Z Z Z Z (Ae Kd Z Z Z Z z) (D8 19 524287 1048575 Z Ag Z Z Z Z (Af R0 Z Z Z (el (Dw 0 Z) z p)) (have ⟨q,S⟩:=cs Q;have ⟨a6,A⟩:=g.ix (sz:=3) Ao q;D8 20 1048575 2097151 Z Ag Z Z Z Z (Ae Kd Z Z Z Z A) ?_)))))))))))))))))))))))));have u:SliceLen f (upd d (a+c) (ele d (b+c))).length:=Iq g;refine WT.o (H':=[Fy f 213 3 (List.map Due.cells (upd d (a+c) (ele d (b+c)))),kn M w.heap.size h h]) 21 2097151 4194303 Z Ag Z Ag ?_ ?_
  ·skip
   refine(Mf (enc:=Due.cells) (off:=0) (vs:=[i_ ((ele d (b+c)).due),i_ ((ele d (b+c)).reg),i_ ((ele d (b+c)).v)]) 0 (ele d (b+c)) rfl rfl rfl rfl rfl A q (by first | rfl | exact M1 _) (show Ea _=List.toArray _ from rfl) Aew (nl rfl) (oz rfl) rfl ?_);exact WT.b sm
  refine have ⟨s,T⟩:=cs S;have ⟨a7,B⟩:=u.ix (sz:=3) Ao s;D8 22 4194303 8388607 Z Ag Z Z Z Z (Ae Kd Z Z Z Z B) (WT.l 23 8388607 16777215 Z Ag Z ((Mf (enc:=Due.cells) (off:=0) (vs:=[i_ ((ele d (a+c)).due),i_ ((ele d (a+c)).reg),i_ ((ele d (a+c)).v)]) 0 (ele d (a+c)) rfl rfl rfl rfl rfl B s (by first | rfl | exact M1 _) (show Ea _=List.toArray _ from rfl) Aew (nl rfl) (oz rfl) rfl ?_)));have N:SliceLen f (upd (upd d (a+c) (ele d (b+c))) (b+c) (ele d (a+c))).length:=Iq u;refine Ba (Aj (Bn (wm Z (have ⟨I,U⟩:=cs T;wq Z (A6 Z Z Z Z I) (wa Z (Bk ?_))))));exact Bs (upd (upd d (a+c) (ele d (b+c))) (b+c) (ele d (a+c))) (c+1) a1 ⟨A3 U x,N⟩ (Cc _) (sb Z) (pk [0,1])
 refine Cw (te (te (Am ?_)));exact Cm d c ⟨Bh V x,g⟩ (sb Z) (pk [0,1])
theorem Nj {h:Al}{data:List Due}{a k b:Int}{r:List Due}{i:Ak} (s:C6 data a k b=some r) (T:SliceLen h data.length) (M:Nat→Prop) (w:Ak) (l:Base M i w) (a6:Own M w [Fy h 213 3 (List.map Due.cells data)] w):Calls Tryz.prog 182 #[h,.int .i64 a,.int .i64 k,.int .i64 b,.func (.func 126) #[] #[]] w (fun e w'=>∃ X:Ak,e=.returned (.tuple #[])∧Own M w (kn M w.heap.size i X::[Fy h 213 3 (List.map Due.cells r)]) w'∧SliceLen h (r).length):=by
 unfold C6 at s;refine cw 58 Tryz.func182 Z (sr (wm Z (wm Z (have ⟨c1,c3,z⟩:=cs2 s;wq Z (D2 Z Z Z Z c1) (wa Z (ns (wm Z (wm Z (wq Z (D2 Z Z Z Z c3) (wa Z (nt (Au ?_)))))))))))) (Av l a6);obtain⟨C,B,b0,a4⟩:=bl z;refine Kh (dt [0,2,4] [] Z) (fun (f:List Due) (c:Int) (d:Int) (g:Ak)=>[(10,(true,i_ c)),(11,(true,i_ d))]) (fun f c d g=>[kn M w.heap.size i g,Fy h 213 3 (List.map Due.cells f)]) (fun f c d g m=>Cp (B8 k) m (f,c,d)=some C∧SliceLen h f.length∧Le i g) (fun f c d g=>C=.go (f,c,d)∧SliceLen h f.length∧Le i g) data (k - a) (b - k) i b0 ⟨a4,T,(Ih _)⟩ (sb Z) (pk [0,1]) ?_ ?_
 ·skip
  rintro f c d g ⟨rfl,j,n⟩;refine Aj (Bn (wm Z (wm Z (wm Z ?_))));obtain⟨H,t⟩:=cs B;refine wq Z (D2 Z Z Z Z H) (wm Z (wm Z (wm Z (Ab Z ?_))));obtain⟨b5,a7,W⟩:=An t;refine(cq l Ax5 Z (Eu a7 j) Z (fun E Q b3=>Bk ?_));obtain rfl:=(Ad W).symm;refine Jk Z (fun w a5=>?_);exact⟨E,Z,a5.pick [0,1] Ah,Q⟩
 rintro f c d g m16 ⟨q,j,n⟩;obtain⟨m18,b4,rfl,o,p⟩:=A0 q;unfold B8 at o;simp only at o;refine Au (sr (wm Z (wm Z (wq Z (QV.neq Z Z Z Z) (nt ?_)))));refine wc Z o (fun O u=>?_) (fun O a3=>?_)
 ·skip
  refine sk (Aj (Cq (sr (wm Z (wm Z (wq Z (QV.gtr Z Z Z Z) (nt ?_)))))));refine wc Z u (fun P v=>?_) (fun P y=>?_)
  ·skip
   refine sr (wm Z (wm Z (wm Z ?_)));obtain⟨I,x⟩:=cs v;refine wq Z (D2 Z Z Z Z I) (wm Z (wm Z (wm Z (Ab Z ?_))));obtain⟨b1,a8,Y⟩:=An x;refine(cq l Ax5 Z (Eu a8 j) Z (fun F R U=>nr (wm Z (wm Z (have ⟨J,a0⟩:=cs Y;wq Z (D2 Z Z Z Z J) (wa Z (Bk (Ba ?_))))))));exact F1 b1 (c - d) d F m18 ⟨A3 a0 p,R,(n.trans U)⟩ (Cc _) (sb Z) (pk [0,1])
  refine sr (wm Z (wm Z (wm Z ?_)));obtain⟨K,c37,L,A⟩:=cs3 y;refine wq Z (D2 Z Z Z Z K) (wm Z (wm Z (wq Z (A6 Z Z Z Z c37) (wm Z (wq Z (D2 Z Z Z Z L) (wm Z (wm Z (Ab Z ?_))))))));obtain⟨b2,a9,a1⟩:=An A;refine(cq l Ax5 Z (Eu a9 j) Z (fun G S V=>nr (wm Z (wm Z (have ⟨N,a2⟩:=cs a1;wq Z (D2 Z Z Z Z N) (wa Z (Bk (Ba ?_))))))));exact F1 b2 c (d - c) G m18 ⟨A3 a2 p,S,(n.trans V)⟩ (Cc _) (sb Z) (pk [0,1])
 refine Cw (te (te (Am ?_)));exact Mw f c d g ⟨Bh a3 p,j,n⟩ (sb Z) (pk [0,1])
theorem F5 {g:Al}{data:List Due}{a b:Int}{r:List Due}{p:Ak} (G:Be data a b=some r) (a4:SliceLen g data.length) (M:Nat→Prop) (w:Ak) (a5:Base M p w) (c2:Own M w [Fy g 213 3 (List.map Due.cells data)] w):Calls Tryz.prog 174 #[g,.int .i64 a,.int .i64 b,.func (.func 126) #[] #[]] w (fun e w'=>∃ X:Ak,e=.returned (.tuple #[])∧Own M w (kn M w.heap.size p X::[Fy g 213 3 (List.map Due.cells r)]) w'∧SliceLen g (r).length):=by
 unfold Be at G;refine cw 53 Tryz.func174 Z (sr (wm Z (have ⟨c1,I⟩:=cs G;wq Z (A6 Z Z Z Z c1) (wa Z (nt ?_))))) (Av a5 c2);obtain⟨W,b2,n6,c0⟩:=bl I;refine B6 (dt [0,1,2,3] [0] Z) (fun (j:List Due) (k:Int)=>[(8,(true,i_ k))]) (fun j k=>[Fy g 213 3 (List.map Due.cells j)]) (fun j k m=>Cp (Bl a b) m (j,k)=some W∧SliceLen g j.length) (fun j k=>W=.go (j,k)∧SliceLen g j.length) data (a+1) n6 ⟨c0,a4⟩ (sb Z) (pk [1,0]) ?_ ?_
 ·skip
  rintro j k ⟨rfl,q⟩;obtain rfl:=(Ad b2).symm;refine Jk Z (fun w U=>?_);exact⟨p,Z,U.pick [1,0] Ah,q⟩
 rintro j k c8 ⟨E,q⟩;obtain⟨c4,d5,rfl,s,L⟩:=A0 E;unfold Bl at s;simp only at s;refine Au (sr (wm Z (wm Z (wq Z (QV.lss Z Z Z Z) (nt ?_)))));refine wc Z s (fun a2 H=>?_) (fun a2 b8=>?_)
 ·skip
  refine sk (Aj (Au (Cq (sr (wm Z (wa Z (nt ?_)))))));obtain⟨V,a7,c6,b9⟩:=bl H;refine B6 (dt [0,1,2,3,8] [1] Z) (fun (d:List Due) (c:Int)=>[(9,(true,i_ c))]) (fun d c=>[Fy g 213 3 (List.map Due.cells d)]) (fun d c m=>Cp (Br a) m (d,c)=some V∧SliceLen g d.length) (fun d c=>V=.go (d,c)∧SliceLen g d.length) j k c6 ⟨b9,q⟩ (sb Z) (pk [0,1]) ?_ ?_
  ·skip
   rintro d c ⟨rfl,n⟩;refine Ba (Aj (Bn (wm Z (have ⟨c21,a8⟩:=cs a7;wq Z (A6 Z Z Z Z c21) (wa Z (Bk ?_))))));exact Bs d (k+1) c4 ⟨A3 a8 L,n⟩ (Cc _) (sb Z) (pk [0,1])
  rintro d c c7 ⟨C,n⟩;obtain⟨c5,d6,rfl,t,N⟩:=A0 C;unfold Br at t;simp only at t;refine Au (Au (dp 17 [1,0] Z (zm 0 Z Z (zm 1 Z Z (wz 2 Z Z (QV.gtr Z Z Z Z) (zm 3 Z Z (zP 4 Z Z (QV.move Z Z) (zP 5 Z Z (QV.move Z Z) (zP 6 Z Z (QV.move Z Z) (have ⟨u,a9⟩:=cs t;have ⟨c9,O⟩:=n.ixG (sz:=3) Ao u;zp 7 Z Z (fun f=>Ae Kd Z f Z f (O f)) (zp 8 Z Z (fun f=>Af R0 Z Z f (el (Dw 1 Z) (O f) (u f))) (zP 9 Z Z (QV.move Z Z) (zP 10 Z Z (QV.move Z Z) (have ⟨Y,x,J⟩:=cs2 a9;zp 11 Z Z (fun f=>D2 Z f Z Z (Y f)) (have ⟨d0,P⟩:=n.ixG (sz:=3) Ao x;zp 12 Z Z (fun f=>Ae Kd Z f Z f (P f)) (zp 13 Z Z (fun f=>Af R0 Z Z f (el (Dw 1 Z) (P f) (x f))) ?_))))))))))))))));obtain⟨d7,c3,K⟩:=Dg J;refine zp 14 Z Z (fun f=>N6 Atl Z f (De Z f (De Z f eN)) (fun w U=>have h:=G4 w (c3 f) ;h)) ?_;refine zp 15 Z Z (fun f=>QV.lss Z f Z Z) (wz 16 Z Z (A7 Z Z Z (fun h=>h)) (Eh Ag (Aj ?_)));refine wc Z K (fun a3 b0=>?_) (fun a3 b7=>?_)
  ·skip
   refine sk (Aj (Au (Cq (Amm (m:=18) (fun i=>[2,3,4].contains i) Ag Ag Ag (D8 0 0 1 Z Ag Z Z Z Z (QV.move Z Z) (D8 1 1 3 Z Ag Z Z Z Z (QV.move Z Z) (Uo 2 3 7 Z Ag Z Z Z (QV.move Z Z) (Uo 3 7 15 Z Ag Z Z Z (QV.move Z Z) (have ⟨a0,c46,y,b1⟩:=cs3 b0;Uo 4 15 31 Z Ag Z Z Z (D2 Z Z Z Z a0) (D8 5 31 63 Z Ag Z Z Z Z (QV.move Z Z) (D8 6 63 127 Z Ag Z Z Z Z (QV.move Z Z) (D8 7 127 255 Z Ag Z Z Z Z (D2 Z Z Z Z c46) (have ⟨d1,Q⟩:=n.ix (sz:=3) Ao y;D8 8 255 511 Z Ag Z Z Z Z (Ae Kd Z Z Z Z Q) (D8 9 511 1023 Z Ag Z Z Z Z (Af R0 Z Z Z (el (Dw 0 Z) Q y)) (D8 10 1023 2047 Z Ag Z Z Z Z (QV.move Z Z) (D8 11 2047 4095 Z Ag Z Z Z Z (QV.move Z Z) (have ⟨z,b3⟩:=cs b1;have ⟨d2,R⟩:=n.ix (sz:=3) Ao z;D8 12 4095 8191 Z Ag Z Z Z Z (Ae Kd Z Z Z Z R) (D8 13 8191 16383 Z Ag Z Z Z Z (Af R0 Z Z Z (el (Dw 0 Z) R z)) (have ⟨A,b4⟩:=cs b3;have ⟨d3,S⟩:=n.ix (sz:=3) Ao A;D8 14 16383 32767 Z Ag Z Z Z Z (Ae Kd Z Z Z Z S) ?_)))))))))))))))))));have F:SliceLen g (upd d c (ele d (c - 1))).length:=Iq n;refine WT.o (H':=[Fy g 213 3 (List.map Due.cells (upd d c (ele d (c - 1)))),kn M w.heap.size p p]) 15 32767 65535 Z Ag Z Ag ?_ ?_
   ·skip
    refine(Mf (enc:=Due.cells) (off:=0) (vs:=[i_ ((ele d (c - 1)).due),i_ ((ele d (c - 1)).reg),i_ ((ele d (c - 1)).v)]) 0 (ele d (c - 1)) rfl rfl rfl rfl rfl S A (by first | rfl | exact M1 _) (show Ea _=List.toArray _ from rfl) Aew (nl rfl) (oz rfl) rfl ?_);exact WT.b sm
   refine have ⟨B,b5⟩:=cs b4;have ⟨d4,T⟩:=F.ix (sz:=3) Ao B;D8 16 65535 131071 Z Ag Z Z Z Z (Ae Kd Z Z Z Z T) (WT.l 17 131071 262143 Z Ag Z ((Mf (enc:=Due.cells) (off:=0) (vs:=[i_ ((ele d c).due),i_ ((ele d c).reg),i_ ((ele d c).v)]) 0 (ele d c) rfl rfl rfl rfl rfl T B (by first | rfl | exact M1 _) (show Ea _=List.toArray _ from rfl) Aew (nl rfl) (oz rfl) rfl ?_)));have a6:SliceLen g (upd (upd d c (ele d (c - 1))) (c - 1) (ele d c)).length:=Iq F;refine Ba (Aj (Bn (wm Z (have ⟨a1,b6⟩:=cs b5;wq Z (D2 Z Z Z Z a1) (wa Z (Bk ?_))))));exact Bs (upd (upd d c (ele d (c - 1))) (c - 1) (ele d c)) (c - 1) c5 ⟨A3 b6 N,a6⟩ (Cc _) (sb Z) (pk [0,1])
  refine Cw (te (te (Am ?_)));exact Cm d c ⟨Bh b7 N,n⟩ (sb Z) (pk [0,1])
 refine Cw (te (te (Am ?_)));exact Cm j k ⟨Bh b8 L,q⟩ (sb Z) (pk [0,1])
theorem Gx:∀ (I:Nat) {n:Al}{data:List Due}{a A b:Int}{r:List Due}{z:Ak} (H:A1 I data a A b=some r) (p:SliceLen n data.length) (M:Nat→Prop) (w:Ak) (B:Base M z w) (g5:Own M w [Fy n 213 3 (List.map Due.cells data)] w),Calls Tryz.prog 175 #[n,.int .i64 a,.int .i64 A,.int .i64 b,.func (.func 126) #[] #[]] w (fun e w'=>∃ X:Ak,e=.returned (.tuple #[])∧Own M w (kn M w.heap.size z X::[Fy n 213 3 (List.map Due.cells r)]) w'∧SliceLen n (r).length):=by
 intro I;induction I with
 | zero=>intro n data a A b r z H;cases H
 | succ I IH =>
  intro n data a A b r z H p M w B g5;unfold A1 at H;refine cw 220 Tryz.func175 Z (Au (sr (wm Z (wm Z (have ⟨c1,d4⟩:=cs H;wq Z (D2 Z Z Z Z c1) (wq Z (QV.eql Z Z Z Z) (nt ?_))))))) (Av B g5);refine wc Z d4 (fun l1 e2=>?_) (fun l1 q8=>?_)
  ·skip
   refine sr (wm Z (wa Z (ns (wm Z (wa Z (nt (Au ?_)))))));obtain⟨h1,e4,s9,r4⟩:=bl e2;refine B6 (dt [0,1,4] [0,1] Z) (fun (q:Int) (t:Int)=>[(10,(true,i_ q)),(11,(true,i_ t))]) (fun q t=>[]) (fun q t m=>Cp (Ci data a) m (q,t)=some h1) (fun q t=>h1=.go (q,t)) A b s9 r4 (sb Z) (pk [0,1]) ?_ ?_
   ·skip
    rintro q t rfl;refine Aj (Au (sr (wm Z (wa Z (nt ?_)))));obtain⟨g9,m6,s7,r1⟩:=bl e4;refine B6 (dt [0,10] [0] Z) (fun (f:List Due) (c:Int)=>[(13,(true,i_ c))]) (fun f c=>[Fy n 213 3 (List.map Due.cells f)]) (fun f c m=>Cp (Ch q) m (f,c)=some g9∧SliceLen n f.length) (fun f c=>g9=.go (f,c)∧SliceLen n f.length) data a s7 ⟨r1,p⟩ (sb Z) (pk [1,0]) ?_ ?_
    ·skip
     rintro f c ⟨rfl,C⟩;refine Aj (A9 (tr ?_));obtain rfl:=(Ad m6).symm;refine Aut Z (fun w j=>?_);exact⟨z,Z,j.pick [1,0] Ah,C⟩
    rintro f c m15 ⟨b3,C⟩;obtain⟨m17,v9,rfl,R,e9⟩:=A0 b3;unfold Ch at R;simp only at R;refine Au (sr (wm Z (wm Z (have ⟨c21,d9⟩:=cs R;wq Z (D2 Z Z Z Z c21) (wq Z (QV.lss Z Z Z Z) (nt ?_))))));refine wc Z d9 (fun k9 o8=>?_) (fun k9 q1=>?_)
    ·skip
     refine sk (Aj (Au (Cq (Amm (m:=18) (fun i=>[2,3,4].contains i) Ag Ag Ag (D8 0 0 1 Z Ag Z Z Z Z (QV.move Z Z) (D8 1 1 3 Z Ag Z Z Z Z (QV.move Z Z) (Uo 2 3 7 Z Ag Z Z Z (QV.move Z Z) (Uo 3 7 15 Z Ag Z Z Z (QV.move Z Z) (have ⟨j3,j4,a5,p6⟩:=cs3 o8;Uo 4 15 31 Z Ag Z Z Z (A6 Z Z Z Z j3) (D8 5 31 63 Z Ag Z Z Z Z (QV.move Z Z) (D8 6 63 127 Z Ag Z Z Z Z (QV.move Z Z) (D8 7 127 255 Z Ag Z Z Z Z (A6 Z Z Z Z j4) (have ⟨v2,f9⟩:=C.ix (sz:=3) Ao a5;D8 8 255 511 Z Ag Z Z Z Z (Ae Kd Z Z Z Z f9) (D8 9 511 1023 Z Ag Z Z Z Z (Af R0 Z Z Z (el (Dw 0 Z) f9 a5)) (D8 10 1023 2047 Z Ag Z Z Z Z (QV.move Z Z) (D8 11 2047 4095 Z Ag Z Z Z Z (QV.move Z Z) (have ⟨a6,p7⟩:=cs p6;have ⟨v3,g0⟩:=C.ix (sz:=3) Ao a6;D8 12 4095 8191 Z Ag Z Z Z Z (Ae Kd Z Z Z Z g0) (D8 13 8191 16383 Z Ag Z Z Z Z (Af R0 Z Z Z (el (Dw 0 Z) g0 a6)) (have ⟨c37,p8⟩:=cs p7;have ⟨v4,g1⟩:=C.ix (sz:=3) Ao c37;D8 14 16383 32767 Z Ag Z Z Z Z (Ae Kd Z Z Z Z g1) ?_)))))))))))))))))));have b8:SliceLen n (upd f c (ele f (c+1))).length:=Iq C;refine WT.o (H':=[Fy n 213 3 (List.map Due.cells (upd f c (ele f (c+1)))),kn M w.heap.size z z]) 15 32767 65535 Z Ag Z Ag ?_ ?_
     ·skip
      refine(Mf (enc:=Due.cells) (off:=0) (vs:=[i_ ((ele f (c+1)).due),i_ ((ele f (c+1)).reg),i_ ((ele f (c+1)).v)]) 0 (ele f (c+1)) rfl rfl rfl rfl rfl g1 c37 (by first | rfl | exact M1 _) (show Ea _=List.toArray _ from rfl) Aew (nl rfl) (oz rfl) rfl ?_);exact WT.b sm
     refine have ⟨a7,p9⟩:=cs p8;have ⟨v5,g2⟩:=b8.ix (sz:=3) Ao a7;D8 16 65535 131071 Z Ag Z Z Z Z (Ae Kd Z Z Z Z g2) (WT.l 17 131071 262143 Z Ag Z ((Mf (enc:=Due.cells) (off:=0) (vs:=[i_ ((ele f c).due),i_ ((ele f c).reg),i_ ((ele f c).v)]) 0 (ele f c) rfl rfl rfl rfl rfl g2 a7 (by first | rfl | exact M1 _) (show Ea _=List.toArray _ from rfl) Aew (nl rfl) (oz rfl) rfl ?_)));have m1:SliceLen n (upd (upd f c (ele f (c+1))) (c+1) (ele f c)).length:=Iq b8;refine Ba (Aj (Bn (wm Z (have ⟨j5,q0⟩:=cs p9;wq Z (A6 Z Z Z Z j5) (wa Z (Bk ?_))))));exact Bs (upd (upd f c (ele f (c+1))) (c+1) (ele f c)) (c+1) m17 ⟨A3 q0 e9,m1⟩ (Cc _) (sb Z) (pk [0,1])
    refine Cw (te (te (Am ?_)));exact Cm f c ⟨Bh q1 e9,C⟩ (sb Z) (pk [0,1])
   rintro q t u2 b5;obtain⟨g8,w1,rfl,N,U⟩:=A0 b5;unfold Ci at N;simp only at N;refine Au (sr (wm Z (wm Z (wq Z (QV.lss Z Z Z Z) (nt ?_)))));refine wc Z N (fun l2 q2=>?_) (fun l2 q7=>?_)
   ·skip
    refine sk (Aj (Cq (sr (wm Z (wm Z (have ⟨j6,a8,q3⟩:=cs2 q2;wq Z (A6 Z Z Z Z j6) (wq Z (Rj Tryz.underlying131 Tryz.underlying3 Z Z) (wq Z (Wh Z Z Z Z Ah) (wq Z (Rj Tryz.underlying3 Tryz.underlying131 Z Z) (wa Z (nt (Au (dq 11 (zm 0 Z Z (zm 1 Z Z (zm 2 Z Z (have ⟨v6,g3⟩:=p.ix (sz:=3) Ao a8;wz 3 Z Z (Ae Kd Z Z Z Z g3) (wz 4 Z Z (Af R0 Z Z Z (el (Dw 1 Z) g3 a8)) (zm 5 Z Z (zm 6 Z Z (have ⟨a9,e3⟩:=cs q3;have ⟨v7,g4⟩:=p.ix (sz:=3) Ao a9;wz 7 Z Z (Ae Kd Z Z Z Z g4) (wz 8 Z Z (Af R0 Z Z Z (el (Dw 1 Z) g4 a9)) ?_))))))))))))))))))))));obtain⟨x2,s5,e5⟩:=An e3;refine wz 9 Z Z (N6 Atl Z Z (ea Z) (fun w j=>have h:=G4 w s5 ;h)) ?_;refine wz 10 Z Z (QV.lss Z Z Z Z) (Eh Ag (Aj ?_));refine wc Z e5 (fun l3 q4=>?_) (fun l3 q6=>?_)
    ·skip
     refine Bn (wm Z (have ⟨j7,q5⟩:=cs q4;wq Z (A6 Z Z Z Z j7) (wa Z (Bk (Ba ?_)))));exact Bs ((IntKind.i64.wrap (shrD (IntKind.u64.wrap (q+t)) 1))+1) t g8 (A3 q5 U) (Cc _) (sb Z) (pk [0,1])
    refine Bn (wm Z (wa Z (Bk (Ba ?_))));exact Bs q (IntKind.i64.wrap (shrD (IntKind.u64.wrap (q+t)) 1)) g8 (A3 q6 U) (Cc _) (sb Z) (pk [0,1])
   refine Cw (te (te (Am ?_)));exact Cm q t (Bh q7 U) (sb Z) (pk [0,1])
  refine sk (Aj (Au (sr (wm Z (wm Z (have ⟨j8,e6⟩:=cs q8;wq Z (D2 Z Z Z Z j8) (wq Z (QV.eql Z Z Z Z) (nt ?_))))))));refine wc Z e6 (fun l4 e7=>?_) (fun l4 n5=>?_)
  ·skip
   refine sr (wm Z (wa Z (ns (wm Z (wa Z (nt (Au ?_)))))));obtain⟨h2,e8,t0,r3⟩:=bl e7;refine B6 (dt [0,2,4] [0,1] Z) (fun (s:Int) (u:Int)=>[(14,(true,i_ s)),(15,(true,i_ u))]) (fun s u=>[]) (fun s u m=>Cp (Cg data A) m (s,u)=some h2) (fun s u=>h2=.go (s,u)) a A t0 r3 (sb Z) (pk [0,1]) ?_ ?_
   ·skip
    rintro s u rfl;refine Aj (Au (sr (wm Z (wa Z (nt ?_)))));obtain⟨h3,q9,t1,r5⟩:=bl e8;refine B6 (dt [0,14] [0] Z) (fun (g:List Due) (d:Int)=>[(17,(true,i_ d))]) (fun g d=>[Fy n 213 3 (List.map Due.cells g)]) (fun g d m=>Cp (Cf s) m (g,d)=some h3∧SliceLen n g.length) (fun g d=>h3=.go (g,d)∧SliceLen n g.length) data A t1 ⟨r5,p⟩ (sb Z) (pk [1,0]) ?_ ?_
    ·skip
     rintro g d ⟨rfl,E⟩;refine Aj (A9 (tr ?_));obtain rfl:=(Ad q9).symm;refine Aut Z (fun w j=>?_);exact⟨z,Z,j.pick [1,0] Ah,E⟩
    rintro g d u3 ⟨b6,E⟩;obtain⟨s6,w2,rfl,O,f0⟩:=A0 b6;unfold Cf at O;simp only at O;refine Au (sr (wm Z (wm Z (wq Z (QV.gtr Z Z Z Z) (nt ?_)))));refine wc Z O (fun l5 r0=>?_) (fun l5 m8=>?_)
    ·skip
     refine sk (Aj (Au (Cq (Amm (m:=18) (fun i=>[2,3,4].contains i) Ag Ag Ag (D8 0 0 1 Z Ag Z Z Z Z (QV.move Z Z) (D8 1 1 3 Z Ag Z Z Z Z (QV.move Z Z) (Uo 2 3 7 Z Ag Z Z Z (QV.move Z Z) (Uo 3 7 15 Z Ag Z Z Z (QV.move Z Z) (have ⟨i1,i2,V,m2⟩:=cs3 r0;Uo 4 15 31 Z Ag Z Z Z (D2 Z Z Z Z i1) (D8 5 31 63 Z Ag Z Z Z Z (QV.move Z Z) (D8 6 63 127 Z Ag Z Z Z Z (QV.move Z Z) (D8 7 127 255 Z Ag Z Z Z Z (D2 Z Z Z Z i2) (have ⟨u4,f1⟩:=E.ix (sz:=3) Ao V;D8 8 255 511 Z Ag Z Z Z Z (Ae Kd Z Z Z Z f1) (D8 9 511 1023 Z Ag Z Z Z Z (Af R0 Z Z Z (el (Dw 0 Z) f1 V)) (D8 10 1023 2047 Z Ag Z Z Z Z (QV.move Z Z) (D8 11 2047 4095 Z Ag Z Z Z Z (QV.move Z Z) (have ⟨W,m3⟩:=cs m2;have ⟨u5,f2⟩:=E.ix (sz:=3) Ao W;D8 12 4095 8191 Z Ag Z Z Z Z (Ae Kd Z Z Z Z f2) (D8 13 8191 16383 Z Ag Z Z Z Z (Af R0 Z Z Z (el (Dw 0 Z) f2 W)) (have ⟨Y,m4⟩:=cs m3;have ⟨u6,f3⟩:=E.ix (sz:=3) Ao Y;D8 14 16383 32767 Z Ag Z Z Z Z (Ae Kd Z Z Z Z f3) ?_)))))))))))))))))));have b7:SliceLen n (upd g d (ele g (d - 1))).length:=Iq E;refine WT.o (H':=[Fy n 213 3 (List.map Due.cells (upd g d (ele g (d - 1)))),kn M w.heap.size z z]) 15 32767 65535 Z Ag Z Ag ?_ ?_
     ·skip
      refine(Mf (enc:=Due.cells) (off:=0) (vs:=[i_ ((ele g (d - 1)).due),i_ ((ele g (d - 1)).reg),i_ ((ele g (d - 1)).v)]) 0 (ele g (d - 1)) rfl rfl rfl rfl rfl f3 Y (by first | rfl | exact M1 _) (show Ea _=List.toArray _ from rfl) Aew (nl rfl) (oz rfl) rfl ?_);exact WT.b sm
     refine have ⟨a0,m5⟩:=cs m4;have ⟨u7,f4⟩:=b7.ix (sz:=3) Ao a0;D8 16 65535 131071 Z Ag Z Z Z Z (Ae Kd Z Z Z Z f4) (WT.l 17 131071 262143 Z Ag Z ((Mf (enc:=Due.cells) (off:=0) (vs:=[i_ ((ele g d).due),i_ ((ele g d).reg),i_ ((ele g d).v)]) 0 (ele g d) rfl rfl rfl rfl rfl f4 a0 (by first | rfl | exact M1 _) (show Ea _=List.toArray _ from rfl) Aew (nl rfl) (oz rfl) rfl ?_)));have m0:SliceLen n (upd (upd g d (ele g (d - 1))) (d - 1) (ele g d)).length:=Iq b7;refine Ba (Aj (Bn (wm Z (have ⟨i3,m7⟩:=cs m5;wq Z (D2 Z Z Z Z i3) (wa Z (Bk ?_))))));exact Bs (upd (upd g d (ele g (d - 1))) (d - 1) (ele g d)) (d - 1) s6 ⟨A3 m7 f0,m0⟩ (Cc _) (sb Z) (pk [0,1])
    refine Cw (te (te (Am ?_)));exact Cm g d ⟨Bh m8 f0,E⟩ (sb Z) (pk [0,1])
   rintro s u u0 b2;obtain⟨g6,v8,rfl,K,S⟩:=A0 b2;unfold Cg at K;simp only at K;refine Au (sr (wm Z (wm Z (wq Z (QV.lss Z Z Z Z) (nt ?_)))));refine wc Z K (fun j9 m9=>?_) (fun j9 n4=>?_)
   ·skip
    refine sk (Aj (Cq (sr (wm Z (wm Z (have ⟨i4,a1,n0⟩:=cs2 m9;wq Z (A6 Z Z Z Z i4) (wq Z (Rj Tryz.underlying131 Tryz.underlying3 Z Z) (wq Z (Wh Z Z Z Z Ah) (wq Z (Rj Tryz.underlying3 Tryz.underlying131 Z Z) (wa Z (nt (Au (dq 12 (zm 0 Z Z (zm 1 Z Z (zm 2 Z Z (have ⟨u8,f5⟩:=p.ix (sz:=3) Ao a1;wz 3 Z Z (Ae Kd Z Z Z Z f5) (wz 4 Z Z (Af R0 Z Z Z (el (Dw 1 Z) f5 a1)) (zm 5 Z Z (zm 6 Z Z (have ⟨a2,b9⟩:=cs n0;have ⟨u9,f6⟩:=p.ix (sz:=3) Ao a2;wz 7 Z Z (Ae Kd Z Z Z Z f6) (wz 8 Z Z (Af R0 Z Z Z (el (Dw 1 Z) f6 a2)) ?_))))))))))))))))))))));obtain⟨w3,r6,c0⟩:=An b9;refine wz 9 Z Z (N6 Atl Z Z (ea Z) (fun w j=>have h:=G4 w r6 ;h)) ?_;refine wz 10 Z Z (QV.lss Z Z Z Z) (wz 11 Z Z (QV.not Z Z) (Eh Ag (Aj ?_)));refine wc Z c0 (fun k0 n1=>?_) (fun k0 n3=>?_)
    ·skip
     refine Bn (wm Z (have ⟨i5,n2⟩:=cs n1;wq Z (A6 Z Z Z Z i5) (wa Z (Bk (Ba ?_)))));exact Bs ((IntKind.i64.wrap (shrD (IntKind.u64.wrap (s+u)) 1))+1) u g6 (A3 n2 S) (Cc _) (sb Z) (pk [0,1])
    refine Bn (wm Z (wa Z (Bk (Ba ?_))));exact Bs s (IntKind.i64.wrap (shrD (IntKind.u64.wrap (s+u)) 1)) g6 (A3 n3 S) (Cc _) (sb Z) (pk [0,1])
   refine Cw (te (te (Am ?_)));exact Cm s u (Bh n4 S) (sb Z) (pk [0,1])
  refine sk (Aj (sr (wm Z (wm Z (have ⟨i6,i7,c2⟩:=cs2 n5;wq Z (A6 Z Z Z Z i6) (wq Z (Rj Tryz.underlying131 Tryz.underlying3 Z Z) (wq Z (Wh Z Z Z Z Ah) (wq Z (Rj Tryz.underlying3 Tryz.underlying131 Z Z) (wa Z (ns (wm Z (wm Z (wq Z (A6 Z Z Z Z i7) (wa Z (ns (wa Z (wa Z (nt (Au (sr (wm Z (wm Z (wq Z (QV.gtr Z Z Z Z) (nt ?_))))))))))))))))))))))));obtain⟨t2,J,n6⟩:=An c2;refine Vf (dt [0,1,2,3,4,18,19] [0,1] Z) (fun (G:Int) (F:Int)=>[(20,(true,i_ G)),(21,(true,i_ F))]) (fun G F=>[]) (fun G F=>t2=.go (G,F)) (sb Z) (pk [0,1]) ?_ ?_
  ·skip
   rintro G F rfl;refine sr (wm Z (have ⟨i8,c3⟩:=cs n6;wq Z (D2 Z Z Z Z i8) (wa Z (nt (Au ?_)))));obtain⟨h0,n7,s8,r2⟩:=bl c3;refine B6 (dt [0,1,2,3,4,18,19,22] [0,1] Z) (fun (y:Int) (x:Int)=>[(20,(true,i_ y)),(21,(true,i_ x))]) (fun y x=>[]) (fun y x m=>Cp (Ce data a A b) m (y,x)=some h0) (fun y x=>h0=.go (y,x)) G F s8 r2 (sb Z) (pk [0,1]) ?_ ?_
   ·skip
    rintro y x rfl;refine Aj (sr (wm Z (wm Z (have ⟨c167,c4⟩:=cs n7;wq Z (D2 Z Z Z Z c167) (wa Z (nt (Au (sr (wm Z (wm Z (wq Z (QV.lss Z Z Z Z) (wm Z (gP Z (QV.move Z Z) (gP Z (QV.move Z Z) (gp Z (fun k=>QV.lss Z k Z k) (wq Z (A7 Z Z Z (fun h=>h)) (nt ?_)))))))))))))))));refine wc Z c4 (fun k1 c5=>?_) (fun k1 d2=>?_)
    ·skip
     refine Bn (wm Z (wm Z (wm Z (wm Z (wm Z (Ab Z ?_))))));obtain⟨w4,r7,c6⟩:=An c5;refine(cq B en182 Z (Nj r7 p) Z (fun h4 Q t3=>nt (Au (sr (wm Z (wm Z (wq Z (QV.lss Z Z Z Z) (wm Z (gP Z (QV.move Z Z) (gP Z (QV.move Z Z) (gp Z (fun k=>QV.lss Z k Z k) (wq Z (A7 Z Z Z (fun h=>h)) (nt ?_)))))))))))));refine wc Z c6 (fun k2 c7=>?_) (fun k2 d0=>?_)
     ·skip
      refine Bn (wm Z (wm Z (wm Z (wm Z (wm Z (Ab Z ?_))))));obtain⟨w5,r8,c8⟩:=An c7;refine(cq B Aey Z (IH r8 Q) Z (fun h5 b0 t4=>ns (wm Z (wm Z (wq Z (QV.lss Z Z Z Z) (wm Z (gP Z (QV.move Z Z) (gP Z (QV.move Z Z) (gp Z (fun k=>QV.lss Z k Z k) (wq Z (A7 Z Z Z (fun h=>h)) (nt ?_)))))))))));refine wc Z c8 (fun k3 c9=>?_) (fun k3 n9=>?_)
      ·skip
       refine Bn (wm Z (wm Z (wm Z (wm Z (wm Z (Ab Z ?_))))));obtain⟨w6,r9,n8⟩:=An c9;refine(cq B Aey Z (IH r9 b0) Z (fun h6 l6 t5=>Bk ?_));obtain rfl:=(Ad n8).symm;refine Jk Z (fun w j=>?_);exact⟨h6,Z,j.pick [0,1] Ah,l6⟩
      refine sk ?_;obtain rfl:=(Ad n9).symm;refine Jk Z (fun w j=>?_);exact⟨h5,Z,j.pick [0,1] Ah,b0⟩
     refine sk (Aj (sr (wm Z (wm Z (wq Z (QV.lss Z Z Z Z) (wm Z (gP Z (QV.move Z Z) (gP Z (QV.move Z Z) (gp Z (fun k=>QV.lss Z k Z k) (wq Z (A7 Z Z Z (fun h=>h)) (nt ?_)))))))))));refine wc Z d0 (fun k4 d1=>?_) (fun k4 o1=>?_)
     ·skip
      refine Bn (wm Z (wm Z (wm Z (wm Z (wm Z (Ab Z ?_))))));obtain⟨w7,s0,o0⟩:=An d1;refine(cq B Aey Z (IH s0 Q) Z (fun h7 l7 t6=>Bk ?_));obtain rfl:=(Ad o0).symm;refine Jk Z (fun w j=>?_);exact⟨h7,Z,j.pick [0,1] Ah,l7⟩
     refine sk ?_;obtain rfl:=(Ad o1).symm;refine Jk Z (fun w j=>?_);exact⟨h4,Z,j.pick [0,1] Ah,Q⟩
    refine sk (Aj (Au (sr (wm Z (wm Z (wq Z (QV.lss Z Z Z Z) (wm Z (gP Z (QV.move Z Z) (gP Z (QV.move Z Z) (gp Z (fun k=>QV.lss Z k Z k) (wq Z (A7 Z Z Z (fun h=>h)) (nt ?_))))))))))));refine wc Z d2 (fun k5 d3=>?_) (fun k5 d7=>?_)
    ·skip
     refine Bn (wm Z (wm Z (wm Z (wm Z (wm Z (Ab Z ?_))))));obtain⟨w8,s1,d5⟩:=An d3;refine(cq B Aey Z (IH s1 p) Z (fun h8 b1 t7=>ns (wm Z (wm Z (wq Z (QV.lss Z Z Z Z) (wm Z (gP Z (QV.move Z Z) (gP Z (QV.move Z Z) (gp Z (fun k=>QV.lss Z k Z k) (wq Z (A7 Z Z Z (fun h=>h)) (nt ?_)))))))))));refine wc Z d5 (fun k6 d6=>?_) (fun k6 o3=>?_)
     ·skip
      refine Bn (wm Z (wm Z (wm Z (wm Z (wm Z (Ab Z ?_))))));obtain⟨w9,s2,o2⟩:=An d6;refine(cq B Aey Z (IH s2 b1) Z (fun h9 l8 t8=>Bk ?_));obtain rfl:=(Ad o2).symm;refine Jk Z (fun w j=>?_);exact⟨h9,Z,j.pick [0,1] Ah,l8⟩
     refine sk ?_;obtain rfl:=(Ad o3).symm;refine Jk Z (fun w j=>?_);exact⟨h8,Z,j.pick [0,1] Ah,b1⟩
    refine sk (Aj (sr (wm Z (wm Z (wq Z (QV.lss Z Z Z Z) (wm Z (gP Z (QV.move Z Z) (gP Z (QV.move Z Z) (gp Z (fun k=>QV.lss Z k Z k) (wq Z (A7 Z Z Z (fun h=>h)) (nt ?_)))))))))));refine wc Z d7 (fun k7 d8=>?_) (fun k7 o5=>?_)
    ·skip
     refine Bn (wm Z (wm Z (wm Z (wm Z (wm Z (Ab Z ?_))))));obtain⟨x0,s3,o4⟩:=An d8;refine(cq B Aey Z (IH s3 p) Z (fun i0 l9 t9=>Bk ?_));obtain rfl:=(Ad o4).symm;refine Jk Z (fun w j=>?_);exact⟨i0,Z,j.pick [0,1] Ah,l9⟩
    refine sk ?_;obtain rfl:=(Ad o5).symm;refine Jk Z (fun w j=>?_);exact⟨z,Z,j.pick [0,1] Ah,p⟩
   rintro y x u1 b4;obtain⟨g7,w0,rfl,L,T⟩:=A0 b4;unfold Ce at L;simp only at L;refine Au (sr (wm Z (wm Z (wq Z (QV.lss Z Z Z Z) (nt ?_)))));refine wc Z L (fun k8 o6=>?_) (fun k8 p2=>?_)
   ·skip
    refine sk (Aj (Cq (sr (wm Z (wm Z (have ⟨i9,j0,a3,o7⟩:=cs3 o6;wq Z (A6 Z Z Z Z i9) (wq Z (Rj Tryz.underlying131 Tryz.underlying3 Z Z) (wq Z (Wh Z Z Z Z Ah) (wq Z (Rj Tryz.underlying3 Tryz.underlying131 Z Z) (wa Z (nt (Au (dq 14 (zm 0 Z Z (zm 1 Z Z (zm 2 Z Z (zm 3 Z Z (wz 4 Z Z (D2 Z Z Z Z j0) (have ⟨v0,f7⟩:=p.ix (sz:=3) Ao a3;wz 5 Z Z (Ae Kd Z Z Z Z f7) (wz 6 Z Z (Af R0 Z Z Z (el (Dw 1 Z) f7 a3)) (zm 7 Z Z (zm 8 Z Z (have ⟨a4,e0⟩:=cs o7;have ⟨v1,f8⟩:=p.ix (sz:=3) Ao a4;wz 9 Z Z (Ae Kd Z Z Z Z f8) (wz 10 Z Z (Af R0 Z Z Z (el (Dw 1 Z) f8 a4)) ?_))))))))))))))))))))))));obtain⟨x1,s4,e1⟩:=An e0;refine wz 11 Z Z (N6 Atl Z Z (ea Z) (fun w j=>have h:=G4 w s4 ;h)) ?_;refine wz 12 Z Z (QV.lss Z Z Z Z) (wz 13 Z Z (QV.not Z Z) (Eh Ag (Aj ?_)));refine wc Z e1 (fun l0 o9=>?_) (fun l0 p1=>?_)
    ·skip
     refine Bn (wm Z (have ⟨j1,p0⟩:=cs o9;wq Z (A6 Z Z Z Z j1) (wa Z (Bk (Ba ?_)))));exact Bs ((IntKind.i64.wrap (shrD (IntKind.u64.wrap (y+x)) 1))+1) x g7 (A3 p0 T) (Cc _) (sb Z) (pk [0,1])
    refine Bn (wm Z (wa Z (Bk (Ba ?_))));exact Bs y (IntKind.i64.wrap (shrD (IntKind.u64.wrap (y+x)) 1)) g7 (A3 p1 T) (Cc _) (sb Z) (pk [0,1])
   refine Cw (te (te (Am ?_)));exact Cm y x (Bh p2 T) (sb Z) (pk [0,1])
  refine Abm Z (fun P=>?_) (fun P=>?_)
  ·skip
   have p3:=Aga P J;clear J;refine sr (wm Z (wm Z (have ⟨j2,p4⟩:=cs p3;wq Z (D2 Z Z Z Z j2) (wa Z (nr (wm Z (wa Z (Bk ?_))))))));exact Cm (((IntKind.i64.wrap (shrD (IntKind.u64.wrap (a+b)) 1))+A) - b) (IntKind.i64.wrap (shrD (IntKind.u64.wrap (a+b)) 1)) (Ad p4) (sb Z) (pk [0,1])
  have p5:=Agb P J;clear J;refine sr (wm Z (wa Z (nr (wm Z (wa Z (Bk ?_))))));exact Cm a A (Ad p5) (sb Z) (pk [0,1])
theorem Ni {b:Al}{data:List Due}{t:Int}{r:List Due}{o:Ak} (E:D7 data t=some r) (b6:SliceLen b data.length) (M:Nat→Prop) (w:Ak) (p:Base M o w) (d8:Own M w [Fy b 213 3 (List.map Due.cells data)] w):Calls Tryz.prog 159 #[b,.int .i64 t,.func (.func 126) #[] #[]] w (fun e w'=>∃ X:Ak,e=.returned (.tuple #[])∧Own M w (kn M w.heap.size o X::[Fy b 213 3 (List.map Due.cells r)]) w'∧SliceLen b (r).length):=by
 unfold D7 at E;refine cw 63 Tryz.func159 Z (sr (wa Z (ns (wm Z (wa Z (wa Z (nt (Au ?_)))))))) (Av p d8);obtain⟨U,K,e7,d6⟩:=bl E;refine Kh (dt [0,1,2,6] [] Z) (fun (i:List Due) (k:Int) (g:Int) (n:Ak)=>[(7,(true,i_ k)),(8,(true,i_ g))]) (fun i k g n=>[kn M w.heap.size o n,Fy b 213 3 (List.map Due.cells i)]) (fun i k g n m=>Cp (Bv t) m (i,k,g)=some U∧SliceLen b i.length∧Le o n) (fun i k g n=>U=.go (i,k,g)∧SliceLen b i.length∧Le o n) data 0 20 o e7 ⟨d6,b6,(Ih _)⟩ (sb Z) (pk [0,1]) ?_ ?_
 ·skip
  rintro i k g n ⟨rfl,v,C⟩;refine Aj (sr (wm Z (wm Z (wm Z (wm Z (Ab Z ?_))))));obtain⟨f0,e1,R⟩:=An K;refine(cq p A4r Z (F5 e1 v) Z (fun B b5 f2=>nt ?_));obtain⟨V,c0,e5,d4⟩:=bl R;refine F2 (dt [0,1,2] [] Z) (fun (d:List Due) (a:Int) (c:Ak)=>[(6,(true,i_ a))]) (fun d a c=>[kn M w.heap.size o c,Fy b 213 3 (List.map Due.cells d)]) (fun d a c m=>Cp (B7 t) m (d,a)=some V∧SliceLen b d.length∧Le B c) (fun d a c=>V=.go (d,a)∧SliceLen b d.length∧Le B c) f0 20 B e5 ⟨d4,b5,(Ih _)⟩ (sb Z) (pk [0,1]) ?_ ?_
  ·skip
   rintro d a c ⟨rfl,x,u⟩;obtain rfl:=(Ad c0).symm;refine Jk Z (fun w d7=>?_);exact⟨c,Z,d7.pick [0,1] Ah,x⟩
  rintro d a c m15 ⟨G,x,u⟩;obtain⟨m17,f5,rfl,y,F⟩:=A0 G;unfold B7 at y;simp only at y;refine Au (sr (wm Z (wm Z (wq Z (QV.lss Z Z Z Z) (nt ?_)))));refine wc Z y (fun a8 c1=>?_) (fun a8 d0=>?_)
  ·skip
   refine sk (Aj (Cq (sr (wm Z (have ⟨a2,J⟩:=cs c1;wq Z (QV.mul Z Z Z Z a2) (wa Z (wa Z (nt (Au ?_)))))))));obtain⟨W,c2,e6,d5⟩:=bl J;refine Kh (dt [0,1,2,6] [] Z) (fun (f:List Due) (l:Int) (h:Int) (j:Ak)=>[(7,(true,i_ l)),(8,(true,i_ h))]) (fun f l h j=>[kn M w.heap.size o j,Fy b 213 3 (List.map Due.cells f)]) (fun f l h j m=>Cp (Bu t a) m (f,l,h)=some W∧SliceLen b f.length∧Le c j) (fun f l h j=>W=.go (f,l,h)∧SliceLen b f.length∧Le c j) d 0 (2 * a) c e6 ⟨d5,x,(Ih _)⟩ (sb Z) (pk [0,1]) ?_ ?_
   ·skip
    rintro f l h j ⟨rfl,s,q⟩;refine Aj (Au (sr (wm Z (wm Z (have ⟨a3,L⟩:=cs c2;wq Z (A6 Z Z Z Z a3) (wa Z (ns (wm Z (wm Z (wq Z (QV.lss Z Z Z Z) (nt ?_)))))))))));refine wc Z L (fun a9 N=>?_) (fun a9 c5=>?_)
    ·skip
     refine Bn (wm Z (wm Z (wm Z (wm Z (wm Z (Ab Z ?_))))));obtain⟨e8,d9,c3⟩:=An N;refine(cq p Aey Z (Gx 64 d9 s) Z (fun Y b2 b7=>nr (wm Z (have ⟨a4,c4⟩:=cs c3;wq Z (QV.mul Z Z Z Z a4) (wa Z (Bk (Ba ?_)))))));exact Ek e8 (a * 2) Y m17 ⟨A3 c4 F,b2,((u.trans q).trans b7)⟩ (Cc _) (sb Z) (pk [0,1])
    refine sk (Aj (Bn (wm Z (have ⟨a5,c6⟩:=cs c5;wq Z (QV.mul Z Z Z Z a5) (wa Z (Bk (Ba ?_)))))));exact Ek f (a * 2) j m17 ⟨A3 c6 F,s,(u.trans q)⟩ (Cc _) (sb Z) (pk [0,1])
   rintro f l h j f3 ⟨H,s,q⟩;obtain⟨e3,f6,rfl,z,S⟩:=A0 H;unfold Bu at z;simp only at z;refine Au (sr (wm Z (wm Z (wq Z (QV.leq Z Z Z Z) (nt ?_)))));refine wc Z z (fun b0 O=>?_) (fun b0 c9=>?_)
   ·skip
    refine sk (Aj (Cq (sr (wm Z (wm Z (wm Z (wm Z ?_)))))));obtain⟨c51,P⟩:=cs O;refine wq Z (A6 Z Z Z Z c51) (wm Z (wm Z (Ab Z ?_)));obtain⟨e9,e0,c7⟩:=An P;refine(cq p Aey Z (Gx 64 e0 s) Z (fun a0 b3 b8=>ns (wm Z (wa Z (nr (wm Z (wm Z (have ⟨a6,a7,c8⟩:=cs2 c7;wq Z (QV.mul Z Z Z Z a6) (wq Z (A6 Z Z Z Z a7) (wa Z (Bk (Ba ?_))))))))))));exact F1 e9 h (h+(2 * a)) a0 e3 ⟨A3 c8 S,b3,(q.trans b8)⟩ (Cc _) (sb Z) (pk [0,1])
   refine Cw (te (te (Am ?_)));exact Mw f l h j ⟨Bh c9 S,s,q⟩ (sb Z) (pk [0,1])
  refine Cw (te (te (Am ?_)));exact Jj d a c ⟨Bh d0 F,x,u⟩ (sb Z) (pk [0,1])
 rintro i k g n f4 ⟨I,v,C⟩;obtain⟨e4,f7,rfl,A,T⟩:=A0 I;unfold Bv at A;simp only at A;refine Au (sr (wm Z (wm Z (wq Z (QV.leq Z Z Z Z) (nt ?_)))));refine wc Z A (fun b1 Q=>?_) (fun b1 d3=>?_)
 ·skip
  refine sk (Aj (Cq (sr (wm Z (wm Z (wm Z (wm Z (Ab Z ?_))))))));obtain⟨f1,e2,d1⟩:=An Q;refine(cq p A4r Z (F5 e2 v) Z (fun a1 b4 b9=>ns (wm Z (wa Z (nr (wm Z (wm Z (have ⟨c75,d2⟩:=cs d1;wq Z (A6 Z Z Z Z c75) (wa Z (Bk (Ba ?_)))))))))));exact F1 f1 g (g+20) a1 e4 ⟨A3 d2 T,b4,(C.trans b9)⟩ (Cc _) (sb Z) (pk [0,1])
 refine Cw (te (te (Am ?_)));exact Mw i k g n ⟨Bh d3 T,v,C⟩ (sb Z) (pk [0,1])
theorem Hq {a:Al}{x r:List Due}{c:Ak} (b:Bp x=some r) (d:SliceLen a x.length) (M:Nat→Prop) (w:Ak) (f:Base M c w) (k:Own M w [Fy a 213 3 (List.map Due.cells x)] w):Calls Tryz.prog 125 #[a,.func (.func 126) #[] #[]] w (fun e w'=>∃ X:Ak,e=.returned (.tuple #[])∧Own M w (kn M w.heap.size c X::[Fy a 213 3 (List.map Due.cells r)]) w'∧SliceLen a (r).length):=by
 unfold Bp at b;refine cw 9 Tryz.func125 Z (Bn (wm Z (wm Z (wq Z (A5 Tryz.underlying161 Z Z d) (wm Z (Ab Z ?_)))))) (Av f k);obtain⟨n,l,i⟩:=An b;refine(cq f en159 Z (Ni l d) Z (fun g h m=>Bk ?_));obtain rfl:=(Ad i).symm;refine Jk Z (fun w j=>?_);exact⟨g,Z,j.pick [0,1] Ah,h⟩
end Go.Proofs.YtaimbkndebaaiaaGreatDoor
end
section
namespace Go.Proofs.YtaimbkndebaaiaaGreatDoor
open Go.Rd
open TLib TLibR TLibA TSay TNum0 TNum TLoop TPar TStable
namespace TMach
theorem en107:Go.Rd.Enters Tryz.prog 107:=eT Tryz.func107
theorem en125:Go.Rd.Enters Tryz.prog 125:=eT Tryz.func125
theorem en61:Go.Rd.Enters Tryz.prog 61:=eT Tryz.func61
theorem Zd:Cb Tryz.prog 163 0 0:=fT 6 Tryz.underlying163
theorem Ab9:Cb Tryz.prog 163 2 10:=fT 0 Tryz.underlying163
theorem Ji:Cb Tryz.prog 163 5 13:=fT 0 Tryz.underlying163
theorem A3e:Cb Tryz.prog 213 1 1:=fT 0 Tryz.underlying213
theorem A3d:Cb Tryz.prog 213 2 2:=fT 0 Tryz.underlying213
theorem Xw:N3 Tryz.prog 161:=⟨_,Tryz.underlying161,rfl⟩
theorem Ajp:Dt Tryz.prog 161 1:=by unfold Dt;kernel_rfl
end TMach
open TMach
theorem Ac6 {x r:Int} (w:Ak) (j:L0 x=some r) :Calls Tryz.prog 107 #[.int .u64 x] w (fun e w'=>e=.returned (.int .i64 r)∧Grow w w'):=by
 unfold L0 at j;refine have u:=D0 (w:=w);cw 25 Tryz.func107 Z (sr (wa Z (nt (Au (sr (wm Z (wq Z (QV.geq Z Z Z Z) (nt ?_)))))))) (Av u (D3 w));obtain⟨H,f,l⟩:=An j;refine Vf (dt [] [0] Z) (fun (c:Int) (b:Int)=>[(0,(true,.int .u64 c)),(2,(true,i_ b))]) (fun c b=>[]) (fun c b=>H=.go (c,b)) (sb Z) (pk [0]) ?_ ?_
 ·skip
  rintro c b rfl;refine Au (sr (wm Z (wq Z (QV.geq Z Z Z Z) (nt ?_))));obtain⟨I,g,m⟩:=An l;refine Vf (dt [] [0] Z) (fun (a:Int) (d:Int)=>[(0,(true,.int .u64 a)),(2,(true,i_ d))]) (fun a d=>[]) (fun a d=>I=.go (a,d)) (sb Z) (pk [0]) ?_ ?_
  ·skip
   rintro a d rfl;refine Au (sr (wm Z (wq Z (QV.geq Z Z Z Z) (nt ?_))));refine wc Z m (fun t G=>?_) (fun t y=>?_)
   ·skip
    refine sr (wm Z (wq Z (Wh Z Z Z Z Ah) (wa Z (nr (wm Z (have ⟨c9,n,o,v⟩:=cs3 G;wq Z (A6 Z Z Z Z c9) (wa Z (ns (wm Z (wm Z (wq Z (Adz (Ams (shrD a 8)) (Rj Tryz.underlying5 Tryz.underlying193 Z Z)) (wq Z (Ks Tryz.underlying9 Z Z Z Z n) (wq Z (Adz (Aju (ele len8T ((bt (shrD a 8)).toNat:Int))) (Rj Tryz.underlying3 Tryz.underlying5 Z Z)) (wq Z (A6 Z Z Z Z o) (wa Z (nt (A9 ?_)))))))))))))))));obtain rfl:=(Ad v).symm;exact Aw Z Z fun w k=>kg k
   refine sk (Aj (sr (wm Z (wm Z (wq Z (Adz (Ams a) (Rj Tryz.underlying5 Tryz.underlying193 Z Z)) (have ⟨p,q,z⟩:=cs2 y;wq Z (Ks Tryz.underlying9 Z Z Z Z p) (wq Z (Adz (Aju (ele len8T ((bt a).toNat:Int))) (Rj Tryz.underlying3 Tryz.underlying5 Z Z)) (wq Z (A6 Z Z Z Z q) (wa Z (nt (A9 ?_)))))))))));obtain rfl:=(Ad z).symm;exact Aw Z Z fun w k=>kg k
  refine Abm Z (fun h=>?_) (fun h=>?_)
  ·skip
   have A:=Aga h g;clear g;refine sr (wm Z (wq Z (Wh Z Z Z Z Ah) (wa Z (nr (wm Z (have ⟨s,B⟩:=cs A;wq Z (A6 Z Z Z Z s) (wa Z (Bk ?_))))))));exact Cm (shrD c 16) (b+16) (Ad B) (sb Z) (pk [0])
  have C:=Agb h g;clear g;refine sk ?_;exact Cm c b (Ad C) (sb Z) (pk [0])
 refine Abm Z (fun i=>?_) (fun i=>?_)
 ·skip
  have E:=Aga i f;clear f;refine sr (wm Z (wq Z (Wh Z Z Z Z Ah) (wa Z (nr (wa Z (Bk ?_))))));exact Cm (shrD x 32) 32 (Ad E) (sb Z) (pk [0])
 have F:=Agb i f;clear f;refine sk ?_;exact Cm x 0 (Ad F) (sb Z) (pk [0])
theorem Xg {x r:Int} (w:Ak) (a:Hk x=some r) :Calls Tryz.prog 61 #[.int .u64 x] w (fun e w'=>e=.returned (.int .i64 r)∧Grow w w'):=by
 unfold Hk at a;refine have d:=D0 (w:=w);cw 8 Tryz.func61 Z (sr (wa Z (nt (Au ?_)))) (Av d (D3 w));refine Abm Z (fun b=>?_) (fun b=>?_)
 ·skip
  cases b
 refine sk (Aj (sr (wm Z ?_)));obtain⟨i,g,f⟩:=An a;refine wq Z (QV.call en107 (ea Z) (fun w c=>have h:=Ac6 w g ;h)) ?_;refine wa Z (nt (A9 ?_));obtain rfl:=(Ad f).symm;exact Aw Z Z fun w c=>kg c
theorem Aje {A:Al}{memory:List (List Int)}{r:List Int×Bool}{i:Ak} (l:Lm memory=some r) (q:RowsA i A memory) (M:Nat→Prop) (w:Ak) (k:Base M i w) (V:Own M w [] w):Calls Tryz.prog 77 #[A] w (fun e w'=>∃ X:Al×Ak,e=.returned (.tuple #[X.1,.bool r.2])∧Own M w (kn M w.heap.size i X.2::[]) w'∧Arr X.2 X.1 1 (r.1.map Ar)):=by
 unfold Lm at l;refine cw 38 Tryz.func77 Z (sr (wa Z (wa Z (ns (wa Z (nt (Au (sr (wm Z (wq Z (A5 Tryz.underlying102 Z Z q.slen) (wm Z (nt (F7 (fun w f=>f.vecNil (E:=3) (sz:=1) (enc:=Ar)) ?_))))))))))))) (Av k V);obtain⟨z,y,a1,R⟩:=bl l;refine F2 (dt [8,9] [1] Z) (fun (a:List Int) (c:Int) (b:Al)=>[(4,(true,b)),(10,(true,i_ c))]) (fun a c b=>[vec b 3 1 (List.map Ar a)]) (fun a c b m=>Cp (Hb memory) m (a,c)=some z∧SliceLen b a.length) (fun a c b=>z=.go (a,c)∧SliceLen b a.length) [] 0 (.slice none 0 0) a1 ⟨R,Gq⟩ (sb Z) (pk [0,1]) ?_ ?_
 ·skip
  rintro a c b ⟨rfl,s⟩;refine Aj (sr (wm Z (wa Z (wa Z (nt (A9 ?_))))));obtain rfl:=(Ad y).symm;refine kp [1,0] Z (Gk k (fun Y a4 T=>have K:=Cj T;Eg Z Z Z (fun w f=>?_)));exact⟨(b,Y),Z,f.pick [0] Ah,K⟩
 rintro a c b a5 ⟨p,s⟩;obtain⟨a0,a7,rfl,j,n⟩:=A0 p;unfold Hb at j;simp only at j;refine sr (wq Z (QV.lss Z Z Z Z) (nt (Au ?_)));refine wc Z j (fun H t=>?_) (fun H Q=>?_)
 ·skip
  refine sk (Aj (Au (Cq (sr ?_))));obtain⟨B,N⟩:=cs t;obtain⟨a6,a8,S,L,J⟩:=q.ix B;refine wq Z (Ae Ti Z Z Z Z S) (wl Ty Z (co 0 (A2 1 Z k L) Z) (wa Z (ns (wm Z (wq Z (A5 Tryz.underlying43 Z Z J.lenMap) (wa Z (nt (Au (sr (wm Z (wq Z (QV.eql Z Z Z Z) (wm Z (gN Z (QV.move Z Z) (gN Z (QV.move Z Z) (have ⟨C,u⟩:=cs N;gn Z (fun d=>D2 Z d Z Z (C d)) (gn Z (fun d=>Af5 Z d Z d) (gn Z (fun d=>QV.neq Z d Z Z) (wq Z (Bc Z Z Z (fun h=>Fm h)) (wm Z (gN Z (QV.move Z Z) (gn Z (fun d=>QV.gtr Z d Z Z) (wq Z (Bc Z Z Z (fun h=>Fm h)) (nt ?_)))))))))))))))))))))));refine wc Z u (fun I O=>?_) (fun I v=>?_)
  ·skip
   refine sr (wa Z (wa Z (nt (A9 (tr (kr (tr (tr (kr (tr (tr ?_)))))))))));obtain rfl:=Dr O n;obtain rfl:=(Ad y).symm;refine Eg Z Z Z (fun w f=>?_);exact⟨(.slice none 0 0,i),Z,f.pick [1] Ah,Gr⟩
  refine sk (Aj (Bn (wm Z (wm Z (wq Z (Rj Tryz.underlying131 Tryz.underlying3 Z Z) ?_)))));obtain⟨g,W,x⟩:=An v;refine wq Z (QV.call en61 (ea Z) (fun w f=>have h:=Xg w W ;h)) ?_;obtain⟨F,o,G,P⟩:=cs3 x;refine wq Z (D2 Z Z Z Z F) (Ab Z ((Di Ah L7 Ah Ah (ps:=[(0,.tmp 33)]) (cells:=[i_ (g - 1)]) (ea Z) Ag (fun a3=>Ab Z ((Bt (enc:=Ar) (xs:=a) (ys:=[(g - 1)]) ((a++[(g - 1)])) 1 Ah Xh Z Z Z Z Z (Bb 0 (rows:=[(g - 1)].map Ar) Z Z (Bq Bd)) Bd (Dl _) Z o.1 o.2 (fun a2 U=>wa Z (Bk (Ba (Aj (Bn (wq Z (A6 Z Z Z Z G) (wm Z (Bk ?_))))))))))))));exact Ek (a++[(g - 1)]) (c+1) a2 a0 ⟨A3 P n,U⟩ (Cc _) (sb Z) (pk [1,2])
 refine Cw (te (te (Am ?_)));exact Jj a c b ⟨Bh Q n,s⟩ (sb Z) (pk [0,1])
theorem E4 {h:Addr}{m p n o:Al}{a:Tgt}{d f g i pace r:Int} (w:Ak) (b:C0 a d f g i pace=some r) (k:CellsAt w h [.int .i64 a.u0,.int .i64 a.u1,.int .i64 a.u2,.int .i64 a.w0,.int .i64 a.w1,.int .i64 a.w2,.int .i64 a.regs,.int .i64 d,.int .i64 f,m,p,n,.int .i64 g,o] 0):Calls Tryz.prog 122 #[.pointer (some h),.int .i64 i,.int .i64 pace] w (fun e w'=>e=.returned (.int .i64 r)∧Grow w w'):=by
 unfold C0 at b;refine have c:=D0 (w:=w);cw 16 Tryz.func122 Z (sr (wa Z (ns (wm Z (wm Z ?_))))) (Av c (D3 w));obtain⟨c1,c3,j⟩:=cs2 b;refine wq Z (A6 Z Z Z Z c1) (wm Z (wq Z (QV.nilCheck Z Z) (wf Zd Z (wf Nw Z (wl pl3 Z (co 6 (A2 0 Z c k) Z) (wq Z (QV.rem Z Z Z Z c3) (wa Z (nt (A9 ?_)))))))));obtain rfl:=(Ad j).symm;exact Aw Z Z fun w l=>kg l
theorem P9 {A g i:Al}{t:List Al}{j:Al}{p:Nat}{a:Tgt}{u x:Int}{a0:List Opr}{y:List Int}{l:List (List Int)}{z:Int}{G:List Due}{B:Int}{r:List Int×List Due}{o:Ak} (E:Eb a u x a0 y l z G B=some r) (b7:Arr o A 10 (a0.map Opr.cells)) (a6:SliceLen g y.length) (b8:SliceLen i l.length) (b9:GL t l) (a5:SliceLen j G.length) (M:Nat→Prop) (w:Ak) (N:Base M o w) (b4:Own M w [blk p [.int .i64 a.u0,.int .i64 a.u1,.int .i64 a.u2,.int .i64 a.w0,.int .i64 a.w1,.int .i64 a.w2,.int .i64 a.regs,.int .i64 u,.int .i64 x,A,g,i,.int .i64 z,j] 163,vec g 2 1 (List.map Ar y),Jb i t 43 2 l,Fy j 213 3 (List.map Due.cells G)] w):Calls Tryz.prog 81 #[.pointer (some (⟨p,0,none⟩)),.int .i64 B] w (fun e w'=>∃ X:Al×Al×Ak,e=.returned (.tuple #[])∧Own M w (kn M w.heap.size o X.2.2::[blk p [.int .i64 a.u0,.int .i64 a.u1,.int .i64 a.u2,.int .i64 a.w0,.int .i64 a.w1,.int .i64 a.w2,.int .i64 a.regs,.int .i64 u,.int .i64 x,A,X.1,i,.int .i64 z,X.2.1] 163,Jb i t 43 2 l,vec X.1 2 1 (List.map Ar r.1),Fy X.2.1 213 3 (List.map Due.cells r.2)]) w'∧SliceLen X.1 (r.1).length∧SliceLen X.2.1 (r.2).length):=by
 unfold Eb at E;refine cw 61 Tryz.func81 Z (sr (wm Z (wq Z (QV.nilCheck Z Z) (wf Ji Z (wl Xw Z (Aq 1 Z Z) (Ab Z ?_)))))) (Av N b4);obtain⟨f,b5,R⟩:=An E;refine(cr [0,4,1,2,3] N en125 Z (Hq b5 a5) Z (fun H k c0=>ns (wa Z (nt (Au ?_)))));obtain⟨a1,S,b6,b3⟩:=bl R;refine B6 (dt [0,1] [0,1,2,4] Z) (fun (d:List Int) (b:Int)=>[(4,(true,i_ b))]) (fun d b=>[vec g 2 1 (List.map Ar d)]) (fun d b m=>Cp (Em B f) m (d,b)=some a1∧SliceLen g d.length) (fun d b=>a1=.go (d,b)∧SliceLen g d.length) y 0 b6 ⟨b3,a6⟩ (sb Z) (pk [3,0,1,2,4]) ?_ ?_
 ·skip
  rintro d b ⟨rfl,n⟩;refine Aj (Bn (wm Z (wm Z (wq Z (QV.nilCheck Z Z) (wf Ji Z (wl Xw Z (Aq 3 Z Z) (wm Z ?_)))))));obtain⟨q,a8⟩:=cs S;refine wq Z (Ow Kd Z Z k Z Z q) (wq Z (QV.nilCheck Z Z) (wf Ji Z (Ab Z (ep [2,0,1,3,4] Z (have C:=U8 (sz:=3) k q;EV.of (C':=Own M w [Fy (Np j 3 (Int.toNat b) (Int.toNat (ln f))) 213 3 (List.map Due.cells (sub f b (ln f))),vec g 2 1 (List.map Ar d),kn M w.heap.size o H,blk p [i_ a.u0,i_ a.u1,i_ a.u2,i_ a.w0,i_ a.w1,i_ a.w2,i_ a.regs,i_ u,i_ x,A,g,i,i_ z,j] 163,Jb i t 43 2 l]) (fun w F=>F.ovecCut (A5w q) (A2h q)) ((ex 3 [(Np j 3 (Int.toNat b) (Int.toNat (ln f)))] (Hr C) Ajp (oc (Cy C) B3) Z (Bk ?_))))))));obtain rfl:=(Ad a8).symm;refine Jk Z (fun w F=>?_);exact⟨(g,(Np j 3 (Int.toNat b) (Int.toNat (ln f))),H),Z,F.pick [2,3,4,1,0] Ah,n,C⟩
 rintro d b c1 ⟨L,n⟩;obtain⟨m15,c6,rfl,s,T⟩:=A0 L;unfold Em at s;simp only at s;refine Au (sr (wm Z (wm Z (wq Z (QV.nilCheck Z Z) (wf Ji Z (wl Xw Z (Aq 3 Z Z) (wq Z (A5 Tryz.underlying161 Z Z k) (wq Z (QV.lss Z Z Z Z) (wm Z (gP Z (QV.move Z Z) (gp Z (fun c=>QV.nilCheck Z c) (gp Z (fun c=>QV.fieldAddr Ji Z c) (gp Z (fun c=>Cs Xw Z c (Aq 3 Z Z)) (gP Z (QV.move Z Z) ?_))))))))))))));obtain⟨I,O⟩:=cs s;obtain⟨c2,U⟩:=k.ixG (sz:=3) Ao I;refine gp Z (fun c=>Ae Kd Z c Z c (U c)) (gp Z (fun c=>QV.fieldAddr Ana Z c) (gp Z (fun c=>Cs pl3 Z c (cl 0 (Dw 2 Z) (U c) (I c) Z)) (gP Z (QV.move Z Z) (gp Z (fun c=>QV.leq Z c Z c) (wq Z (A7 Z Z Z (fun h=>h)) (nt ?_))))));refine wc Z O (fun a4 P=>?_) (fun a4 b2=>?_)
 ·skip
  refine sk (Aj (Au (Cq (dp 22 [1,0,2,3,4] Z (zm 0 Z Z (wz 1 Z Z (QV.nilCheck Z Z) (zf 2 Ab9 Z Z (zl 3 Ty Z Z (Aq 3 Z Z) (zm 4 Z Z (wz 5 Z Z (QV.nilCheck Z Z) (zf 6 Ji Z Z (zl 7 Xw Z Z (Aq 3 Z Z) (zm 8 Z Z ?_)))))))))))));obtain⟨J,Q⟩:=cs P;obtain⟨c3,V⟩:=k.ix (sz:=3) Ao J;refine wz 9 Z Z (Ae Kd Z Z Z Z V) (zf 10 A3e Z Z (zl 11 pl3 Z Z (cl 1 (Dw 2 Z) V J Z) (zm 12 Z Z (wz 13 Z Z (QV.nilCheck Z Z) (zf 14 Ji Z Z (zl 15 Xw Z Z (Aq 3 Z Z) (zm 16 Z Z ?_)))))));obtain⟨K,a9⟩:=cs Q;obtain⟨c4,W⟩:=k.ix (sz:=3) Ao K;refine wz 17 Z Z (Ae Kd Z Z Z Z W) (zf 18 A3d Z Z (zl 19 pl2 Z Z (cl 2 (Dw 2 Z) W K Z) (have ⟨a2,b0⟩:=cs a9;have ⟨c5,Y⟩:=n.ix (sz:=1) Ao a2;wz 20 Z Z (Ae Xl Z Z Z Z Y) (Ig 21 Z Ag Z ((Vh 0 ((ele f b).v) U3 Z Z Z Z Z Y Z Z sz2 ?_))))));have a7:SliceLen g (upd d ((ele f b).reg) ((ele f b).v)).length:=Iq n;refine Ba (Aj (Bn (wm Z (have ⟨a3,b1⟩:=cs b0;wq Z (A6 Z Z Z Z a3) (wa Z (Bk ?_))))));exact Bs (upd d ((ele f b).reg) ((ele f b).v)) (b+1) m15 ⟨A3 b1 T,a7⟩ (Cc _) (sb Z) (pk [0,1,2,3,4])
 refine Cw (te (te (Am ?_)));exact Cm d b ⟨Bh b2 T,n⟩ (sb Z) (pk [0,1,2,3,4])
end Go.Proofs.YtaimbkndebaaiaaGreatDoor
end