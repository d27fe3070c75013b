/- Texts for the law, 6. -/
import Derived.Test.YtaimbkndebaaiaaGreatDoorZLdriveOn5
import Derived.Test.YtaimbkndebaaiaaGreatDoorProg
import Derived.Shelf.LaysM
import Derived.KernelRfl
import Derived.Shelf.LaysC
set_option linter.unusedVariables false
set_option linter.unusedSimpArgs false
set_option maxRecDepth 8000
set_option linter.defProp false
open Go renaming World→Aj,Value→Ak
open Bool renaming false→Ay
open Go.Value renaming cells→Ee
open Go.Lib renaming hasPrefix→Og
section
namespace Go.Rd
noncomputable def Oh (t:Tgt) (x s:List UInt8):List UInt8×Tgt×List UInt8:=(Dc t x s).getD ([],t,x)
noncomputable def Wj:Tgt→List UInt8→List (List UInt8)→List UInt8
 | _,_,[]=>[]
 | t,x,s::r=>((Oh t x s).1++[10])++Wj (Oh t x s).2.1 (Oh t x s).2.2 r
theorem Ahs {t:Tgt} (d:C4 t=true) {x s:List UInt8} (f:x.length+s.length≤1048576) :
  Dc t x s=some (Oh t x s)∧Hm t x s=some (Oh t x s)∧(Oh t x s).1.length≤2000∧C4 (Oh t x s).2.1=true∧(Oh t x s).2.2.length≤x.length+s.length:=by
 obtain⟨r,a,b,c⟩:=Avr d f
 have e:Oh t x s=r:=by unfold Oh;rw[a];rfl
 rw[e];exact⟨a,b,c⟩
theorem Aju (v:List (List UInt8)):∀ (u:List (List UInt8)) (t:Tgt) (x:List UInt8),∃ z,Wj t x (u++v)=Wj t x u++z
 | [],t,x=>⟨Wj t x v,rfl⟩
 | s::r,t,x=>by
  obtain⟨z,a⟩:=Aju v r (Oh t x s).2.1 (Oh t x s).2.2;refine⟨z,?_⟩;rw[We,Wj,a,Wj];simp
def tot (L:List (List UInt8)):Nat:=(L.map List.length).sum
theorem Abu (s:List UInt8) (r:List (List UInt8)):tot (s::r)=s.length+tot r:=by simp[tot]
theorem A1n (u v:List (List UInt8)):tot (u++v)=tot u+tot v:=by simp[tot]
theorem Atb (c:UInt8):∀ s:List UInt8,tot (spl c s)≤s.length
 | []=>by simp[spl,tot]
 | x::r=>by
  have b:=Atb c r;unfold spl;split
  ·rw[Abu];simp only[Dx,Ew];omega
  ·cases h:spl c r with
   | nil=>simp[tot]
   | cons a t=>rw[h,Abu] at b;simp only;rw[Abu];simp only[Dx];omega
theorem An7 (n:Nat) (L:List (List UInt8)):tot (L.take n)≤tot L:=by
 have:=A1n (L.take n) (L.drop n);rw[Ld] at this;omega
theorem A2o {γ:Type}{F:γ→Option (Stp γ Empty)}{st:Tgt→List UInt8→List UInt8→Nat→γ} (V:List (List UInt8)) (u:V.length≤60)
  (step:∀ (i:Nat) t x out,i<V.length→C4 t=true→x.length+(ele V (i:Int)).length≤1048576→out.length≤200000→F (st t x out i)=some (.next (st (Oh t x (ele V (i:Int))).2.1 (Oh t x (ele V (i:Int))).2.2 (out++((Oh t x (ele V (i:Int))).1++[10])) (i+1))))
  (n:∀ t x out,F (st t x out V.length)=some (.brk (st t x out V.length))) :
  ∀ (r:List (List UInt8)) (i:Nat) (t:Tgt) (x out:List UInt8),V.drop i=r→i+r.length=V.length→C4 t=true→x.length+tot r≤1048576→out.length≤2001 * i→∃ c d,lp F (st t x out i)=some (.go (st c d (out++Wj t x r) V.length)):=by
 intro r
 induction r with
 | nil =>
  intro i t x out f a b k o
  obtain rfl:i=V.length:=by simpa using a
  exact⟨t,x,by rw[C2 (n t x out),Wj,Nl]⟩
 | cons s r p =>
  intro i t x out f a b k o;simp only[Dx] at a;rw[Abu] at k;have j:i<V.length:=Aa;have g:=Yy j;rw[f] at g
  injection g with h m
  have l:=step i t x out j b (by rw[←h];omega) Aa;rw[←h] at l;obtain⟨_,_,v,q,w⟩:=Ahs b (x:=x) (s:=s) Aa;obtain⟨c,d,e⟩:=p (i+1) (Oh t x s).2.1 (Oh t x s).2.2 (out++((Oh t x s).1++[10])) m.symm Aa q Aa (by simp only[B2,Dx,Ew];omega);exact⟨c,d,by rw[Bz l e,Wj,Gw]⟩
def Anc:Tgt:=⟨2,1,1,1,3,2,32⟩
theorem A1s:C4 Anc=true:=Ai
def Lb (s:List UInt8):List (List UInt8):=if ele (spl 10 s) (ln (spl 10 s) - 1)=[] then (spl 10 s).dropLast else spl 10 s
theorem Arz (s:List UInt8):tot (Lb s)≤s.length:=by
 have h:=Atb 10 s;unfold Lb;split
 ·rw[List.dropLast_eq_take]
  exact Nk (An7 _ _) h
 ·exact h
theorem A52 {s:List UInt8} (hs:s.length≤1048576):(br ((ele (spl 10 s) ((ln (spl 10 s)) - 1))==[]) (ck (IR ((ln (spl 10 s)) - 1))<|ck (SX 0 ((ln (spl 10 s)) - 1) (ln (spl 10 s)))<|some (.go (sub (spl 10 s) 0 ((ln (spl 10 s)) - 1)))) (some (.go (spl 10 s))):Option (Out (List (List UInt8)) Empty))=some (.go (Lb s)):=by
 obtain⟨n,b,c,d,e,a,f⟩:=Xp hs;unfold Lb;by_cases h:ele (spl 10 s) (ln (spl 10 s) - 1)=[]
 ·rw[Bg h,h,show (([]:List UInt8)==[])=true from rfl,br_true,a,Au ⟨Aa,Aa⟩,Au ⟨E6 _,Aa,Aa⟩]
 ·rw[Bb h,Wk h,br_false]
theorem Axu {L:List (List UInt8)}:sub L 0 (min (ln L) 60)=L.take 60:=by
 unfold Rd.sub;rw[Ap];simp only[Int.toNat_zero,Akp];by_cases h:L.length≤60
 ·rw[show (min (L.length:Int) 60 - 0).toNat=L.length from Aa,Wf (Cf _),Wf h]
 ·rw[show (min (L.length:Int) 60 - 0).toNat=60 from Aa]
theorem Amv {s:List UInt8} (hs:s.length≤1048576):Jj s=some (Wj Anc [] ((Lb s).take 60)):=by
 obtain⟨n,d,f,g,h,j,k⟩:=Xp hs;unfold Jj;rw[Abq _ Aa,bd_ret,Au ⟨Aa,Aa⟩,Au ⟨Aa,Aa⟩];rw[A52 hs,bd_ret,Out.on_go,Au ⟨E6 _,by rw[Ap];omega,by rw[Ap];omega⟩];have m:=Nk (An7 60 (Lb s)) (Arz s)
 have a:((Lb s).take 60).length≤60:=by rw[Kb];omega
 have key:=A2o (F:=Jv (Lb s)) (st:=fun t x out i=>(t.u0,t.u1,t.u2,t.w0,t.w1,t.w2,t.regs,x,out,(i:Int))) ((Lb s).take 60) a (fun i t x out hi b c l=>by
   obtain⟨q,_,o,p,r⟩:=Ahs b (x:=x) (s:=ele ((Lb s).take 60) (i:Int)) c;unfold Jv;simp only
   rw[Axu,Ce (by rw[Ap];omega),A7 Aa (by rw[Ap];omega),show Dc (Tgt.mk t.u0 t.u1 t.u2 t.w0 t.w1 t.w2 t.regs) x (ele ((Lb s).take 60) (i:Int))=_ from q,bd_ret,
    Au (Qg (by simp only[B2,Dx,Ew];omega)),Au (Qg (by simp only[B2,Dx,Ew];omega)),Av Aa Aa]
   rfl) (fun t x out=>by
   unfold Jv;simp only
   rw[Axu,Ch (by rw[Ap];omega)]) ((Lb s).take 60) 0 Anc [] [] rfl Aa A1s (by simp only[Ew];omega) Ba
 obtain⟨u,v,e⟩:=key;rw[show lp (Jv (Lb s)) (2,1,1,1,3,2,32,[],[],0)=_ from e,bd_ret,Out.on_go];simp
theorem Al8 {c:UInt8} (b:List UInt8):∀ a:List UInt8,spl c (a++c::b)=spl c a++spl c b
 | []=>by simp[spl]
 | x::r=>by
  have d:=Al8 (c:=c) b r;rw[We];generalize spl c b=B at d ⊢;unfold spl;by_cases h:x=c
  ·rw[Bg h,Bg h,d];rfl
  ·rw[Bb h,Bb h,d]
   cases hs:spl c r with
   | nil=>exact absurd hs (U1 r)
   | cons p q=>rfl
theorem Av2 {A:List (List UInt8)}{z:List UInt8}:ele (A++[z]) (ln (A++[z]) - 1)=z:=by
 rw[Ap,B2,show ((A.length + [z].length:Nat):Int) - 1=(A.length:Int) from Ba,C7,Dy,Alb (Cf _)];simp
theorem A2a (a:List UInt8):Lb (a++[10])=spl 10 a:=by
 have e:spl 10 (a++[10])=spl 10 a++[[]]:=Al8 [] a;unfold Lb;rw[e,Av2,Bg rfl,List.dropLast_concat]
theorem Azy (a b:List UInt8):∃ B,Lb ((a++[10])++b)=spl 10 a++B:=by
 have e:spl 10 ((a++[10])++b)=spl 10 a++spl 10 b:=by rw[Gw,We,Ww];exact Al8 b a
 unfold Lb;rw[e];split
 ·exact⟨(spl 10 b).dropLast,List.dropLast_append_of_ne_nil (U1 b)⟩
 ·exact⟨_,rfl⟩
theorem A0q:(Oh Anc [] [63]).1=[63]:=by
 have h:Dc Anc [] [63]=some ([63],Anc,[]):=by
  unfold Dc Mb;rw[bd_ret,show Og [63] [61,32]=Ay from rfl];simp only;rw[br_false,show (([63]:List UInt8)==[102,114,101,115,104])=Ay from rfl,br_false,Abq _ Ba,bd_ret,show spl 32 [63]=[[63]] from rfl,Au ⟨Ai,Ai,Ai⟩,show sub ([[63]]:List (List UInt8)) 1 (ln ([[63]]:List (List UInt8)))=[] from rfl,Ajh Ba Ba,bd_ret];rw[show Tu []=some [] from rfl];rfl
 unfold Oh;rw[h];rfl
theorem Ana (a b:List UInt8) (l:a.length≤1048576) (h:a.length+b.length+1≤1048576):G8 a b=some true:=by
 have i:(a++[10]).length≤1048576:=by simp only[B2,Dx,Ew];omega
 have j:((a++[10])++b).length≤1048576:=by simp only[B2,Dx,Ew];omega
 have k:Jj [63]=some [63,10]:=by
  rw[Amv Ba,show (Lb [63]).take 60=[[63]] from rfl,Wj,A0q];rfl
 have e:=Amv i;have c:=Amv j;obtain⟨B,f⟩:=Azy a b;rw[A2a] at e;rw[f,List.take_append] at c;obtain⟨z,g⟩:=Aju (B.take (60 - (spl 10 a).length)) ((spl 10 a).take 60) Anc [];rw[g] at c;unfold G8;rw[Au (Qg Aa),e,bd_ret,Au (Qg Aa),c,bd_ret,k,bd_ret];generalize Wj Anc [] ((spl 10 a).take 60)=s
 have d:ln s≤ln (s++z):=by rw[Ap,Ap,B2];omega
 have es:sub (s++z) 0 (ln s)=s:=by unfold Rd.sub;rw[Ap];simp
 rw[Fc (fun _=>⟨E6 _,by rw[Ap];omega,d⟩),es,Lr (show ln (s++z)≥ln s from d)];simp
end Go.Rd
end
section
namespace Go.Proofs.YtaimbkndebaaiaaGreatDoor
open Go.Rd
namespace TLib
end TLib
open TLib
def lren:Go.Shelf.Ren:=⟨fun n=>match n with | 129=>107 | 157=>142 | 171=>50 | 173=>48 | 199=>170 | 229=>169 | 243=>90 | 246=>87 | 261=>180 | 283=>132 | 284=>133 | 285=>134 | 286=>135 | 311=>183 | 312=>184 | 317=>162 | 318=>163 | 319=>164 | 320=>165 | 337=>176 | 338=>177 | n=>n,fun n=>match n with | 31=>22 | 37=>74 | 40=>258 | 46=>131 | 49=>284 | 51=>191 | 53=>193 | 119=>243 | 141=>276 | 152=>272 | 154=>274 | 171=>216 | 173=>218 | 193=>280 | 194=>281 | 196=>283 | 198=>286 | 201=>289 | 212=>250 | 213=>251 | 226=>291 | 227=>292 | 232=>278 | 233=>279 | n=>n,fun n=>match n with | 0=>6 | 6=>7 | 17=>3 | 18=>8 | 19=>9 | n=>n⟩
theorem lay_171:Go.Proofs.LaysM.n171 Tryz.prog lren where
  mixed:=Ag
  f129:=Tryz.func107.trans (congrArg some Ag)
  f171:=Tryz.func50.trans (congrArg some Ag)
  f243:=Tryz.func90.trans (congrArg some Ag)
  f246:=Tryz.func87.trans (congrArg some Ag)
  f283:=Tryz.func132.trans (congrArg some Ag)
  f284:=Tryz.func133.trans (congrArg some Ag)
  f285:=Tryz.func134.trans (congrArg some Ag)
  f286:=Tryz.func135.trans (congrArg some Ag)
  f317:=Tryz.func162.trans (congrArg some Ag)
  f318:=Tryz.func163.trans (congrArg some Ag)
  f319:=Tryz.func164.trans (congrArg some Ag)
  f320:=Tryz.func165.trans (congrArg some Ag)
  f337:=Tryz.func176.trans (congrArg some Ag)
  f338:=Tryz.func177.trans (congrArg some Ag)
  t0:=Tryz.underlying0
  a0:=Tryz.isAgg0
  z0:=Tryz.sizeOf0
  v0:=Tryz.zeroValue0
  t2:=Tryz.underlying2
  a2:=Tryz.isAgg2
  z2:=Tryz.sizeOf2
  v2:=Tryz.zeroValue2
  t3:=Tryz.underlying3
  a3:=Tryz.isAgg3
  z3:=Tryz.sizeOf3
  v3:=Tryz.zeroValue3
  t4:=Tryz.underlying4
  a4:=Tryz.isAgg4
  z4:=Tryz.sizeOf4
  v4:=Tryz.zeroValue4
  t5:=Tryz.underlying5
  a5:=Tryz.isAgg5
  z5:=Tryz.sizeOf5
  v5:=Tryz.zeroValue5
  t9:=Tryz.underlying9
  a9:=Tryz.isAgg9
  z9:=Tryz.sizeOf9
  v9:=Tryz.zeroValue9
  t20:=Tryz.underlying20
  a20:=Tryz.isAgg20
  z20:=Tryz.sizeOf20
  v20:=Tryz.zeroValue20
  t37:=Tryz.underlying74
  a37:=Tryz.isAgg74
  z37:=Tryz.sizeOf74
  v37:=Tryz.zeroValue74
  t46:=Tryz.underlying131
  a46:=Tryz.isAgg131
  z46:=Tryz.sizeOf131
  v46:=Tryz.zeroValue131
  t51:=Tryz.underlying191
  a51:=Tryz.isAgg191
  z51:=Tryz.sizeOf191
  v51:=Tryz.zeroValue191
  t53:=Tryz.underlying193
  a53:=Tryz.isAgg193
  z53:=Tryz.sizeOf193
  v53:=Tryz.zeroValue193
  t171:=Tryz.underlying216
  a171:=Tryz.isAgg216
  z171:=Tryz.sizeOf216
  v171:=Tryz.zeroValue216
  t173:=Tryz.underlying218
  a173:=Tryz.isAgg218
  z173:=Tryz.sizeOf218
  v173:=Tryz.zeroValue218
  t212:=Tryz.underlying250
  a212:=Tryz.isAgg250
  z212:=Tryz.sizeOf250
  v212:=Tryz.zeroValue250
  t213:=Tryz.underlying251
  a213:=Tryz.isAgg251
  z213:=Tryz.sizeOf251
  t232:=Tryz.underlying278
  a232:=Tryz.isAgg278
  z232:=Tryz.sizeOf278
  v232:=Tryz.zeroValue278
  t233:=Tryz.underlying279
  a233:=Tryz.isAgg279
  z233:=Tryz.sizeOf279
  v233:=Tryz.zeroValue279
  g17:=Ag
  g18:=Ag
  g19:=Ag
  i0:=Ag
  i2:=Ag
  i3:=Ag
  i4:=Ag
  i5:=Ag
  i9:=Ag
  i20:=Ag
  i37:=Ag
  i46:=Ag
  i51:=Ag
  i53:=Ag
  i171:=Ag
  i173:=Ag
  i212:=Ag
  i232:=Ag
  i233:=Ag
  m17:=Ag
  m18:=Ag
  m19:=Ag
theorem A2f:Go.Proofs.LaysM.n173 Tryz.prog lren where
  mixed:=Ag
  f129:=lay_171.f129
  f173:=Tryz.func48.trans (congrArg some Ag)
  f246:=lay_171.f246
  f283:=lay_171.f283
  f284:=lay_171.f284
  f285:=lay_171.f285
  f286:=lay_171.f286
  f317:=lay_171.f317
  f318:=lay_171.f318
  f319:=lay_171.f319
  f320:=lay_171.f320
  f337:=lay_171.f337
  f338:=lay_171.f338
  t0:=Tryz.underlying0
  a0:=Tryz.isAgg0
  z0:=Tryz.sizeOf0
  v0:=Tryz.zeroValue0
  t2:=Tryz.underlying2
  a2:=Tryz.isAgg2
  z2:=Tryz.sizeOf2
  v2:=Tryz.zeroValue2
  t3:=Tryz.underlying3
  a3:=Tryz.isAgg3
  z3:=Tryz.sizeOf3
  v3:=Tryz.zeroValue3
  t4:=Tryz.underlying4
  a4:=Tryz.isAgg4
  z4:=Tryz.sizeOf4
  v4:=Tryz.zeroValue4
  t5:=Tryz.underlying5
  a5:=Tryz.isAgg5
  z5:=Tryz.sizeOf5
  v5:=Tryz.zeroValue5
  t9:=Tryz.underlying9
  a9:=Tryz.isAgg9
  z9:=Tryz.sizeOf9
  v9:=Tryz.zeroValue9
  t20:=Tryz.underlying20
  a20:=Tryz.isAgg20
  z20:=Tryz.sizeOf20
  v20:=Tryz.zeroValue20
  t37:=Tryz.underlying74
  a37:=Tryz.isAgg74
  z37:=Tryz.sizeOf74
  v37:=Tryz.zeroValue74
  t46:=Tryz.underlying131
  a46:=Tryz.isAgg131
  z46:=Tryz.sizeOf131
  v46:=Tryz.zeroValue131
  t51:=Tryz.underlying191
  a51:=Tryz.isAgg191
  z51:=Tryz.sizeOf191
  v51:=Tryz.zeroValue191
  t53:=Tryz.underlying193
  a53:=Tryz.isAgg193
  z53:=Tryz.sizeOf193
  v53:=Tryz.zeroValue193
  t171:=Tryz.underlying216
  a171:=Tryz.isAgg216
  z171:=Tryz.sizeOf216
  v171:=Tryz.zeroValue216
  t173:=Tryz.underlying218
  a173:=Tryz.isAgg218
  z173:=Tryz.sizeOf218
  v173:=Tryz.zeroValue218
  t212:=Tryz.underlying250
  a212:=Tryz.isAgg250
  z212:=Tryz.sizeOf250
  v212:=Tryz.zeroValue250
  t213:=Tryz.underlying251
  a213:=Tryz.isAgg251
  z213:=Tryz.sizeOf251
  t232:=Tryz.underlying278
  a232:=Tryz.isAgg278
  z232:=Tryz.sizeOf278
  v232:=Tryz.zeroValue278
  t233:=Tryz.underlying279
  a233:=Tryz.isAgg279
  z233:=Tryz.sizeOf279
  v233:=Tryz.zeroValue279
  g17:=Ag
  g18:=Ag
  g19:=Ag
  i0:=Ag
  i2:=Ag
  i3:=Ag
  i4:=Ag
  i5:=Ag
  i9:=Ag
  i20:=Ag
  i37:=Ag
  i46:=Ag
  i51:=Ag
  i53:=Ag
  i171:=Ag
  i173:=Ag
  i212:=Ag
  i232:=Ag
  i233:=Ag
  m17:=Ag
  m18:=Ag
  m19:=Ag
theorem A2g:Go.Proofs.Lays.n157 Tryz.prog lren where
  mixed:=Ag
  f157:=Tryz.func142.trans (congrArg some Ag)
  f199:=Tryz.func170.trans (congrArg some Ag)
  f229:=Tryz.func169.trans (congrArg some Ag)
  f261:=Tryz.func180.trans (congrArg some Ag)
  f311:=Tryz.func183.trans (congrArg some Ag)
  f312:=Tryz.func184.trans (congrArg some Ag)
  t0:=Tryz.underlying0
  a0:=Tryz.isAgg0
  z0:=Tryz.sizeOf0
  v0:=Tryz.zeroValue0
  t3:=Tryz.underlying3
  a3:=Tryz.isAgg3
  z3:=Tryz.sizeOf3
  v3:=Tryz.zeroValue3
  t4:=Tryz.underlying4
  a4:=Tryz.isAgg4
  z4:=Tryz.sizeOf4
  v4:=Tryz.zeroValue4
  t5:=Tryz.underlying5
  a5:=Tryz.isAgg5
  z5:=Tryz.sizeOf5
  v5:=Tryz.zeroValue5
  t9:=Tryz.underlying9
  a9:=Tryz.isAgg9
  z9:=Tryz.sizeOf9
  v9:=Tryz.zeroValue9
  t21:=Tryz.underlying21
  a21:=Tryz.isAgg21
  z21:=Tryz.sizeOf21
  v21:=Tryz.zeroValue21
  t31:=Tryz.underlying22
  a31:=Tryz.isAgg22
  z31:=Tryz.sizeOf22
  v31:=Tryz.zeroValue22
  t40:=Tryz.underlying258
  a40:=Tryz.isAgg258
  z40:=Tryz.sizeOf258
  v40:=Tryz.zeroValue258
  t46:=Tryz.underlying131
  a46:=Tryz.isAgg131
  z46:=Tryz.sizeOf131
  v46:=Tryz.zeroValue131
  t49:=Tryz.underlying284
  a49:=Tryz.isAgg284
  z49:=Tryz.sizeOf284
  v49:=Tryz.zeroValue284
  t51:=Tryz.underlying191
  a51:=Tryz.isAgg191
  z51:=Tryz.sizeOf191
  v51:=Tryz.zeroValue191
  t119:=Tryz.underlying243
  a119:=Tryz.isAgg243
  z119:=Tryz.sizeOf243
  t141:=Tryz.underlying276
  a141:=Tryz.isAgg276
  z141:=Tryz.sizeOf276
  v141:=Tryz.zeroValue276
  t152:=Tryz.underlying272
  a152:=Tryz.isAgg272
  z152:=Tryz.sizeOf272
  v152:=Tryz.zeroValue272
  t154:=Tryz.underlying274
  a154:=Tryz.isAgg274
  z154:=Tryz.sizeOf274
  v154:=Tryz.zeroValue274
  t193:=Tryz.underlying280
  a193:=Tryz.isAgg280
  z193:=Tryz.sizeOf280
  v193:=Tryz.zeroValue280
  t194:=Tryz.underlying281
  a194:=Tryz.isAgg281
  z194:=Tryz.sizeOf281
  v194:=Tryz.zeroValue281
  t196:=Tryz.underlying283
  a196:=Tryz.isAgg283
  z196:=Tryz.sizeOf283
  v196:=Tryz.zeroValue283
  t198:=Tryz.underlying286
  a198:=Tryz.isAgg286
  z198:=Tryz.sizeOf286
  v198:=Tryz.zeroValue286
  t201:=Tryz.underlying289
  a201:=Tryz.isAgg289
  z201:=Tryz.sizeOf289
  v201:=Tryz.zeroValue289
  t226:=Tryz.underlying291
  a226:=Tryz.isAgg291
  z226:=Tryz.sizeOf291
  v226:=Tryz.zeroValue291
  t227:=Tryz.underlying292
  a227:=Tryz.isAgg292
  z227:=Tryz.sizeOf292
  v227:=Tryz.zeroValue292
  g0:=Ag
  g6:=Ag
theorem A6d {n:Int}{r:List UInt8} (w:Aj) (b:Ago n=some r) (a:Glb Tryz.prog w):Calls Tryz.prog 50 #[.int .i64 n] w (fun e w'=>e=.returned (Cs r)∧Grow w w'):=Az5 lay_171 w b a
theorem Yc {n b:Int}{r:List UInt8} (w:Aj) (c:Ma n b=some r) (a:Glb Tryz.prog w):Calls Tryz.prog 48 #[.int .i64 n,.int .i64 b] w (fun e w'=>e=.returned (Cs r)∧Grow w w'):=Ar5 A2f w c a
theorem A0v {s:List UInt8}{r:List (List UInt8)}{a:Aj} (d:Ab5 s=some r) (M:Nat→Prop) (w:Aj) (b:GlbM Tryz.prog M w) (c:Base M a w) (f:Own M w [] w):Calls Tryz.prog 142 #[Cs s] w (fun e w'=>∃ X:Ak×Aj,e=.returned (X.1)∧Own M w (kn M w.heap.size a X.2::[]) w'∧Arr X.2 X.1 1 (r.map Wi)):=Ar7 A2g Ag Ag d M w b c f
end Go.Proofs.YtaimbkndebaaiaaGreatDoor
end
section
namespace Go.Proofs.YtaimbkndebaaiaaGreatDoor
open Go.Rd
open TLib
namespace TLibR
end TLibR
open TLibR
def Ant:Go.Shelf.Ren:=⟨fun n=>match n with | 101=>91 | 103=>21 | 129=>107 | 138=>45 | 143=>46 | 146=>12 | 171=>50 | 174=>143 | 195=>82 | 197=>83 | 205=>168 | 206=>86 | 208=>141 | 210=>47 | 217=>128 | 218=>84 | 219=>85 | 220=>171 | 221=>20 | 224=>130 | 225=>129 | 243=>90 | 245=>89 | 246=>87 | 247=>136 | 260=>127 | 266=>160 | 267=>131 | 268=>44 | 279=>137 | 280=>138 | 281=>139 | 282=>140 | 283=>132 | 284=>133 | 285=>134 | 286=>135 | 287=>166 | 314=>161 | 316=>167 | 317=>162 | 318=>163 | 319=>164 | 320=>165 | 321=>178 | 322=>179 | 337=>176 | 338=>177 | n=>n,fun n=>match n with | 24=>67 | 31=>22 | 37=>74 | 46=>131 | 51=>191 | 53=>193 | 59=>227 | 75=>118 | 80=>293 | 85=>221 | 105=>166 | 119=>243 | 127=>268 | 138=>245 | 139=>246 | 143=>269 | 145=>271 | 146=>247 | 167=>220 | 168=>223 | 171=>216 | 173=>218 | 175=>252 | 210=>255 | 212=>250 | 213=>251 | 232=>278 | 233=>279 | n=>n,fun n=>match n with | 1=>0 | 3=>1 | 4=>2 | 15=>4 | 16=>5 | 17=>3 | 18=>8 | 19=>9 | n=>n⟩
theorem rlay_146:Go.Proofs.Lays.n146 Tryz.prog Ant where
  mixed:=Ag
  f138:=Tryz.func45.trans (congrArg some Ag)
  f143:=Tryz.func46.trans (congrArg some Ag)
  f146:=Tryz.func12.trans (congrArg some Ag)
  f195:=Tryz.func82.trans (congrArg some Ag)
  f197:=Tryz.func83.trans (congrArg some Ag)
  f217:=Tryz.func128.trans (congrArg some Ag)
  f218:=Tryz.func84.trans (congrArg some Ag)
  f219:=Tryz.func85.trans (congrArg some Ag)
  f221:=Tryz.func20.trans (congrArg some Ag)
  f224:=Tryz.func130.trans (congrArg some Ag)
  f225:=Tryz.func129.trans (congrArg some Ag)
  f260:=Tryz.func127.trans (congrArg some Ag)
  f266:=Tryz.func160.trans (congrArg some Ag)
  f267:=Tryz.func131.trans (congrArg some Ag)
  f268:=Tryz.func44.trans (congrArg some Ag)
  f314:=Tryz.func161.trans (congrArg some Ag)
  t0:=Tryz.underlying0
  a0:=Tryz.isAgg0
  z0:=Tryz.sizeOf0
  v0:=Tryz.zeroValue0
  t3:=Tryz.underlying3
  a3:=Tryz.isAgg3
  z3:=Tryz.sizeOf3
  v3:=Tryz.zeroValue3
  t4:=Tryz.underlying4
  a4:=Tryz.isAgg4
  z4:=Tryz.sizeOf4
  v4:=Tryz.zeroValue4
  t5:=Tryz.underlying5
  a5:=Tryz.isAgg5
  z5:=Tryz.sizeOf5
  v5:=Tryz.zeroValue5
  t9:=Tryz.underlying9
  a9:=Tryz.isAgg9
  z9:=Tryz.sizeOf9
  v9:=Tryz.zeroValue9
  t21:=Tryz.underlying21
  a21:=Tryz.isAgg21
  z21:=Tryz.sizeOf21
  v21:=Tryz.zeroValue21
  t31:=Tryz.underlying22
  a31:=Tryz.isAgg22
  z31:=Tryz.sizeOf22
  v31:=Tryz.zeroValue22
  t46:=Tryz.underlying131
  a46:=Tryz.isAgg131
  z46:=Tryz.sizeOf131
  v46:=Tryz.zeroValue131
  t51:=Tryz.underlying191
  a51:=Tryz.isAgg191
  z51:=Tryz.sizeOf191
  v51:=Tryz.zeroValue191
  t105:=Tryz.underlying166
  a105:=Tryz.isAgg166
  z105:=Tryz.sizeOf166
  v105:=Tryz.zeroValue166
  t119:=Tryz.underlying243
  a119:=Tryz.isAgg243
  z119:=Tryz.sizeOf243
  t138:=Tryz.underlying245
  a138:=Tryz.isAgg245
  z138:=Tryz.sizeOf245
  v138:=Tryz.zeroValue245
  t139:=Tryz.underlying246
  a139:=Tryz.isAgg246
  z139:=Tryz.sizeOf246
  v139:=Tryz.zeroValue246
  t146:=Tryz.underlying247
  a146:=Tryz.isAgg247
  z146:=Tryz.sizeOf247
  v146:=Tryz.zeroValue247
  g1:=Ag
  g3:=Ag
  g4:=Ag
theorem Aze:Go.Proofs.Lays.n145 Tryz.prog Ant where
  mixed:=Ag
  f145:=Tryz.func145.trans (congrArg some Ag)
  f217:=rlay_146.f217
  f219:=rlay_146.f219
  f220:=Tryz.func171.trans (congrArg some Ag)
  f224:=rlay_146.f224
  f225:=rlay_146.f225
  f266:=rlay_146.f266
  f267:=rlay_146.f267
  f314:=rlay_146.f314
  t3:=Tryz.underlying3
  a3:=Tryz.isAgg3
  z3:=Tryz.sizeOf3
  v3:=Tryz.zeroValue3
  t4:=Tryz.underlying4
  a4:=Tryz.isAgg4
  z4:=Tryz.sizeOf4
  v4:=Tryz.zeroValue4
  t5:=Tryz.underlying5
  a5:=Tryz.isAgg5
  z5:=Tryz.sizeOf5
  v5:=Tryz.zeroValue5
  t9:=Tryz.underlying9
  a9:=Tryz.isAgg9
  z9:=Tryz.sizeOf9
  v9:=Tryz.zeroValue9
  t46:=Tryz.underlying131
  a46:=Tryz.isAgg131
  z46:=Tryz.sizeOf131
  v46:=Tryz.zeroValue131
  t51:=Tryz.underlying191
  a51:=Tryz.isAgg191
  z51:=Tryz.sizeOf191
  v51:=Tryz.zeroValue191
  t59:=Tryz.underlying227
  a59:=Tryz.isAgg227
  z59:=Tryz.sizeOf227
  v59:=Tryz.zeroValue227
  t146:=Tryz.underlying247
  a146:=Tryz.isAgg247
  z146:=Tryz.sizeOf247
  v146:=Tryz.zeroValue247
  g1:=Ag
theorem rlay_101:Go.Proofs.Lays.n101 Tryz.prog Ant where
  mixed:=Ag
  f101:=Tryz.func91.trans (congrArg some Ag)
  f206:=Tryz.func86.trans (congrArg some Ag)
  f208:=Tryz.func141.trans (congrArg some Ag)
  t3:=Tryz.underlying3
  a3:=Tryz.isAgg3
  z3:=Tryz.sizeOf3
  v3:=Tryz.zeroValue3
  t4:=Tryz.underlying4
  a4:=Tryz.isAgg4
  z4:=Tryz.sizeOf4
  v4:=Tryz.zeroValue4
  t9:=Tryz.underlying9
  a9:=Tryz.isAgg9
  z9:=Tryz.sizeOf9
  v9:=Tryz.zeroValue9
theorem Azf:Go.Proofs.Lays.n103 Tryz.prog Ant where
  mixed:=Ag
  f103:=Tryz.func21.trans (congrArg some Ag)
  f206:=rlay_101.f206
  f210:=Tryz.func47.trans (congrArg some Ag)
  t3:=Tryz.underlying3
  a3:=Tryz.isAgg3
  z3:=Tryz.sizeOf3
  v3:=Tryz.zeroValue3
  t4:=Tryz.underlying4
  a4:=Tryz.isAgg4
  z4:=Tryz.sizeOf4
  v4:=Tryz.zeroValue4
  t9:=Tryz.underlying9
  a9:=Tryz.isAgg9
  z9:=Tryz.sizeOf9
  v9:=Tryz.zeroValue9
  t24:=Tryz.underlying67
  a24:=Tryz.isAgg67
  z24:=Tryz.sizeOf67
  v24:=Tryz.zeroValue67
theorem Azd:Go.Proofs.LaysC.n174 Tryz.prog Ant where
  mixed:=Ag
  f129:=Tryz.func107.trans (congrArg some Ag)
  f171:=Tryz.func50.trans (congrArg some Ag)
  f174:=Tryz.func143.trans (congrArg some Ag)
  f205:=Tryz.func168.trans (congrArg some Ag)
  f243:=Tryz.func90.trans (congrArg some Ag)
  f245:=Tryz.func89.trans (congrArg some Ag)
  f246:=Tryz.func87.trans (congrArg some Ag)
  f247:=Tryz.func136.trans (congrArg some Ag)
  f279:=Tryz.func137.trans (congrArg some Ag)
  f280:=Tryz.func138.trans (congrArg some Ag)
  f281:=Tryz.func139.trans (congrArg some Ag)
  f282:=Tryz.func140.trans (congrArg some Ag)
  f283:=Tryz.func132.trans (congrArg some Ag)
  f284:=Tryz.func133.trans (congrArg some Ag)
  f285:=Tryz.func134.trans (congrArg some Ag)
  f286:=Tryz.func135.trans (congrArg some Ag)
  f287:=Tryz.func166.trans (congrArg some Ag)
  f316:=Tryz.func167.trans (congrArg some Ag)
  f317:=Tryz.func162.trans (congrArg some Ag)
  f318:=Tryz.func163.trans (congrArg some Ag)
  f319:=Tryz.func164.trans (congrArg some Ag)
  f320:=Tryz.func165.trans (congrArg some Ag)
  f321:=Tryz.func178.trans (congrArg some Ag)
  f322:=Tryz.func179.trans (congrArg some Ag)
  f337:=Tryz.func176.trans (congrArg some Ag)
  f338:=Tryz.func177.trans (congrArg some Ag)
  t0:=Tryz.underlying0
  a0:=Tryz.isAgg0
  z0:=Tryz.sizeOf0
  v0:=Tryz.zeroValue0
  t2:=Tryz.underlying2
  a2:=Tryz.isAgg2
  z2:=Tryz.sizeOf2
  v2:=Tryz.zeroValue2
  t3:=Tryz.underlying3
  a3:=Tryz.isAgg3
  z3:=Tryz.sizeOf3
  v3:=Tryz.zeroValue3
  t4:=Tryz.underlying4
  a4:=Tryz.isAgg4
  z4:=Tryz.sizeOf4
  v4:=Tryz.zeroValue4
  t5:=Tryz.underlying5
  a5:=Tryz.isAgg5
  z5:=Tryz.sizeOf5
  v5:=Tryz.zeroValue5
  t9:=Tryz.underlying9
  a9:=Tryz.isAgg9
  z9:=Tryz.sizeOf9
  v9:=Tryz.zeroValue9
  t20:=Tryz.underlying20
  a20:=Tryz.isAgg20
  z20:=Tryz.sizeOf20
  v20:=Tryz.zeroValue20
  t21:=Tryz.underlying21
  a21:=Tryz.isAgg21
  z21:=Tryz.sizeOf21
  v21:=Tryz.zeroValue21
  t37:=Tryz.underlying74
  a37:=Tryz.isAgg74
  z37:=Tryz.sizeOf74
  v37:=Tryz.zeroValue74
  t46:=Tryz.underlying131
  a46:=Tryz.isAgg131
  z46:=Tryz.sizeOf131
  v46:=Tryz.zeroValue131
  t51:=Tryz.underlying191
  a51:=Tryz.isAgg191
  z51:=Tryz.sizeOf191
  v51:=Tryz.zeroValue191
  t53:=Tryz.underlying193
  a53:=Tryz.isAgg193
  z53:=Tryz.sizeOf193
  v53:=Tryz.zeroValue193
  t75:=Tryz.underlying118
  a75:=Tryz.isAgg118
  z75:=Tryz.sizeOf118
  v75:=Tryz.zeroValue118
  t85:=Tryz.underlying221
  a85:=Tryz.isAgg221
  z85:=Tryz.sizeOf221
  v85:=Tryz.zeroValue221
  t127:=Tryz.underlying268
  a127:=Tryz.isAgg268
  z127:=Tryz.sizeOf268
  v127:=Tryz.zeroValue268
  t143:=Tryz.underlying269
  a143:=Tryz.isAgg269
  z143:=Tryz.sizeOf269
  v143:=Tryz.zeroValue269
  t145:=Tryz.underlying271
  a145:=Tryz.isAgg271
  z145:=Tryz.sizeOf271
  v145:=Tryz.zeroValue271
  t167:=Tryz.underlying220
  a167:=Tryz.isAgg220
  z167:=Tryz.sizeOf220
  v167:=Tryz.zeroValue220
  t168:=Tryz.underlying223
  a168:=Tryz.isAgg223
  z168:=Tryz.sizeOf223
  v168:=Tryz.zeroValue223
  t171:=Tryz.underlying216
  a171:=Tryz.isAgg216
  z171:=Tryz.sizeOf216
  v171:=Tryz.zeroValue216
  t173:=Tryz.underlying218
  a173:=Tryz.isAgg218
  z173:=Tryz.sizeOf218
  v173:=Tryz.zeroValue218
  t175:=Tryz.underlying252
  a175:=Tryz.isAgg252
  z175:=Tryz.sizeOf252
  v175:=Tryz.zeroValue252
  t210:=Tryz.underlying255
  a210:=Tryz.isAgg255
  z210:=Tryz.sizeOf255
  v210:=Tryz.zeroValue255
  t212:=Tryz.underlying250
  a212:=Tryz.isAgg250
  z212:=Tryz.sizeOf250
  v212:=Tryz.zeroValue250
  t213:=Tryz.underlying251
  a213:=Tryz.isAgg251
  z213:=Tryz.sizeOf251
  t232:=Tryz.underlying278
  a232:=Tryz.isAgg278
  z232:=Tryz.sizeOf278
  v232:=Tryz.zeroValue278
  t233:=Tryz.underlying279
  a233:=Tryz.isAgg279
  z233:=Tryz.sizeOf279
  v233:=Tryz.zeroValue279
  g15:=Ag
  g16:=Ag
  g17:=Ag
  g18:=Ag
  g19:=Ag
  t80:=Tryz.underlying293
  a80:=Tryz.isAgg293
  z80:=Tryz.sizeOf293
  v80:=Tryz.zeroValue293
  i0:=Ag
  i2:=Ag
  i3:=Ag
  i4:=Ag
  i5:=Ag
  i9:=Ag
  i20:=Ag
  i21:=Ag
  i37:=Ag
  i46:=Ag
  i51:=Ag
  i53:=Ag
  i75:=Ag
  i80:=Ag
  i85:=Ag
  i127:=Ag
  i143:=Ag
  i145:=Ag
  i167:=Ag
  i168:=Ag
  i171:=Ag
  i173:=Ag
  i175:=Ag
  i210:=Ag
  i212:=Ag
  i232:=Ag
  i233:=Ag
  m15:=Ag
  m16:=Ag
  m17:=Ag
  m18:=Ag
  m19:=Ag
  c0:=Ag
  c2:=Ag
  c3:=Ag
  c4:=Ag
  c5:=Ag
  c9:=Ag
  c20:=Ag
  c21:=Ag
  c37:=Ag
  c46:=Ag
  c51:=Ag
  c53:=Ag
  c75:=Ag
  c80:=Ag
  c85:=Ag
  c127:=Ag
  c143:=Ag
  c145:=Ag
  c167:=Ag
  c168:=Ag
  c171:=Ag
  c173:=Ag
  c175:=Ag
  c210:=Ag
  c212:=Ag
  c213:=Ag
  c232:=Ag
  c233:=Ag
theorem Afa {s b:List UInt8}{r:List (List UInt8)}{a:Aj} (f:Sx s b=some r) (M:Nat→Prop) (w:Aj) (c:GlbM Tryz.prog M w) (d:Base M a w) (g:Own M w [] w):Calls Tryz.prog 12 #[Cs s,Cs b] w (fun e w'=>∃ X:Ak×Aj,e=.returned (X.1)∧Own M w (kn M w.heap.size a X.2::[]) w'∧Arr X.2 X.1 1 (r.map Wi)):=Au5 rlay_146 Ag Ag f M w c d g
theorem Cut_w {s a:List UInt8}{r:List UInt8×List UInt8×Bool} (w:Aj) (c:As5 s a=some r) (b:Glb Tryz.prog w):Calls Tryz.prog 145 #[Cs s,Cs a] w (fun e w'=>e=.returned (.tuple #[Cs r.1,Cs r.2.1,.bool r.2.2])∧Grow w w'):=A22 Aze Ag w c b
theorem V7 {s p r:List UInt8} (w:Aj) (a:Jl s p=some r):Calls Tryz.prog 91 #[Cs s,Cs p] w (fun e w'=>e=.returned (Cs r)∧Grow w w'):=Ayy rlay_101 w a
theorem Aer {s p:List UInt8}{r:List UInt8×Bool} (w:Aj) (a:Mb s p=some r):Calls Tryz.prog 21 #[Cs s,Cs p] w (fun e w'=>e=.returned (.tuple #[Cs r.1,.bool r.2])∧Grow w w'):=A0d Azf w a
theorem Asl {s:List UInt8}{b z:Int}{r:Int×Bool}{a:Aj} (f:Vz s b z=some r) (M:Nat→Prop) (w:Aj) (c:GlbM Tryz.prog M w) (d:Base M a w) (g:Own M w [] w):Calls Tryz.prog 143 #[Cs s,.int .i64 b,.int .i64 z] w (fun e w'=>∃ X:Ak×Aj,e=.returned (.tuple #[.int .i64 r.1,X.1])∧Own M w (kn M w.heap.size a X.2::[]) w'∧Aqe X.1 r.2):=Am4 Azd f M w c d g
end Go.Proofs.YtaimbkndebaaiaaGreatDoor
end
section
namespace Go.Proofs.YtaimbkndebaaiaaGreatDoor
open Go.Rd
open TLib TLibR
namespace TLibA
end TLibA
open TLibA
def alren:Go.Shelf.Ren:=⟨fun n=>match n with | 129=>107 | 171=>50 | 172=>49 | 205=>168 | 243=>90 | 244=>88 | 245=>89 | 246=>87 | 247=>136 | 279=>137 | 280=>138 | 281=>139 | 282=>140 | 283=>132 | 284=>133 | 285=>134 | 286=>135 | 287=>166 | 316=>167 | 317=>162 | 318=>163 | 319=>164 | 320=>165 | 321=>178 | 322=>179 | 337=>176 | 338=>177 | n=>n,fun n=>match n with | 37=>74 | 46=>131 | 51=>191 | 53=>193 | 75=>118 | 76=>119 | 80=>293 | 85=>221 | 127=>268 | 143=>269 | 145=>271 | 167=>220 | 168=>223 | 171=>216 | 173=>218 | 175=>252 | 210=>255 | 212=>250 | 213=>251 | 232=>278 | 233=>279 | n=>n,fun n=>match n with | 15=>4 | 16=>5 | 17=>3 | 18=>8 | 19=>9 | n=>n⟩
theorem A0r:Go.Proofs.LaysC.n172 Tryz.prog alren where
  mixed:=Ag
  f129:=Tryz.func107.trans (congrArg some Ag)
  f171:=Tryz.func50.trans (congrArg some Ag)
  f172:=Tryz.func49.trans (congrArg some Ag)
  f205:=Tryz.func168.trans (congrArg some Ag)
  f243:=Tryz.func90.trans (congrArg some Ag)
  f244:=Tryz.func88.trans (congrArg some Ag)
  f245:=Tryz.func89.trans (congrArg some Ag)
  f246:=Tryz.func87.trans (congrArg some Ag)
  f247:=Tryz.func136.trans (congrArg some Ag)
  f279:=Tryz.func137.trans (congrArg some Ag)
  f280:=Tryz.func138.trans (congrArg some Ag)
  f281:=Tryz.func139.trans (congrArg some Ag)
  f282:=Tryz.func140.trans (congrArg some Ag)
  f283:=Tryz.func132.trans (congrArg some Ag)
  f284:=Tryz.func133.trans (congrArg some Ag)
  f285:=Tryz.func134.trans (congrArg some Ag)
  f286:=Tryz.func135.trans (congrArg some Ag)
  f287:=Tryz.func166.trans (congrArg some Ag)
  f316:=Tryz.func167.trans (congrArg some Ag)
  f317:=Tryz.func162.trans (congrArg some Ag)
  f318:=Tryz.func163.trans (congrArg some Ag)
  f319:=Tryz.func164.trans (congrArg some Ag)
  f320:=Tryz.func165.trans (congrArg some Ag)
  f321:=Tryz.func178.trans (congrArg some Ag)
  f322:=Tryz.func179.trans (congrArg some Ag)
  f337:=Tryz.func176.trans (congrArg some Ag)
  f338:=Tryz.func177.trans (congrArg some Ag)
  t0:=Tryz.underlying0
  a0:=Tryz.isAgg0
  z0:=Tryz.sizeOf0
  v0:=Tryz.zeroValue0
  t2:=Tryz.underlying2
  a2:=Tryz.isAgg2
  z2:=Tryz.sizeOf2
  v2:=Tryz.zeroValue2
  t3:=Tryz.underlying3
  a3:=Tryz.isAgg3
  z3:=Tryz.sizeOf3
  v3:=Tryz.zeroValue3
  t4:=Tryz.underlying4
  a4:=Tryz.isAgg4
  z4:=Tryz.sizeOf4
  v4:=Tryz.zeroValue4
  t5:=Tryz.underlying5
  a5:=Tryz.isAgg5
  z5:=Tryz.sizeOf5
  v5:=Tryz.zeroValue5
  t9:=Tryz.underlying9
  a9:=Tryz.isAgg9
  z9:=Tryz.sizeOf9
  v9:=Tryz.zeroValue9
  t20:=Tryz.underlying20
  a20:=Tryz.isAgg20
  z20:=Tryz.sizeOf20
  v20:=Tryz.zeroValue20
  t21:=Tryz.underlying21
  a21:=Tryz.isAgg21
  z21:=Tryz.sizeOf21
  v21:=Tryz.zeroValue21
  t37:=Tryz.underlying74
  a37:=Tryz.isAgg74
  z37:=Tryz.sizeOf74
  v37:=Tryz.zeroValue74
  t46:=Tryz.underlying131
  a46:=Tryz.isAgg131
  z46:=Tryz.sizeOf131
  v46:=Tryz.zeroValue131
  t51:=Tryz.underlying191
  a51:=Tryz.isAgg191
  z51:=Tryz.sizeOf191
  v51:=Tryz.zeroValue191
  t53:=Tryz.underlying193
  a53:=Tryz.isAgg193
  z53:=Tryz.sizeOf193
  v53:=Tryz.zeroValue193
  t75:=Tryz.underlying118
  a75:=Tryz.isAgg118
  z75:=Tryz.sizeOf118
  v75:=Tryz.zeroValue118
  t76:=Tryz.underlying119
  a76:=Tryz.isAgg119
  z76:=Tryz.sizeOf119
  v76:=Tryz.zeroValue119
  t85:=Tryz.underlying221
  a85:=Tryz.isAgg221
  z85:=Tryz.sizeOf221
  v85:=Tryz.zeroValue221
  t127:=Tryz.underlying268
  a127:=Tryz.isAgg268
  z127:=Tryz.sizeOf268
  v127:=Tryz.zeroValue268
  t143:=Tryz.underlying269
  a143:=Tryz.isAgg269
  z143:=Tryz.sizeOf269
  v143:=Tryz.zeroValue269
  t145:=Tryz.underlying271
  a145:=Tryz.isAgg271
  z145:=Tryz.sizeOf271
  v145:=Tryz.zeroValue271
  t167:=Tryz.underlying220
  a167:=Tryz.isAgg220
  z167:=Tryz.sizeOf220
  v167:=Tryz.zeroValue220
  t168:=Tryz.underlying223
  a168:=Tryz.isAgg223
  z168:=Tryz.sizeOf223
  v168:=Tryz.zeroValue223
  t171:=Tryz.underlying216
  a171:=Tryz.isAgg216
  z171:=Tryz.sizeOf216
  v171:=Tryz.zeroValue216
  t173:=Tryz.underlying218
  a173:=Tryz.isAgg218
  z173:=Tryz.sizeOf218
  v173:=Tryz.zeroValue218
  t175:=Tryz.underlying252
  a175:=Tryz.isAgg252
  z175:=Tryz.sizeOf252
  v175:=Tryz.zeroValue252
  t210:=Tryz.underlying255
  a210:=Tryz.isAgg255
  z210:=Tryz.sizeOf255
  v210:=Tryz.zeroValue255
  t212:=Tryz.underlying250
  a212:=Tryz.isAgg250
  z212:=Tryz.sizeOf250
  v212:=Tryz.zeroValue250
  t213:=Tryz.underlying251
  a213:=Tryz.isAgg251
  z213:=Tryz.sizeOf251
  t232:=Tryz.underlying278
  a232:=Tryz.isAgg278
  z232:=Tryz.sizeOf278
  v232:=Tryz.zeroValue278
  t233:=Tryz.underlying279
  a233:=Tryz.isAgg279
  z233:=Tryz.sizeOf279
  v233:=Tryz.zeroValue279
  g15:=Ag
  g16:=Ag
  g17:=Ag
  g18:=Ag
  g19:=Ag
  t80:=Tryz.underlying293
  a80:=Tryz.isAgg293
  z80:=Tryz.sizeOf293
  v80:=Tryz.zeroValue293
  i0:=Ag
  i2:=Ag
  i3:=Ag
  i4:=Ag
  i5:=Ag
  i9:=Ag
  i20:=Ag
  i21:=Ag
  i37:=Ag
  i46:=Ag
  i51:=Ag
  i53:=Ag
  i75:=Ag
  i76:=Ag
  i80:=Ag
  i85:=Ag
  i127:=Ag
  i143:=Ag
  i145:=Ag
  i167:=Ag
  i168:=Ag
  i171:=Ag
  i173:=Ag
  i175:=Ag
  i210:=Ag
  i212:=Ag
  i232:=Ag
  i233:=Ag
  m15:=Ag
  m16:=Ag
  m17:=Ag
  m18:=Ag
  m19:=Ag
  c0:=Ag
  c2:=Ag
  c3:=Ag
  c4:=Ag
  c5:=Ag
  c9:=Ag
  c20:=Ag
  c21:=Ag
  c37:=Ag
  c46:=Ag
  c51:=Ag
  c53:=Ag
  c75:=Ag
  c76:=Ag
  c80:=Ag
  c85:=Ag
  c127:=Ag
  c143:=Ag
  c145:=Ag
  c167:=Ag
  c168:=Ag
  c171:=Ag
  c173:=Ag
  c175:=Ag
  c210:=Ag
  c212:=Ag
  c213:=Ag
  c232:=Ag
  c233:=Ag
theorem A6g {s:List UInt8}{r:Int×Bool}{a:Aj} (d:Alx s=some r) (M:Nat→Prop) (w:Aj) (b:GlbM Tryz.prog M w) (c:Base M a w) (f:Own M w [] w):Calls Tryz.prog 49 #[Cs s] w (fun e w'=>∃ X:Ak×Aj,e=.returned (.tuple #[.int .i64 r.1,X.1])∧Own M w (kn M w.heap.size a X.2::[]) w'∧Aqe X.1 r.2):=A0p A0r d M w b c f
end Go.Proofs.YtaimbkndebaaiaaGreatDoor
end
section
namespace Go.Proofs.YtaimbkndebaaiaaGreatDoor
open Go.Rd
open TLib TLibR TLibA
namespace TSay
theorem As1:Rs Tryz.prog 104 2:=⟨_,Tryz.underlying104,rfl,Ag⟩
theorem A07:Go.Rd.Enters Tryz.prog 22:=eT Tryz.func22
theorem en48:Go.Rd.Enters Tryz.prog 48:=eT Tryz.func48
theorem en49:Go.Rd.Enters Tryz.prog 49:=eT Tryz.func49
theorem en50:Go.Rd.Enters Tryz.prog 50:=eT Tryz.func50
theorem en91:Go.Rd.Enters Tryz.prog 91:=eT Tryz.func91
theorem Vi:B8 Tryz.prog 104 0 0:=fT 0 Tryz.underlying104
theorem Yn:B8 Tryz.prog 104 1 1:=fT 0 Tryz.underlying104
theorem Qx:B8 Tryz.prog 47 0 0:=fT 0 Tryz.underlying47
theorem Dj:B8 Tryz.prog 47 1 1:=fT 0 Tryz.underlying47
theorem Nn:No Tryz.prog 102:=⟨_,Tryz.underlying102,rfl⟩
theorem pl2:No Tryz.prog 2:=⟨_,Tryz.underlying2,rfl⟩
theorem pl3:No Tryz.prog 3:=⟨_,Tryz.underlying3,rfl⟩
theorem Fg:No Tryz.prog 34:=⟨_,Tryz.underlying34,rfl⟩
theorem J1:No Tryz.prog 45:=⟨_,Tryz.underlying45,rfl⟩
theorem pl9:No Tryz.prog 9:=⟨_,Tryz.underlying9,rfl⟩
theorem Ta:I1 Tryz.prog 22 9 1:=⟨Tryz.underlying22,Ag⟩
theorem Fy:I1 Tryz.prog 34 3 1:=⟨Tryz.underlying34,Ag⟩
theorem Zx:I1 Tryz.prog 43 2 1:=⟨Tryz.underlying43,Ag⟩
theorem Ast:Dg Tryz.prog 102 1:=by unfold Dg;kernel_rfl
theorem A3r:Dg Tryz.prog 104 2:=by unfold Dg;kernel_rfl
theorem Agj:O4 Tryz.prog 102 43 1 [.slice none 0 0]:=⟨Tryz.underlying102,Ag⟩
theorem M6:O4 Tryz.prog 34 3 1 [.int .i64 0]:=⟨Tryz.underlying34,Ag⟩
theorem Anm:Ws Tryz.prog 102 43 1 24:=⟨Tryz.underlying102,Ag,Ai⟩
theorem Wo:Ws Tryz.prog 34 3 1 8:=⟨Tryz.underlying34,Ag,Ai⟩
theorem Ach:Ws Tryz.prog 43 2 1 8:=⟨Tryz.underlying43,Ag,Ai⟩
theorem Aw4:ZeroT Tryz.prog 104 [.slice none 0 0,.slice none 0 0]:=by unfold ZeroT;kernel_rfl
theorem ze2:ZeroT Tryz.prog 2 [.int .i64 0]:=by unfold ZeroT;kernel_rfl
end TSay
open TSay
theorem Mz {t:Ak}{word:List UInt8}{l:List Int}{r:List UInt8} (w:Aj) (f:Fs word l=some r) (d:Arr w t 1 (l.map Ar)) (z:Glb Tryz.prog w):Calls Tryz.prog 22 #[Cs word,t] w (fun e w'=>e=.returned (Cs r)∧Grow w w'):=by
 unfold Fs at f;refine have k:=D2 (w:=w);cw 20 Tryz.func22 Z (have y:=Zb z;sr (wa Z (nt (Ax (sr (wm Z (wq Z (A5 Tryz.underlying34 Z Z d.lenMap) (wm Z (nt ?_))))))))) (Aw k (D3 w));obtain⟨s,E,I,F⟩:=bl f;refine Cj (dt [7,8] [0] Z) (fun (a:List UInt8) (b:Int)=>[(0,(true,Cs a)),(9,(true,i_ b))]) (fun a b=>[]) (fun a b m=>Cp (F4 l) m (a,b)=some s) (fun a b=>s=.go (a,b)) word 0 I F (sb Z) (pk [0]) ?_ ?_
 ·skip
  rintro a b rfl;refine Al (sr (wm Z (wa Z (nt (Bc ?_)))));obtain rfl:=(Ad E).symm;exact Az Z Z fun w g=>kg g
 rintro a b K j;obtain⟨H,M,rfl,c,p⟩:=A2 j;unfold F4 at c;simp only at c;refine sr (wq Z (QV.lss Z Z Z Z) (nt (Ax ?_)));refine wc Z c (fun x n=>?_) (fun x C=>?_)
 ·skip
  refine sk (Al (Ax (Cr (sr ?_))));obtain⟨i,o⟩:=cs n;obtain⟨L,q⟩:=d.lenMap.ix (sz:=1) Ap i;refine wq Z (Ae Fy Z Z Z Z q) (wl pl3 Z (cl 0 (Ah 0 Z k d) q i Z) (wa Z (nr (wm Z (wm Z ?_)))));obtain⟨J,G,A⟩:=An o;refine wq Z (QV.call en48 (ea Z) (fun w g=>have h:=Yc w G (y.at g);h)) ?_;refine have ⟨c21,u,v,B⟩:=cs3 A;wq Z (Ic Z Z Z Z c21) (wq Z (Ic Z Z Z Z u) (wa Z (Bm (Bd (Al (Bo (wq Z (A6 Z Z Z Z v) (wm Z (Bm ?_)))))))));exact B1 (a++([32]++J)) (b+1) H (A4 B p) (Ck _) (sb Z) (pk [0])
 refine C1 (te (te (Am ?_)));exact Ct a b (Bh C p) (sb Z) (pk [0])
theorem Sl {t:Ak}{word:List UInt8}{l:List Int}{r:List UInt8} (w:Aj) (f:Iu word l=some r) (d:Arr w t 1 (l.map Ar)) (z:Glb Tryz.prog w):Calls Tryz.prog 93 #[Cs word,t] w (fun e w'=>e=.returned (Cs r)∧Grow w w'):=by
 unfold Iu at f;refine have k:=D2 (w:=w);cw 20 Tryz.func93 Z (have y:=Zb z;sr (wa Z (nt (Ax (sr (wm Z (wq Z (A5 Tryz.underlying43 Z Z d.lenMap) (wm Z (nt ?_))))))))) (Aw k (D3 w));obtain⟨s,E,I,F⟩:=bl f;refine Cj (dt [7,8] [0] Z) (fun (a:List UInt8) (b:Int)=>[(0,(true,Cs a)),(9,(true,i_ b))]) (fun a b=>[]) (fun a b m=>Cp (Nf l) m (a,b)=some s) (fun a b=>s=.go (a,b)) word 0 I F (sb Z) (pk [0]) ?_ ?_
 ·skip
  rintro a b rfl;refine Al (sr (wm Z (wa Z (nt (Bc ?_)))));obtain rfl:=(Ad E).symm;exact Az Z Z fun w g=>kg g
 rintro a b K j;obtain⟨H,M,rfl,c,p⟩:=A2 j;unfold Nf at c;simp only at c;refine sr (wq Z (QV.lss Z Z Z Z) (nt (Ax ?_)));refine wc Z c (fun x n=>?_) (fun x C=>?_)
 ·skip
  refine sk (Al (Ax (Cr (sr ?_))));obtain⟨i,o⟩:=cs n;obtain⟨L,q⟩:=d.lenMap.ix (sz:=1) Ap i;refine wq Z (Ae Zx Z Z Z Z q) (wl pl2 Z (cl 0 (Ah 0 Z k d) q i Z) (wa Z (nr (wm Z (wm Z ?_)))));obtain⟨J,G,A⟩:=An o;refine wq Z (QV.call en48 (ea Z) (fun w g=>have h:=Yc w G (y.at g);h)) ?_;refine have ⟨c21,u,v,B⟩:=cs3 A;wq Z (Ic Z Z Z Z c21) (wq Z (Ic Z Z Z Z u) (wa Z (Bm (Bd (Al (Bo (wq Z (A6 Z Z Z Z v) (wm Z (Bm ?_)))))))));exact B1 (a++([32]++J)) (b+1) H (A4 B p) (Ck _) (sb Z) (pk [0])
 refine C1 (te (te (Am ?_)));exact Ct a b (Bh C p) (sb Z) (pk [0])
theorem Of {f:Ak}{l:List Int}{r:List UInt8} (w:Aj) (b:Fm l=some r) (j:Arr w f 1 (l.map Ar)) (i:Glb Tryz.prog w):Calls Tryz.prog 51 #[f] w (fun e w'=>e=.returned (Cs r)∧Grow w w'):=by
 unfold Fm at b;refine have c:=D2 (w:=w);cw 6 Tryz.func51 Z (have g:=Zb i;sr (wa Z (ns (wm Z ?_)))) (Aw c (D3 w));obtain⟨o,m,d⟩:=An b;refine wq Z (QV.call A07 (ea Z) (fun w a=>have h:=Mz w m ((Ah 0 Z c j) w a) (g.at a);h)) ?_;obtain⟨p,n,k⟩:=An d;refine wq Z (QV.call en91 (ea Z) (fun w a=>have h:=V7 w n ;h)) ?_;refine wa Z (nt (Bc ?_));obtain rfl:=(Ad k).symm;exact Az Z Z fun w a=>kg a
theorem Aez {I:Ak}{words:List (List UInt8)}{r:List Int×Bool}{g:Aj} (p:Kv words=some r) (o:Arr g I 1 (words.map Wi)) (M:Nat→Prop) (w:Aj) (v:GlbM Tryz.prog M w) (l:Base M g w) (Y:Own M w [] w):Calls Tryz.prog 23 #[I] w (fun e w'=>∃ X:Ak×Aj,e=.returned (.tuple #[X.1,.bool r.2])∧Own M w (kn M w.heap.size g X.2::[]) w'∧Arr X.2 X.1 1 (r.1.map Ar)):=by
 unfold Kv at p;refine cw 42 Tryz.func23 Z (sr (wa Z (wa Z (ns (wa Z (nt (Ax (sr (wm Z (wq Z (A5 Tryz.underlying22 Z Z o.lenMap) (wm Z (nt (Gk (fun w i=>i.vecNil (E:=3) (sz:=1) (enc:=Ar)) ?_))))))))))))) (Aw l Y);obtain⟨H,F,a4,U⟩:=bl p;refine K1 (dt [9,10] [] Z) (fun (a:List Int) (c:Int) (b:Ak) (f:Aj)=>[(4,(true,b)),(11,(true,i_ c))]) (fun a c b f=>[vec b 3 1 (List.map Ar a),kn M w.heap.size g f]) (fun a c b f m=>Cp (Ft words) m (a,c)=some H∧SliceLen b a.length∧Le g f) (fun a c b f=>H=.go (a,c)∧SliceLen b a.length∧Le g f) [] 0 (.slice none 0 0) g a4 ⟨U,Hg,(Jy _)⟩ (sb Z) (pk [0,1]) ?_ ?_
 ·skip
  rintro a c b f ⟨rfl,y,j⟩;refine Al (sr (wm Z (wa Z (wa Z (nt (Bc ?_))))));obtain rfl:=(Ad F).symm;refine kp [1,0] Z (Gc l (fun a2 a7 V=>have N:=Cn V;Ei Z Z Z (fun w i=>?_)));exact⟨(b,a2),Z,i.pick [0] Ai,N⟩
 rintro a c b f a8 ⟨x,y,j⟩;obtain⟨a3,b0,rfl,n,q⟩:=A2 x;unfold Ft at n;simp only at n;refine sr (wq Z (QV.lss Z Z Z Z) (nt (Ax ?_)));refine wc Z n (fun K z=>?_) (fun K T=>?_)
 ·skip
  refine sk (Al (Ax (Cr (sr ?_))));obtain⟨t,A⟩:=cs z;obtain⟨a9,G⟩:=(o.le j).lenMap.ix (sz:=1) Ap t;refine wq Z (Ae Ta Z Z Z Z G) (wl pl9 Z (cl 0 (Ah 1 Z l (o.le j)) G t Z) (wa Z (ns (wm Z (Ab Z ?_)))));obtain⟨k,a0,B⟩:=An A;refine(crG [1,0] v l en49 Z (A6g a0) Z (fun s O P=>wm Z (wq Z (Bp Z Z Z) (wq Z (Bp Z Z Z) (wa Z (wa Z (nt (Ax (sr (wm Z (wq Z (Awh Tryz.underlying118 Z Z O) (wm Z (gN Z (QV.move Z Z) (gn Z (fun d=>QV.lss Z d Z Z) (wq Z (Be Z Z Z (fun h=>Fx h)) (wm Z (gN Z (QV.move Z Z) (gn Z (fun d=>QV.gtr Z d Z Z) (wq Z (Be Z Z Z (fun h=>Fx h)) (wm Z (gN Z (QV.move Z Z) ?_)))))))))))))))))))));obtain⟨b1,a1,C⟩:=C5 B;refine gn Z (fun d=>QV.call en50 (C3 Z d eN) (fun w i=>have h:=A6d w (a1 d) (v.at i);h)) ?_;refine gN Z (QV.move Z Z) (gn Z (fun d=>Y5 Z d Z d) (wq Z (Be Z Z Z (fun h=>Fx h)) (nt ?_)));refine wc Z C (fun L Q=>?_) (fun L R=>?_)
  ·skip
   refine sr (wa Z (wa Z (nt (Bc (tr (kr (tr (tr (kr (tr (tr ?_)))))))))));obtain rfl:=Dn Q q;obtain rfl:=(Ad F).symm;refine Ei Z Z Z (fun w i=>?_);exact⟨(.slice none 0 0,s.2),Z,i.pick [0] Ai,Gd⟩
  refine sk (Al (Bo (wm Z (wm Z (Ab Z ((D4 Ai M6 Ai Ai (ps:=[(0,.tmp 37)]) (cells:=[i_ k.1]) (ea Z) Ag (fun a6=>Ab Z (have ⟨u,J,S⟩:=cs2 R;(B0 (enc:=Ar) (xs:=a) (ys:=[k.1]) ((a++[k.1])) 2 Ai Wo Z Z Z Z Z (Bi 0 (rows:=[k.1].map Ar) Z Z (B3 Bf)) Bf (Dh _) Z u.1 u.2 (fun a5 W=>wa Z (Bm (Bd (Al (Bo (wq Z (A6 Z Z Z Z J) (wm Z (Bm ?_))))))))))))))))));exact Gh (a++[k.1]) (c+1) a5 s.2 a3 ⟨A4 S q,W,(j.trans P)⟩ (Ck _) (sb Z) (pk [2,1])
 refine C1 (te (te (Am ?_)));exact N2 a c b f ⟨Bh T q,y,j⟩ (sb Z) (pk [0,1])
theorem Aii {b8 b7 b9:Ak}{l:Lp}{r:Sta}{k:Aj} (O:Nx l=some r) (G:Arr k b8 1 (l.logs.map Ar)) (d2:Arr k b7 9 (l.body.map Stm.cells)) (f7:Arr k b9 1 (l.outs.map Ar)) (M:Nat→Prop) (w:Aj) (f6:GlbM Tryz.prog M w) (u:Base M k w) (e8:Own M w [] w):Calls Tryz.prog 92 #[.agg #[b8,b7,b9]] w (fun e w'=>∃ X:Ak×Ak×Aj,e=.returned (.agg #[X.1,X.2.1])∧Own M w (kn M w.heap.size k X.2.2::[]) w'∧RowsA X.2.2 X.1 r.bef∧RowsA X.2.2 X.2.1 r.mem):=by
 unfold Nx at O;refine cw 35 Tryz.func92 Z (sr (Ab Z ((A3 Ai Z Z (fun b1=>Ab Z ((Ci Ai Aw4 (fun b2=>ns (Ab Z ((Ci Ai Aw4 (fun P=>nt (Ax (sr (wf Dj Z (wl J1 Z (Aq 2 Z Z) (wq Z (A5 Tryz.underlying45 Z Z d2.lenMap) (wm Z (nt (Gk (fun w o=>o.vecNil (E:=43) (sz:=1) (enc:=Lg)) ?_)))))))))))))))))))) (Aw u e8);obtain⟨b4,a4,f3,d9⟩:=bl O;refine Rn (dt [1,2,3,8] [2,3] Z) (fun (f:List (List Int)) (n:Int) (h:Ak) (c:List (Ak×List Int)) (g:Aj)=>[(9,(true,i_ n))]) (fun f n h c g=>[vec h 43 1 (List.map Lg c),blk P [h,.slice none 0 0] 104,kn M w.heap.size k g]) (fun f n h c g m=>Cp (Ij l) m (f,n)=some b4∧SliceLen h f.length∧c.map (·.2)=f∧RowsK g c∧Le k g) (fun f n h c g=>b4=.go (f,n)∧SliceLen h f.length∧c.map (·.2)=f∧RowsK g c∧Le k g) [] 0 (.slice none 0 0) [] k f3 ⟨d9,Hg,Z,RowsK.nil,(Jy _)⟩ (sb Z) (pk [0,1,4,2,3]) ?_ ?_
 ·skip
  rintro f n h c g ⟨rfl,N,z,B,p⟩;refine Al (Ax (sr (wf Qx Z (wl Fg Z (Aq 4 Z Z) (wq Z (A5 Tryz.underlying34 Z Z (G.le p).lenMap) (wm Z (nt (Gk (fun w o=>o.vecNil (E:=43) (sz:=1) (enc:=Lg)) ?_))))))));obtain⟨b3,d3,f2,d8⟩:=bl a4;refine Rn (dt [2,3,19,20] [1,4,5] Z) (fun (d:List (List Int)) (a:Int) (i:Ak) (b:List (Ak×List Int)) (j:Aj)=>[(21,(true,i_ a))]) (fun d a i b j=>[vec i 43 1 (List.map Lg b),blk P [h,i] 104,kn M w.heap.size k j]) (fun d a i b j m=>Cp (Ii l) m (d,a)=some b3∧SliceLen i d.length∧b.map (·.2)=d∧RowsK j b∧Le g j) (fun d a i b j=>b3=.go (d,a)∧SliceLen i d.length∧b.map (·.2)=d∧RowsK j b∧Le g j) [] 0 (.slice none 0 0) [] g f2 ⟨d8,Hg,Z,RowsK.nil,(Jy _)⟩ (sb Z) (pk [0,2,3,1,4,5]) ?_ ?_
  ·skip
   rintro d a i b j ⟨rfl,L,y,A,q⟩;refine Al (sr (wq Z (Af As1 Z Z Z (Ac 1 Z)) (Ab Z ((ex 4 [h,i] (show Ee _=List.toArray _ from Z) A3r (oc (De N) (oc (De L) Cg)) Z (nt (Bc ?_)))))));obtain rfl:=(Ad d3).symm;refine kp [2,3,0,1,4,5] Z (Gc u (fun e9 Y e0=>?_));have c8:RowsA e9 h f:=⟨c,z,Cn e0,(B.le (q.trans Y))⟩;refine Gc u (fun a8 a0 e1=>?_);have c9:RowsA a8 i d:=⟨b,y,Cn e1,(A.le (Y.trans a0))⟩;refine Vv Z As1 Z Z (Ac 2 Z) (fun w o=>?_);exact⟨(h,i,a8),Z,o.pick [0] Ai,(c8.le a0),c9⟩
  rintro d a i b j m18 ⟨V,L,y,A,q⟩;obtain⟨f0,g0,rfl,C,a5⟩:=A2 V;unfold Ii at C;simp only at C;refine sr (wq Z (QV.lss Z Z Z Z) (nt (Ax ?_)));refine wc Z C (fun c6 a1=>?_) (fun c6 d5=>?_)
  ·skip
   refine sk (Al (Ax (Cr (sr ?_))));obtain⟨Q,a2⟩:=cs a1;obtain⟨f9,a7⟩:=(G.le (p.trans q)).lenMap.ix (sz:=1) Ap Q;refine wq Z (Ae Fy Z Z Z Z a7) (wl pl3 Z (cl 0 (Ah 2 Z u (G.le (p.trans q))) a7 Q Z) (wa Z (nt (dp 9 [2,1,3,4,5] Z (zf 0 Yn Z Z (zl 1 Nn Z Z (Aq 1 Z Z) (zm 2 Z Z ?_)))))));obtain⟨c0,c1,c2,R,c3,d4⟩:=cs5 a2;refine wz 3 Z Z (QV.shlD Z Z Z Z c0) (Dd 4 Z Ag Z ((Aiq (enc:=Ar) (0:Int) Ai Ach ze2 Z Z c1 Z c2 (fun s e4=>bp [3,2,4,5,6] Z (pk [0,1,2,3,4]) (Dd 5 Z Ag Z ((D4 Ai Agj Ai Ai (ps:=[(0,.tmp 29)]) (cells:=[s]) (ea Z) (Abj e4) (fun f4=>bp [4,0,3,5,6,7] Z (pk [0,2,3,4,5]) (Dd 6 Z Ag Z (ep [4,1,0,2,3,5,6,7] Z (Wv u (fun a9 J e2=>?_))))))))))));have T:=Cn e2;have d0:RowsK a9 (b++[(s,(List.replicate (shlD 1 (ele l.logs a)).toNat (0:Int)))]):=Adg (A.le J) T;have v:((b++[(s,(List.replicate (shlD 1 (ele l.logs a)).toNat (0:Int)))]):List (Ak×List Int)).map (·.2)=(d++[(List.replicate (shlD 1 (ele l.logs a)).toNat (0:Int))]):=Agu y;refine(B0 (enc:=Lg) (xs:=b) (ys:=[(s,(List.replicate (shlD 1 (ele l.logs a)).toNat (0:Int)))]) (b++[(s,(List.replicate (shlD 1 (ele l.logs a)).toNat (0:Int)))]) 2 Ai Anm Z Z Z Z Z (Bi 1 (rows:=[(s,(List.replicate (shlD 1 (ele l.logs a)).toNat (0:Int)))].map Lg) Z Z (B3 Oi)) Oi (Amc T.lenMap) Z (AL.b1 v R) (AL.b2 v R) (fun b5 e5=>have H:=Abx v e5;bp [0,1,2,3,4,5,6] Z (fun w o=>Fk J (p.trans q) (o.pick [0,1,3,4,5,6] Ai)) (zf 7 Yn Z Z (WD.l 8 Z Ag Z ((ex 3 [b5] (Hz H) Ast (oc (De H) Cg) Z (Bd (Al (Bo (wq Z (A6 Z Z Z Z c3) (wm Z (Bm ?_))))))))))));exact Rm (d++[(List.replicate (shlD 1 (ele l.logs a)).toNat (0:Int))]) (a+1) b5 (b++[(s,(List.replicate (shlD 1 (ele l.logs a)).toNat (0:Int)))]) a9 f0 ⟨A4 d4 a5,H,v,d0,(q.trans J)⟩ (Ck _) (sb Z) (pk [2,3,0,4,5,6])
  refine C1 (te (te (Am ?_)));exact Yr d a i b j ⟨Bh d5 a5,L,y,A,q⟩ (sb Z) (pk [0,1,2,3,4,5])
 rintro f n h c g f8 ⟨W,N,z,B,p⟩;obtain⟨f1,g1,rfl,F,a6⟩:=A2 W;unfold Ij at F;simp only at F;refine sr (wq Z (QV.lss Z Z Z Z) (nt (Ax ?_)));refine wc Z F (fun c7 a3=>?_) (fun c7 d7=>?_)
 ·skip
  refine sk (Al (Ax (Cr (dp 7 [2,1,3,4] Z (zf 0 Vi Z Z (zl 1 Nn Z Z (Aq 1 Z Z) (Dd 2 Z Ag Z ?_)))))));obtain⟨c4,c5,S,c75,d6⟩:=cs4 a3;refine(Aiq (enc:=Ar) (0:Int) Ai Ach ze2 Z Z c4 Z c5 (fun t e6=>bp [3,2,4,5] Z (pk [0,1,2,3]) (Dd 3 Z Ag Z ((D4 Ai Agj Ai Ai (ps:=[(0,.tmp 13)]) (cells:=[t]) (ea Z) (Abj e6) (fun f5=>bp [4,0,3,5,6] Z (pk [0,2,3,4]) (Dd 4 Z Ag Z (ep [4,1,0,2,3,5,6] Z (Wv u (fun b0 K e3=>?_))))))))));have U:=Cn e3;have d1:RowsK b0 (c++[(t,(List.replicate (3:Int).toNat (0:Int)))]):=Adg (B.le K) U;have x:((c++[(t,(List.replicate (3:Int).toNat (0:Int)))]):List (Ak×List Int)).map (·.2)=(f++[(List.replicate (3:Int).toNat (0:Int))]):=Agu z;refine(B0 (enc:=Lg) (xs:=c) (ys:=[(t,(List.replicate (3:Int).toNat (0:Int)))]) (c++[(t,(List.replicate (3:Int).toNat (0:Int)))]) 2 Ai Anm Z Z Z Z Z (Bi 1 (rows:=[(t,(List.replicate (3:Int).toNat (0:Int)))].map Lg) Z Z (B3 Oi)) Oi (Amc U.lenMap) Z (AL.b1 x S) (AL.b2 x S) (fun b6 e7=>have I:=Abx x e7;bp [0,1,2,3,4,5] Z (fun w o=>Fk K p (o.pick [0,1,3,4,5] Ai)) (zf 5 Vi Z Z (WD.l 6 Z Ag Z ((ex 3 [b6] (Hz I) Ast (oc (De I) Cg) Z (Bd (Al (Bo (wq Z (A6 Z Z Z Z c75) (wm Z (Bm ?_))))))))))));exact Rm (f++[(List.replicate (3:Int).toNat (0:Int))]) (n+1) b6 (c++[(t,(List.replicate (3:Int).toNat (0:Int)))]) b0 f1 ⟨A4 d6 a6,I,x,d1,(p.trans K)⟩ (Ck _) (sb Z) (pk [2,3,0,4,5])
 refine C1 (te (te (Am ?_)));exact Yr f n h c g ⟨Bh d7 a6,N,z,B,p⟩ (sb Z) (pk [0,1,2,3,4])
end Go.Proofs.YtaimbkndebaaiaaGreatDoor
end
section
namespace Go.Proofs.YtaimbkndebaaiaaGreatDoor
open Go.Rd
open TLib TLibR TLibA TSay
namespace TNum0
end TNum0
open TNum0
theorem Aia {c:Int}{r:List UInt8} (w:Aj) (a:Ns c=some r) (f:Glb Tryz.prog w):Calls Tryz.prog 144 #[.int .i64 c] w (fun e w'=>e=.returned (Cs r)∧Grow w w'):=by
 unfold Ns at a;refine have g:=D2 (w:=w);cw 5 Tryz.func144 Z (have d:=Zb f;sr (wa Z (ns (wm Z ?_)))) (Aw g (D3 w));obtain⟨k,j,i⟩:=An a;refine wq Z (QV.call en48 (ea Z) (fun w b=>have h:=Yc w j (d.at b);h)) ?_;refine wa Z (nt (Bc ?_));obtain rfl:=(Ad i).symm;exact Az Z Z fun w b=>kg b
end Go.Proofs.YtaimbkndebaaiaaGreatDoor
end
section
namespace Go.Proofs.YtaimbkndebaaiaaGreatDoor
open Go.Rd
open TLib TLibR TLibA TSay TNum0
namespace TNum
theorem A38:Go.Rd.Enters Tryz.prog 152:=eT Tryz.func152
theorem A37:Go.Rd.Enters Tryz.prog 153:=eT Tryz.func153
end TNum
open TNum
theorem Ye {b:Int}{r:Bool} (w:Aj) (a:Md b=some r) :Calls Tryz.prog 152 #[.int .i64 b] w (fun e w'=>e=.returned (.bool r)∧Grow w w'):=by
 unfold Md at a;refine have d:=D2 (w:=w);cw 9 Tryz.func152 Z (sr (wa Z (ns (wm Z (wq Z (QV.geq Z Z Z Z) (wm Z (gP Z (QV.move Z Z) (gp Z (fun c=>QV.leq Z c Z Z) (wq Z (A8 Z Z Z (fun h=>h)) (wa Z (nt (Bc ?_)))))))))))) (Aw d (D3 w));obtain rfl:=(Ad a).symm;exact Az Z Z fun w f=>kg f
theorem Xx {step plus g log r:Int} (w:Aj) (c:L3 step plus g log=some r) :Calls Tryz.prog 114 #[.int .i64 step,.int .i64 plus,.int .i64 g,.int .i64 log] w (fun e w'=>e=.returned (.int .i64 r)∧Grow w w'):=by
 unfold L3 at c;refine have n:=D2 (w:=w);cw 45 Tryz.func114 Z (sr (wa Z (ns (wa Z (nt (Ax (sr (wm Z (wq Z (QV.lss Z Z Z Z) (wm Z (gN Z (QV.move Z Z) (gn Z (fun a=>QV.gtr Z a Z Z) (wq Z (Be Z Z Z (fun h=>Fx h)) (wm Z (gN Z (QV.move Z Z) (gN Z (QV.move Z Z) ?_)))))))))))))))) (Aw n (D3 w));obtain⟨u,s,d⟩:=C5 c;refine gn Z (fun a=>Nr A38 Z a (C3 Z a eN) (fun w b=>have h:=Ye w (s a) ;h)) ?_;refine gn Z (fun a=>QV.not Z a) (wq Z (Be Z Z Z (fun h=>Fx h)) (wm Z (gN Z (QV.move Z Z) (gN Z (QV.move Z Z) ?_))));obtain⟨v,t,f⟩:=C5 d;refine gn Z (fun a=>Nr A38 Z a (C3 Z a eN) (fun w b=>have h:=Ye w (t a) ;h)) ?_;refine gn Z (fun a=>QV.not Z a) (wq Z (Be Z Z Z (fun h=>Fx h)) (wm Z (gN Z (QV.move Z Z) (gn Z (fun a=>QV.lss Z a Z Z) (wq Z (Be Z Z Z (fun h=>Fx h)) (wm Z (gN Z (QV.move Z Z) (gn Z (fun a=>QV.gtr Z a Z Z) (wq Z (Be Z Z Z (fun h=>Fx h)) (nt ?_))))))))));refine wc Z f (fun m p=>?_) (fun m q=>?_)
 ·skip
  refine sr (wa Z (nt (Bc (tr ?_))));obtain rfl:=(Ad p).symm;exact Az Z Z fun w b=>kg b
 refine sk (Al (sr (wm Z (wm Z (have ⟨i,j,k,l,o⟩:=cs4 q;wq Z (QV.mul Z Z Z Z i) (wm Z (wq Z (A6 Z Z Z Z j) (wm Z (wq Z (QV.shlD Z Z Z Z k) (wq Z (Du Z Z Z Z l) (wq Z (Afb Z Z Z Z) (wa Z (nt (Bc ?_))))))))))))));obtain rfl:=(Ad o).symm;exact Az Z Z fun w b=>kg b
theorem Aeh {c:Bool}{r:Int} (w:Aj) (a:Qk c=some r) :Calls Tryz.prog 153 #[.bool c] w (fun e w'=>e=.returned (.int .i64 r)∧Grow w w'):=by
 unfold Qk at a;refine have f:=D2 (w:=w);cw 4 Tryz.func153 Z (sr (wa Z (nt (Ax (sr (wm Z (nt ?_))))))) (Aw f (D3 w));refine wc Z a (fun d g=>?_) (fun d h=>?_)
 ·skip
  refine sr (wa Z (nt (Bc (tr ?_))));obtain rfl:=(Ad g).symm;exact Az Z Z fun w b=>kg b
 refine sk (Al (sr (wa Z (nt (Bc ?_)))));obtain rfl:=(Ad h).symm;exact Az Z Z fun w b=>kg b
theorem Aol {op a b r:Int} (w:Aj) (d:T5 op a b=some r) :Calls Tryz.prog 116 #[.int .i64 op,.int .i64 a,.int .i64 b] w (fun e w'=>e=.returned (.int .i64 r)∧Grow w w'):=by
 unfold T5 at d;refine have z:=D2 (w:=w);cw 53 Tryz.func116 Z (sr (wa Z (ns (wa Z (nt (Ax (sr (wm Z (nt (Cr (sr (wq Z (QV.eql Z Z Z Z) (wa Z (nt ?_)))))))))))))) (Aw z (D3 w));refine wc Z d (fun p E=>?_) (fun p m=>?_)
 ·skip
  refine sr (wm Z (wm Z (wq Z (Aue Z Z Z Z) (wa Z (nt (Bc (kr (tr ?_))))))));obtain rfl:=(Ad E).symm;exact Az Z Z fun w c=>kg c
 refine sr (wq Z (QV.eql Z Z Z Z) (wa Z (nt ?_)));refine wc Z m (fun x I=>?_) (fun x n=>?_)
 ·skip
  refine sr (wm Z (wm Z (wq Z (Amu Z Z Z Z) (wa Z (nt (Bc (kr (tr ?_))))))));obtain rfl:=(Ad I).symm;exact Az Z Z fun w c=>kg c
 refine sr (wq Z (QV.eql Z Z Z Z) (wa Z (nt ?_)));refine wc Z n (fun y J=>?_) (fun y o=>?_)
 ·skip
  refine sr (wm Z (wm Z (wq Z (Aud Z Z Z Z) (wa Z (nt (Bc (kr (tr ?_))))))));obtain rfl:=(Ad J).symm;exact Az Z Z fun w c=>kg c
 refine sr (wq Z (QV.eql Z Z Z Z) (wa Z (nt ?_)));refine wc Z o (fun q A=>?_) (fun q f=>?_)
 ·skip
  refine sr (wm Z (wm Z (wq Z (Afb Z Z Z Z) (wa Z (nt (Bc (kr (tr ?_))))))));obtain rfl:=(Ad A).symm;exact Az Z Z fun w c=>kg c
 refine sr (wq Z (QV.eql Z Z Z Z) (wa Z (nt ?_)));refine wc Z f (fun s B=>?_) (fun s g=>?_)
 ·skip
  refine sr (wm Z (wm Z (wq Z (A6b Z Z Z Z) (wa Z (nt (Bc (kr (tr ?_))))))));obtain rfl:=(Ad B).symm;exact Az Z Z fun w c=>kg c
 refine sr (wq Z (QV.eql Z Z Z Z) (wa Z (nt ?_)));refine wc Z g (fun t C=>?_) (fun t i=>?_)
 ·skip
  refine sr (wm Z (wm Z (wq Z (A3a Z Z Z Z) (wa Z (nt (Bc (kr (tr ?_))))))));obtain rfl:=(Ad C).symm;exact Az Z Z fun w c=>kg c
 refine sr (wq Z (QV.eql Z Z Z Z) (wa Z (nt ?_)));refine wc Z i (fun u j=>?_) (fun u k=>?_)
 ·skip
  refine sr (wm Z (wm Z (wm Z (wq Z (QV.lss Z Z Z Z) ?_))));obtain⟨M,K,F⟩:=An j;refine wq Z (Nr A37 Z Z (ea Z) (fun w c=>have h:=Aeh w K ;h)) ?_;refine wa Z (nt (Bc (kr (tr ?_))));obtain rfl:=(Ad F).symm;exact Az Z Z fun w c=>kg c
 refine sr (wq Z (QV.eql Z Z Z Z) (wa Z (nt ?_)));refine wc Z k (fun v l=>?_) (fun v H=>?_)
 ·skip
  refine sr (wm Z (wm Z (wm Z (wq Z (QV.eql Z Z Z Z) ?_))));obtain⟨N,L,G⟩:=An l;refine wq Z (Nr A37 Z Z (ea Z) (fun w c=>have h:=Aeh w L ;h)) ?_;refine wa Z (nt (Bc (kr (tr ?_))));obtain rfl:=(Ad G).symm;exact Az Z Z fun w c=>kg c
 refine sk (Bd (Al (sr (wa Z (nt (Bc ?_))))));obtain rfl:=(Ad H).symm;exact Az Z Z fun w c=>kg c
theorem Ho {op r:Int} (w:Aj) (b:E8 op=some r) :Calls Tryz.prog 34 #[.int .i64 op] w (fun e w'=>e=.returned (.int .i64 r)∧Grow w w'):=by
 unfold E8 at b;refine have m:=D2 (w:=w);cw 9 Tryz.func34 Z (sr (wa Z (nt (Ax (sr (wm Z (nt (Cr (Ax (sr (wq Z (QV.eql Z Z Z Z) (wa Z (nt ?_))))))))))))) (Aw m (D3 w));refine wc Z b (fun h d=>?_) (fun h g=>?_)
 ·skip
  refine sk (Al ?_);refine wc Z d (fun k q=>?_) (fun k f=>?_)
  ·skip
   refine sr (wa Z (nt (Bc (kr (tr ?_)))));obtain rfl:=(Ad q).symm;exact Az Z Z fun w a=>kg a
  refine sr (wq Z (QV.eql Z Z Z Z) (wa Z (nt ?_)));refine wc Z f (fun l s=>?_) (fun l t=>?_)
  ·skip
   refine sr (wa Z (nt (Bc (kr (tr ?_)))));obtain rfl:=(Ad s).symm;exact Az Z Z fun w a=>kg a
  refine sk (Bd (Al (sr (wa Z (nt (Bc ?_))))));obtain rfl:=(Ad t).symm;exact Az Z Z fun w a=>kg a
 refine Bo (wq Z (QV.eql Z Z Z Z) (wa Z (nt ?_)));refine wc Z g (fun i n=>?_) (fun i c=>?_)
 ·skip
  refine sr (wa Z (nt (Bc (kr (tr ?_)))));obtain rfl:=(Ad n).symm;exact Az Z Z fun w a=>kg a
 refine sr (wq Z (QV.eql Z Z Z Z) (wa Z (nt ?_)));refine wc Z c (fun j o=>?_) (fun j p=>?_)
 ·skip
  refine sr (wa Z (nt (Bc (kr (tr ?_)))));obtain rfl:=(Ad o).symm;exact Az Z Z fun w a=>kg a
 refine sk (Bd (Al (sr (wa Z (nt (Bc ?_))))));obtain rfl:=(Ad p).symm;exact Az Z Z fun w a=>kg a
end Go.Proofs.YtaimbkndebaaiaaGreatDoor
end
section
namespace Go.Proofs.YtaimbkndebaaiaaGreatDoor
open Go.Rd
open TLib TLibR TLibA TSay TNum0 TNum
namespace TLoop
theorem Hv:Rs Tryz.prog 27 7:=⟨_,Tryz.underlying27,rfl,Ag⟩
theorem Fz:Rs Tryz.prog 47 3:=⟨_,Tryz.underlying47,rfl,Ag⟩
theorem N6:Rs Tryz.prog 80 2:=⟨_,Tryz.underlying80,rfl,Ag⟩
theorem N5:Rs Tryz.prog 82 9:=⟨_,Tryz.underlying82,rfl,Ag⟩
theorem Up:Aly Tryz.prog 25 3 1:=⟨_,Tryz.underlying25,Ag⟩
theorem Aw0:Go.Rd.Enters Tryz.prog 10:=eT Tryz.func10
theorem Auq:Go.Rd.Enters Tryz.prog 27:=eT Tryz.func27
theorem Aqb:Go.Rd.Enters Tryz.prog 28:=eT Tryz.func28
theorem Ah8:Go.Rd.Enters Tryz.prog 34:=eT Tryz.func34
theorem Ah7:Go.Rd.Enters Tryz.prog 56:=eT Tryz.func56
theorem en57:Go.Rd.Enters Tryz.prog 57:=eT Tryz.func57
theorem en97:Go.Rd.Enters Tryz.prog 97:=eT Tryz.func97
theorem Ap9:EqT Tryz.prog 80 2:=⟨Ag,⟨_,Tryz.underlying80⟩,Ag,Ag⟩
theorem Aah:B8 Tryz.prog 27 0 0:=fT 2 Tryz.underlying27
theorem Xk:B8 Tryz.prog 27 1 3:=fT 2 Tryz.underlying27
theorem Nd:B8 Tryz.prog 27 2 6:=fT 0 Tryz.underlying27
theorem Xi:B8 Tryz.prog 47 2 2:=fT 0 Tryz.underlying47
theorem R6:B8 Tryz.prog 80 0 0:=fT 0 Tryz.underlying80
theorem Qw:B8 Tryz.prog 80 1 1:=fT 0 Tryz.underlying80
theorem I0:B8 Tryz.prog 82 0 0:=fT 0 Tryz.underlying82
theorem Tk:B8 Tryz.prog 82 1 1:=fT 1 Tryz.underlying82
theorem U6:B8 Tryz.prog 82 2 3:=fT 1 Tryz.underlying82
theorem R5:B8 Tryz.prog 82 3 5:=fT 0 Tryz.underlying82
theorem Xh:B8 Tryz.prog 82 4 6:=fT 0 Tryz.underlying82
theorem Xg:B8 Tryz.prog 82 5 7:=fT 0 Tryz.underlying82
theorem Aln:B8 Tryz.prog 82 6 8:=fT 0 Tryz.underlying82
theorem To:No Tryz.prog 43:=⟨_,Tryz.underlying43,rfl⟩
theorem St:I1 Tryz.prog 102 43 1:=⟨Tryz.underlying102,Ag⟩
theorem Wq:I1 Tryz.prog 45 82 9:=⟨Tryz.underlying45,Ag⟩
theorem Auj:I1 Tryz.prog 83 80 2:=⟨Tryz.underlying83,Ag⟩
theorem Zw:Dg Tryz.prog 80 2:=by unfold Dg;kernel_rfl
theorem S9:Dg Tryz.prog 82 9:=by unfold Dg;kernel_rfl
theorem A3o:O4 Tryz.prog 83 80 2 [.int .i64 0,.int .i64 0]:=⟨Tryz.underlying83,Ag⟩
theorem Ake:ZeroT Tryz.prog 80 [.int .i64 0,.int .i64 0]:=by unfold ZeroT;kernel_rfl
theorem S8:ZeroT Tryz.prog 82 [.int .i64 0,.int .i64 0,.int .i64 0,.int .i64 0,.int .i64 0,.int .i64 0,.int .i64 0,.int .i64 0,.int .i64 0]:=by unfold ZeroT;kernel_rfl
end TLoop
open TLoop
theorem Pc {t:Tgt}{r:Bool} (w:Aj) (g:Gn t=some r) :Calls Tryz.prog 10 #[.agg #[.int .i64 t.u0,.int .i64 t.u1,.int .i64 t.u2,.int .i64 t.w0,.int .i64 t.w1,.int .i64 t.w2,.int .i64 t.regs]] w (fun e w'=>e=.returned (.bool r)∧Grow w w'):=by
 unfold Gn at g;refine have x:=D2 (w:=w);cw 42 Tryz.func10 Z (sr (Ab Z ((A3 Ai Z Z (fun b1=>wa Z (nt (Ax (sr (wm Z (nt ?_)))))))))) (Aw x (D3 w));obtain⟨q,p,G,E⟩:=bl g;refine Dq (dt [1] [0,1] Z) (fun (b:Int)=>[(4,(true,i_ b))]) (fun b=>[]) (fun b m=>Cp (Nv t) m b=some q) (fun b=>q=.go b) 0 G E (sb Z) (pk [0,1]) ?_ ?_
 ·skip
  rintro b rfl;refine Al (sr (wf Nd Z (wl pl3 Z (Aq 0 Z Z) (wq Z (QV.geq Z Z Z Z) (wm Z (gP Z (QV.fieldAddr Nd Z Z) (gp Z (fun a=>Cm pl3 Z a (Aq 0 Z Z)) (gp Z (fun a=>QV.leq Z a Z Z) (wq Z (A8 Z Z Z (fun h=>h)) (wa Z (nt (Bc ?_))))))))))));obtain rfl:=(Ad p).symm;exact Az Z Z fun w l=>kg l
 rintro b H n;obtain⟨F,I,rfl,j,k⟩:=A2 n;unfold Nv at j;refine sr (wq Z (QV.lss Z Z Z Z) (nt (Ax ?_)));refine wc Z j (fun u y=>?_) (fun u C=>?_)
 ·skip
  refine sk (Al (Ax (Cr (sr (wm Z (wa Z (ns (wm Z (wf Aah Z (have ⟨c,d,f,c21,o⟩:=cs4 y;wq Z (Cu Up Z Z Z Z c.1 c.2) (wl pl3 Z (Er 0 Z (Ia (off:=0) (i:=b) c.1 c.2 Z Z Z) (Hi _ _ _)) (wq Z (QV.lss Z Z Z Z) (wm Z (gN Z (QV.move Z Z) (gN Z (QV.fieldAddr Aah Z Z) (gn Z (fun a=>Cu Up Z a Z a (d a).1 (d a).2) (gn Z (fun a=>Cm pl3 Z a (Er 0 Z (Ia (off:=0) (i:=b) (d a).1 (d a).2 Z Z Z) (Hi _ _ _))) (gn Z (fun a=>QV.gtr Z a Z Z) (wq Z (Be Z Z Z (fun h=>Fx h)) (wm Z (gN Z (QV.move Z Z) (gN Z (QV.fieldAddr Xk Z Z) (gn Z (fun a=>Cu Up Z a Z a (f a).1 (f a).2) (gn Z (fun a=>Cm pl3 Z a (Er 0 Z (Ia (off:=3) (i:=b) (f a).1 (f a).2 Z Z Z) (Hi _ _ _))) (gn Z (fun a=>QV.lss Z a Z Z) (wq Z (Be Z Z Z (fun h=>Fx h)) (wm Z (gN Z (QV.move Z Z) (gN Z (QV.fieldAddr Xk Z Z) (gn Z (fun a=>Cu Up Z a Z a (c21 a).1 (c21 a).2) (gn Z (fun a=>Cm pl3 Z a (Er 0 Z (Ia (off:=3) (i:=b) (c21 a).1 (c21 a).2 Z Z Z) (Hi _ _ _))) (gn Z (fun a=>QV.gtr Z a Z Z) ?_))))))))))))))))))))))))))))))));refine wq Z (Be Z Z Z (fun h=>Fx h)) (nt ?_);refine wc Z o (fun v z=>?_) (fun v A=>?_)
  ·skip
   refine sr (wa Z (nt (Bc (kr (tr (tr (kr (tr (tr ?_)))))))));obtain rfl:=Dn z k;obtain rfl:=(Ad p).symm;exact Az Z Z fun w l=>kg l
  refine sk (Bd (Al (Bo (have ⟨s,B⟩:=cs A;wq Z (A6 Z Z Z Z s) (wm Z (Bm ?_))))));exact Dp (b+1) F (A4 B k) (Ck _) (sb Z) (pk [0,1])
 refine C1 (te (te (Am ?_)));exact El b (Bh C k) (sb Z) (pk [0,1])
theorem Nt {t:Tgt}{op r:Int} (w:Aj) (c:Gr t op=some r) :Calls Tryz.prog 29 #[.agg #[.int .i64 t.u0,.int .i64 t.u1,.int .i64 t.u2,.int .i64 t.w0,.int .i64 t.w1,.int .i64 t.w2,.int .i64 t.regs],.int .i64 op] w (fun e w'=>e=.returned (.int .i64 r)∧Grow w w'):=by
 unfold Gr at c;refine have j:=D2 (w:=w);cw 13 Tryz.func29 Z (sr (Ab Z ((A3 Ai Z Z (fun b1=>wa Z (nt (Ax (sr (wq Z (Af Hv Z Z Z (Ac 0 Z)) ?_))))))))) (Aw j (D3 w));obtain⟨q,n,d⟩:=An c;refine wq Z (QV.call Aw0 (ea Z) (fun w a=>have h:=Pc w n ;h)) ?_;refine wq Z (QV.not Z Z) (nt ?_);refine wc Z d (fun g m=>?_) (fun g f=>?_)
 ·skip
  refine sr (wa Z (nt (Bc (tr ?_))));obtain rfl:=(Ad m).symm;exact Az Z Z fun w a=>kg a
 refine sk (Al (sr (wm Z ?_)));obtain⟨p,o,k⟩:=An f;refine wq Z (QV.call Ah8 (ea Z) (fun w a=>have h:=Ho w o ;h)) ?_;refine wf Xk Z (have ⟨b,l⟩:=cs k;wq Z (Cu Up Z Z Z Z b.1 b.2) (wl pl3 Z (Er 0 Z (Ia (off:=3) (i:=p) b.1 b.2 Z Z Z) (Hi _ _ _)) (wa Z (nt (Bc ?_)))));obtain rfl:=(Ad l).symm;exact Az Z Z fun w a=>kg a
theorem Ky {d a below:Int}{r:Bool} (w:Aj) (c:F8 d a below=some r) :Calls Tryz.prog 56 #[.int .i64 d,.int .i64 a,.int .i64 below] w (fun e w'=>e=.returned (.bool r)∧Grow w w'):=by
 unfold F8 at c;refine have f:=D2 (w:=w);cw 15 Tryz.func56 Z (sr (wa Z (ns (wm Z (wm Z (wq Z (QV.geq Z Z Z Z) (wm Z (gP Z (QV.move Z Z) (gP Z (QV.move Z Z) (gp Z (fun b=>QV.lss Z b Z b) (wq Z (A8 Z Z Z (fun h=>h)) (wa Z (nt (Bc ?_)))))))))))))) (Aw f (D3 w));obtain rfl:=(Ad c).symm;exact Az Z Z fun w g=>kg g
theorem L4 {s:Stm}{r:List Rf}{d:Aj} (g:E9 s=some r)  (M:Nat→Prop) (w:Aj) (f:Base M d w) (x:Own M w [] w):Calls Tryz.prog 28 #[.agg #[.int .i64 s.op,.int .i64 s.a.st,.int .i64 s.a.bk,.int .i64 s.b.st,.int .i64 s.b.bk,.int .i64 s.ar,.int .i64 s.sp,.int .i64 s.pl,.int .i64 s.n]] w (fun e w'=>∃ X:Ak×Aj,e=.returned (X.1)∧Own M w (kn M w.heap.size d X.2::[]) w'∧Arr X.2 X.1 2 (r.map Rf.cells)):=by
 unfold E9 at g;refine cw 19 Tryz.func28 Z (sr (Ab Z ((A3 Ai Z Z (fun b1=>wa Z (nt (Ax (Cr (sr (wf I0 Z (wl pl3 Z (Aq 0 Z Z) (wq Z (QV.eql Z Z Z Z) (wa Z (nt ?_)))))))))))))) (Aw f x);refine wc Z g (fun k q=>?_) (fun k h=>?_)
 ·skip
  refine sr (wf Tk Z (wq Z (Af N6 Z Z Z (cu 1 2 (Ac 0 Z) Z)) (Ab Z ((D4 Ai A3o Ai Ai (ps:=[(0,.tmp 8)]) (cells:=[i_ s.a.st,i_ s.a.bk]) (ea Z) Ag (fun i=>wa Z (nt (Bc (kr (tr ?_))))))))));obtain rfl:=(Ad q).symm;refine Gk (fun w c=>c.blkVec Rf.cells ([s.a]:List Rf) Z Rf.cells_len (nl Z)) (kp [2,0,1] Z (Gc f (fun z B v=>have o:=Cn v;Az Z Z (fun w c=>?_))));exact⟨((Fe i 1 1),z),Z,c.pick [0] Ai,o⟩
 refine sr (wf I0 Z (wl pl3 Z (Aq 0 Z Z) (wq Z (QV.gtr Z Z Z Z) (wa Z (nt ?_)))));refine wc Z h (fun l t=>?_) (fun l p=>?_)
 ·skip
  refine sr (wf Tk Z (wq Z (Af N6 Z Z Z (cu 1 2 (Ac 0 Z) Z)) (wf U6 Z (wq Z (Af N6 Z Z Z (cu 3 2 (Ac 0 Z) Z)) (Ab Z ((D4 Ai A3o Ai Ai (ps:=[(0,.tmp 15),(1,.tmp 17)]) (cells:=[i_ s.a.st,i_ s.a.bk,i_ s.b.st,i_ s.b.bk]) (ea Z) Ag (fun j=>wa Z (nt (Bc (kr (tr ?_))))))))))));obtain rfl:=(Ad t).symm;refine Gk (fun w c=>c.blkVec Rf.cells ([s.a,s.b]:List Rf) Z Rf.cells_len (nl Z)) (kp [2,0,1] Z (Gc f (fun y A u=>have m:=Cn u;Az Z Z (fun w c=>?_))));exact⟨((Fe j 2 2),y),Z,c.pick [0] Ai,m⟩
 refine sk (Bd (Al (sr (wa Z (nt (Bc ?_))))));obtain rfl:=(Ad p).symm;refine Az Z Z (fun w c=>?_);exact⟨(.slice none 0 0,d),Z,c.pick [1] Ai,Gd⟩
theorem Ary {n m o:Ak}{l:Lp}{k:Int}{d:Rf}{r:Bool} (w:Aj) (c:Sg l k d=some r) (A:Arr w n 1 (l.logs.map Ar)) (q:Arr w m 9 (l.body.map Stm.cells)) (B:Arr w o 1 (l.outs.map Ar)):Calls Tryz.prog 97 #[.agg #[n,m,o],.int .i64 k,.agg #[.int .i64 d.st,.int .i64 d.bk]] w (fun e w'=>e=.returned (.bool r)∧Grow w w'):=by
 unfold Sg at c;refine have s:=D2 (w:=w);cw 24 Tryz.func97 Z (sr (Ab Z ((A3 Ai Z Z (fun b1=>Ab Z ((A3 Ai Z Z (fun b2=>wa Z (ns (wf Dj Z (wl J1 Z (Aq 1 Z Z) (wq Z (A5 Tryz.underlying45 Z Z q.lenMap) (wa Z (nt (Ax (sr (wf Qw Z (wl pl3 Z (Aq 0 Z Z) (wq Z (QV.eql Z Z Z Z) (nt ?_)))))))))))))))))))) (Aw s (D3 w));refine wc Z c (fun p i=>?_) (fun p f=>?_)
 ·skip
  refine Bo (wm Z (wa Z (ns (wf Qw Z (wl pl3 Z (Aq 0 Z Z) ?_)))));obtain⟨x5,y,j⟩:=An i;refine wq Z (QV.call Ah7 (ea Z) (fun w b=>have h:=Ky w y ;h)) ?_;refine wm Z (gP Z (QV.fieldAddr R6 Z Z) (gp Z (fun a=>Cm pl3 Z a (Aq 0 Z Z)) (gP Z (QV.move Z Z) ?_)));obtain⟨F,z,t⟩:=C5 j;refine gp Z (fun a=>QV.call Ah7 (C3 Z a (ec Z (C3 Z a eN))) (fun w b=>have h:=Ky w (z a) ;h)) ?_;refine wq Z (A8 Z Z Z (fun h=>h)) (wa Z (nt (Bc ?_)));obtain rfl:=(Ad t).symm;exact Az Z Z fun w b=>kg b
 refine sk (Al (sr (wf Qw Z (wl pl3 Z (Aq 0 Z Z) ?_))));obtain⟨C,v,g⟩:=An f;refine wq Z (QV.call Ah7 (ea Z) (fun w b=>have h:=Ky w v ;h)) ?_;refine wm Z (gP Z (QV.fieldAddr R6 Z Z) (gp Z (fun a=>Cm pl3 Z a (Aq 0 Z Z)) (gP Z (QV.move Z Z) ?_)));obtain⟨E,x,u⟩:=C5 g;refine gp Z (fun a=>QV.call Ah7 (C3 Z a (ec Z (C3 Z a eN))) (fun w b=>have h:=Ky w (x a) ;h)) ?_;refine wq Z (A8 Z Z Z (fun h=>h)) (wa Z (nt (Bc ?_)));obtain rfl:=(Ad u).symm;exact Az Z Z fun w b=>kg b
theorem Apn {P O Q:Ak}{l:Lp}{f:Int}{r:Bool} (w:Aj) (x:Ql l f=some r) (v:Arr w P 1 (l.logs.map Ar)) (k:Arr w O 9 (l.body.map Stm.cells)) (a0:Arr w Q 1 (l.outs.map Ar)):Calls Tryz.prog 57 #[.agg #[P,O,Q],.int .i64 f] w (fun e w'=>e=.returned (.bool r)∧Grow w w'):=by
 unfold Ql at x;refine have i:=D2 (w:=w);cw 132 Tryz.func57 Z (sr (Ab Z ((A3 Ai Z Z (fun b1=>wa Z (ns (wf Dj Z (wl J1 Z (Aq 0 Z Z) (wm Z (have ⟨c2,E⟩:=cs x;have ⟨c8,L⟩:=k.lenMap.ix (sz:=9) Ap c2;wq Z (Ae Wq Z Z Z Z L) (wq Z (Af N5 Z Z Z (el (Ah 1 Z i k) L c2)) (Ab Z ((Ci Ai S8 (fun c5=>Ab Z ((ew 0 (Stm.cells (ele l.body f)) S9 Z (ns (wq Z (QV.build (ps:=[]) (cells:=[i_ 0,i_ 0]) eN Ag) (Ab Z ((Ci Ai Ake (fun c6=>Ab Z ((ew 0 [i_ 0,i_ 0] Zw Z (ns (wf R5 Z (wl pl3 Z (Aq 1 Z Z) (wf Qx Z (wl Fg Z (Aq 2 Z Z) (wq Z (A5 Tryz.underlying34 Z Z v.lenMap) ?_))))))))))))))))))))))))))))))) (Aw i (D3 w));obtain⟨d5,b9,y⟩:=An E;refine wq Z (QV.call Ah7 (ea Z) (fun w d=>have h:=Ky w b9 ;h)) ?_;refine wm Z (gP Z (QV.fieldAddr Xh Z Z) (gp Z (fun c=>Cm pl3 Z c (Aq 1 Z Z)) ?_));obtain⟨d1,b4,z⟩:=C5 y;refine gp Z (fun c=>QV.call Ah7 (C3 Z c (ea Z)) (fun w d=>have h:=Ky w (b4 c) ;h)) ?_;refine wq Z (A8 Z Z Z (fun h=>h)) (wm Z (gP Z (QV.fieldAddr Xg Z Z) (gp Z (fun c=>Cm pl3 Z c (Aq 1 Z Z)) ?_)));obtain⟨d2,b5,A⟩:=C5 z;refine gp Z (fun c=>QV.call Ah7 (C3 Z c (ea Z)) (fun w d=>have h:=Ky w (b5 c) ;h)) ?_;refine wq Z (A8 Z Z Z (fun h=>h)) (wa Z (ns (wf R5 Z (wl pl3 Z (Aq 1 Z Z) (wq Z (QV.eql Z Z Z Z) (wm Z (gP Z (QV.fieldAddr Xh Z Z) (gp Z (fun c=>Cm pl3 Z c (Aq 1 Z Z)) (gp Z (fun c=>QV.eql Z c Z Z) (wq Z (A8 Z Z Z (fun h=>h)) (wm Z (gP Z (QV.fieldAddr Xg Z Z) (gp Z (fun c=>Cm pl3 Z c (Aq 1 Z Z)) (gp Z (fun c=>QV.eql Z c Z Z) (wq Z (A8 Z Z Z (fun h=>h)) (wa Z (nt (Ax (sr (wq Z (Af N5 Z Z Z (Ac 1 Z)) (Ab Z ?_)))))))))))))))))))));obtain⟨s,b6,B⟩:=An A;refine(cr [3,0,1,2] i Aqb Z (L4 b6) Z (fun c3 j n=>wq Z (A5 Tryz.underlying83 Z Z j.lenMap) (wm Z (nt ?_))));obtain⟨N,o,c1,b3⟩:=bl B;refine Dq (dt [1,2,5,6,7,8,47,48] [0,1,2,3] Z) (fun (g:Int)=>[(49,(true,i_ g))]) (fun g=>[]) (fun g m=>Cp (Hl l f s) m g=some N) (fun g=>N=.go g) 0 c1 b3 (sb Z) (pk [0,1,2,3]) ?_ ?_
 ·skip
  rintro g rfl;refine Al (Ax (Cr (sr (wf I0 Z (wl pl3 Z (Aq 2 Z Z) (wq Z (QV.eql Z Z Z Z) (wa Z (nt ?_))))))));refine wc Z o (fun S a1=>?_) (fun S C=>?_)
  ·skip
   refine sr (wm Z (wm Z (gP Z (QV.fieldAddr Tk Z Z) (gp Z (fun c=>Af N6 Z Z c (cu 1 2 (Ac 2 Z) Z)) (gP Z (Af N6 Z Z Z (Ac 1 Z)) (gp Z (fun c=>Sy Ap9 (ns:=[((ele l.body f).a).st,((ele l.body f).a).bk]) (ms:=[0,0]) Z c Z c Z Z) (wq Z (A8 Z Z Z (fun h=>h)) (wm Z (gP Z (QV.fieldAddr U6 Z Z) (gp Z (fun c=>Af N6 Z Z c (cu 3 2 (Ac 2 Z) Z)) (gP Z (Af N6 Z Z Z (Ac 1 Z)) (gp Z (fun c=>Sy Ap9 (ns:=[((ele l.body f).b).st,((ele l.body f).b).bk]) (ms:=[0,0]) Z c Z c Z Z) (wq Z (A8 Z Z Z (fun h=>h)) (wa Z (nt (Bc (kr (tr ?_))))))))))))))))));obtain rfl:=(Ad a1).symm;exact Az Z Z fun w d=>kg d
  refine sr (wf Aln Z (wl pl2 Z (Aq 2 Z Z) (wq Z (QV.neq Z Z Z Z) (wa Z (nt ?_)))));refine wc Z C (fun T a2=>?_) (fun T F=>?_)
  ·skip
   refine sr (wa Z (nt (Bc (kr (tr ?_)))));obtain rfl:=(Ad a2).symm;exact Az Z Z fun w d=>kg d
  refine sr (wf I0 Z (wl pl3 Z (Aq 2 Z Z) (wq Z (QV.eql Z Z Z Z) (wa Z (nt ?_)))));refine wc Z F (fun U a3=>?_) (fun U G=>?_)
  ·skip
   refine sr (wm Z (wm Z (gP Z (QV.fieldAddr Tk Z Z) (gp Z (fun c=>Af N6 Z Z c (cu 1 2 (Ac 2 Z) Z)) (gP Z (Af N6 Z Z Z (Ac 1 Z)) (gp Z (fun c=>Sy Ap9 (ns:=[((ele l.body f).a).st,((ele l.body f).a).bk]) (ms:=[0,0]) Z c Z c Z Z) (wq Z (A8 Z Z Z (fun h=>h)) (wm Z (gP Z (QV.fieldAddr U6 Z Z) (gp Z (fun c=>Af N6 Z Z c (cu 3 2 (Ac 2 Z) Z)) (gP Z (Af N6 Z Z Z (Ac 1 Z)) (gp Z (fun c=>Sy Ap9 (ns:=[((ele l.body f).b).st,((ele l.body f).b).bk]) (ms:=[0,0]) Z c Z c Z Z) (wq Z (A8 Z Z Z (fun h=>h)) (wa Z (nt (Bc (kr (tr ?_))))))))))))))))));obtain rfl:=(Ad a3).symm;exact Az Z Z fun w d=>kg d
  refine sr (wf I0 Z (wl pl3 Z (Aq 2 Z Z) (wq Z (QV.eql Z Z Z Z) (wa Z (nt ?_)))));refine wc Z G (fun V a4=>?_) (fun V H=>?_)
  ·skip
   refine sr (wm Z (wm Z (gP Z (QV.fieldAddr Tk Z Z) (gp Z (fun c=>Af N6 Z Z c (cu 1 2 (Ac 2 Z) Z)) (gP Z (Af N6 Z Z Z (Ac 1 Z)) (gp Z (fun c=>Sy Ap9 (ns:=[((ele l.body f).a).st,((ele l.body f).a).bk]) (ms:=[0,0]) Z c Z c Z Z) (wq Z (A8 Z Z Z (fun h=>h)) (wm Z (gP Z (QV.fieldAddr U6 Z Z) (gp Z (fun c=>Af N6 Z Z c (cu 3 2 (Ac 2 Z) Z)) (gP Z (Af N6 Z Z Z (Ac 1 Z)) (gp Z (fun c=>Sy Ap9 (ns:=[((ele l.body f).b).st,((ele l.body f).b).bk]) (ms:=[0,0]) Z c Z c Z Z) (wq Z (A8 Z Z Z (fun h=>h)) (wa Z (nt (Bc (kr (tr ?_))))))))))))))))));obtain rfl:=(Ad a4).symm;exact Az Z Z fun w d=>kg d
  refine sr (wf I0 Z (wl pl3 Z (Aq 2 Z Z) (wq Z (QV.eql Z Z Z Z) (wa Z (nt ?_)))));refine wc Z H (fun W a5=>?_) (fun W I=>?_)
  ·skip
   refine sr (wm Z (wm Z (gP Z (QV.fieldAddr U6 Z Z) (gp Z (fun c=>Af N6 Z Z c (cu 3 2 (Ac 2 Z) Z)) (gP Z (Af N6 Z Z Z (Ac 1 Z)) (gp Z (fun c=>Sy Ap9 (ns:=[((ele l.body f).b).st,((ele l.body f).b).bk]) (ms:=[0,0]) Z c Z c Z Z) (wq Z (A8 Z Z Z (fun h=>h)) (wa Z (nt (Bc (kr (tr ?_))))))))))));obtain rfl:=(Ad a5).symm;exact Az Z Z fun w d=>kg d
  refine sk (Bd (Al (sr (wm Z (wm Z (gP Z (QV.fieldAddr I0 Z Z) (gp Z (fun c=>Cm pl3 Z c (Aq 2 Z Z)) (gp Z (fun c=>Amu Z c Z Z) ?_))))))));obtain⟨d3,b7,a6⟩:=C5 I;refine gp Z (fun c=>QV.call Ah7 (C3 Z c (ea Z)) (fun w d=>have h:=Ky w (b7 c) ;h)) ?_;refine wq Z (A8 Z Z Z (fun h=>h)) (wa Z (nt (Bc ?_)));obtain rfl:=(Ad a6).symm;exact Az Z Z fun w d=>kg d
 rintro g c7 u;obtain⟨c0,d0,rfl,p,q⟩:=A2 u;unfold Hl at p;refine sr (wq Z (QV.lss Z Z Z Z) (nt (Ax ?_)));refine wc Z p (fun X a7=>?_) (fun X b2=>?_)
 ·skip
  refine sk (Al (Ax (Cr (sr (have ⟨t,J⟩:=cs a7;have ⟨c9,M⟩:=j.lenMap.ix (sz:=2) Ap t;wq Z (Ae Auj Z Z Z Z M) (wq Z (Af N6 Z Z Z (el (Ah 0 Z i j) M t)) (Ab Z ((Ci Ai Ake (fun c4=>Ab Z ((ew 0 [i_ ((ele s g).st),i_ ((ele s g).bk)] Zw Z (ns (wq Z (Af Fz Z Z Z (Ac 4 Z)) (wm Z (wq Z (Af N6 Z Z Z (Ac 0 Z)) ?_))))))))))))))));obtain⟨d4,b8,K⟩:=An J;refine wq Z (QV.call en97 (ea Z) (fun w d=>have h:=Ary w b8 ((Ah 1 Z i (v.le n)) w d) ((Ah 1 Z i (k.le n)) w d) ((Ah 1 Z i (a0.le n)) w d);h)) ?_;refine wq Z (QV.not Z Z) (nt ?_);refine wc Z K (fun Y a8=>?_) (fun Y a9=>?_)
  ·skip
   refine sr (wa Z (nt (Bc (kr (tr (tr (kr (tr (tr ?_)))))))));obtain rfl:=Dn a8 q;obtain rfl:=(Ad o).symm;exact Az Z Z fun w d=>kg d
  refine sk (Bd (Al (Bo (have ⟨R,b0⟩:=cs a9;wq Z (A6 Z Z Z Z R) (wm Z (Bm ?_))))));exact Dp (g+1) c0 (A4 b0 q) (Ck _) (sb Z) (pk [1,2,3,4])
 refine C1 (te (te (Am ?_)));exact El g (Bh b2 q) (sb Z) (pk [0,1,2,3])
theorem P0 {U T V:Ak}{l:Lp}{r:Bool} (w:Aj) (p:Ib l=some r) (k:Arr w U 1 (l.logs.map Ar)) (j:Arr w T 9 (l.body.map Stm.cells)) (n:Arr w V 1 (l.outs.map Ar)):Calls Tryz.prog 27 #[.agg #[U,T,V]] w (fun e w'=>e=.returned (.bool r)∧Grow w w'):=by
 unfold Ib at p;refine have i:=D2 (w:=w);cw 64 Tryz.func27 Z (sr (Ab Z ((A3 Ai Z Z (fun b1=>wa Z (nt (Ax (sr (wf Qx Z (wl Fg Z (Aq 0 Z Z) (wq Z (A5 Tryz.underlying34 Z Z k.lenMap) (wm Z (nt ?_))))))))))))) (Aw i (D3 w));obtain⟨R,s,c9,c1⟩:=bl p;refine Dq (dt [1,10,11] [0,1] Z) (fun (d:Int)=>[(12,(true,i_ d))]) (fun d=>[]) (fun d m=>Cp (Ke l) m d=some R) (fun d=>R=.go d) 0 c9 c1 (sb Z) (pk [0,1]) ?_ ?_
 ·skip
  rintro d rfl;refine Al (sr (wa Z (nt (Ax (sr (wf Xi Z (wl Fg Z (Aq 0 Z Z) (wq Z (A5 Tryz.underlying34 Z Z n.lenMap) (wm Z (nt ?_))))))))));obtain⟨S,u,c7,b9⟩:=bl s;refine Cj (dt [1,21,22] [0,1] Z) (fun (g:Int) (c:Int)=>[(5,(true,i_ g)),(23,(true,i_ c))]) (fun g c=>[]) (fun g c m=>Cp (Kd l) m (g,c)=some S) (fun g c=>S=.go (g,c)) (-1) 0 c7 b9 (sb Z) (pk [0,1]) ?_ ?_
  ·skip
   rintro g c rfl;refine Al (Ax (sr (wf Dj Z (wl J1 Z (Aq 0 Z Z) (wq Z (A5 Tryz.underlying45 Z Z j.lenMap) (wm Z (nt ?_)))))));obtain⟨Q,F,c8,c0⟩:=bl u;refine Dq (dt [1,39] [0,1] Z) (fun (f:Int)=>[(40,(true,i_ f))]) (fun f=>[]) (fun f m=>Cp (Hp l) m f=some Q) (fun f=>Q=.go f) 0 c8 c0 (sb Z) (pk [0,1]) ?_ ?_
   ·skip
    rintro f rfl;refine Al (sr (wf Qx Z (wl Fg Z (Aq 0 Z Z) (wq Z (A5 Tryz.underlying34 Z Z k.lenMap) (wq Z (QV.leq Z Z Z Z) (wm Z (gP Z (QV.fieldAddr Dj Z Z) (gp Z (fun b=>Cm J1 Z b (Aq 0 Z Z)) (gp Z (fun b=>A5 Tryz.underlying45 Z b j.lenMap) (gp Z (fun b=>QV.gtr Z b Z Z) (wq Z (A8 Z Z Z (fun h=>h)) (wa Z (nt (Bc ?_))))))))))))));obtain rfl:=(Ad F).symm;exact Az Z Z fun w a=>kg a
   rintro f m17 B;obtain⟨m19,d4,rfl,q,v⟩:=A2 B;unfold Hp at q;refine sr (wq Z (QV.lss Z Z Z Z) (nt (Ax ?_)));refine wc Z q (fun Y G=>?_) (fun Y a8=>?_)
   ·skip
    refine sk (Al (Ax (Cr (sr (wm Z (wa Z (ns (wf Dj Z (wl J1 Z (Aq 0 Z Z) (wq Z (A5 Tryz.underlying45 Z Z j.lenMap) (wq Z (QV.gtr Z Z Z Z) (wm Z (gN Z (Af Fz Z Z Z (Ac 0 Z)) (gN Z (QV.move Z Z) ?_))))))))))))));obtain⟨d7,c2,H⟩:=C5 G;refine gn Z (fun b=>QV.call en57 (C3 Z b (C3 Z b eN)) (fun w a=>have h:=Apn w (c2 b) ((Ah 1 Z i k) w a) ((Ah 1 Z i j) w a) ((Ah 1 Z i n) w a);h)) ?_;refine gn Z (fun b=>QV.not Z b) (wq Z (Be Z Z Z (fun h=>Fx h)) (nt ?_));refine wc Z H (fun a0 a5=>?_) (fun a0 a6=>?_)
    ·skip
     refine sr (wa Z (nt (Bc (kr (tr (tr (kr (tr (tr ?_)))))))));obtain rfl:=Dn a5 v;obtain rfl:=(Ad F).symm;exact Az Z Z fun w a=>kg a
    refine sk (Bd (Al (Bo (have ⟨W,a7⟩:=cs a6;wq Z (A6 Z Z Z Z W) (wm Z (Bm ?_))))));exact Dp (f+1) m19 (A4 a7 v) (Ck _) (sb Z) (pk [0,1])
   refine C1 (te (te (Am ?_)));exact El f (Bh a8 v) (sb Z) (pk [0,1])
  rintro g c d0 C;obtain⟨c5,d5,rfl,o,x⟩:=A2 C;unfold Kd at o;simp only at o;refine sr (wq Z (QV.lss Z Z Z Z) (nt (Ax ?_)));refine wc Z o (fun a1 I=>?_) (fun a1 b4=>?_)
  ·skip
   refine sk (Al (Ax (Cr (sr ?_))));obtain⟨z,a9⟩:=cs I;obtain⟨d2,O⟩:=n.lenMap.ix (sz:=1) Ap z;refine wq Z (Ae Fy Z Z Z Z O) (wl pl3 Z (cl 0 (Ah 1 Z i n) O z Z) (wa Z (nt (Ax (sr (wm Z (wm Z (have ⟨c46,J⟩:=cs a9;wq Z (A6 Z Z Z Z c46) (wf Dj Z (wl J1 Z (Aq 0 Z Z) (wq Z (A5 Tryz.underlying45 Z Z j.lenMap) ?_)))))))))));obtain⟨d8,c3,K⟩:=An J;refine wq Z (QV.call Ah7 (ea Z) (fun w a=>have h:=Ky w c3 ;h)) ?_;refine wq Z (QV.not Z Z) (nt ?_);refine wc Z K (fun a2 b0=>?_) (fun a2 b2=>?_)
   ·skip
    refine sr (wa Z (nt (Bc (tr (kr (tr (tr (kr (tr (tr ?_))))))))));obtain rfl:=Dn b0 x;obtain rfl:=(Ad u).symm;exact Az Z Z fun w a=>kg a
   refine sk (Al (Bo (wm Z (wa Z (Bm (Bd (Al (Bo (have ⟨X,b3⟩:=cs b2;wq Z (A6 Z Z Z Z X) (wm Z (Bm ?_)))))))))));exact B1 (ele l.outs c) (c+1) c5 (A4 b3 x) (Ck _) (sb Z) (pk [0,1])
  refine C1 (te (te (Am ?_)));exact Ct g c (Bh b4 x) (sb Z) (pk [0,1])
 rintro d d1 E;obtain⟨c6,d6,rfl,t,y⟩:=A2 E;unfold Ke at t;refine sr (wq Z (QV.lss Z Z Z Z) (nt (Ax ?_)));refine wc Z t (fun a3 L=>?_) (fun a3 b8=>?_)
 ·skip
  refine sk (Al (Ax (Cr (sr ?_))));obtain⟨A,M⟩:=cs L;obtain⟨d3,P⟩:=k.lenMap.ix (sz:=1) Ap A;refine wq Z (Ae Fy Z Z Z Z P) (wl pl3 Z (cl 0 (Ah 1 Z i k) P A Z) (wa Z (ns (wm Z ?_))));obtain⟨d9,c4,N⟩:=An M;refine wq Z (QV.call Ah7 (ea Z) (fun w a=>have h:=Ky w c4 ;h)) ?_;refine wq Z (QV.not Z Z) (nt ?_);refine wc Z N (fun a4 b5=>?_) (fun a4 b6=>?_)
  ·skip
   refine sr (wa Z (nt (Bc (kr (tr (tr (kr (tr (tr ?_)))))))));obtain rfl:=Dn b5 y;obtain rfl:=(Ad s).symm;exact Az Z Z fun w a=>kg a
  refine sk (Bd (Al (Bo (have ⟨c75,b7⟩:=cs b6;wq Z (A6 Z Z Z Z c75) (wm Z (Bm ?_))))));exact Dp (d+1) c6 (A4 b7 y) (Ck _) (sb Z) (pk [0,1])
 refine C1 (te (te (Am ?_)));exact El d (Bh b8 y) (sb Z) (pk [0,1])
theorem Apo {M L N O P:Ak}{l:Lp}{s:Sta}{r:Bool} (w:Aj) (k:Ow l s=some r) (g:Arr w M 1 (l.logs.map Ar)) (y:Arr w L 9 (l.body.map Stm.cells)) (a3:Arr w N 1 (l.outs.map Ar)) (i:RowsA w O s.bef) (j:RowsA w P s.mem):Calls Tryz.prog 70 #[.agg #[M,L,N],.agg #[O,P]] w (fun e w'=>e=.returned (.bool r)∧Grow w w'):=by
 unfold Ow at k;refine have f:=D2 (w:=w);cw 59 Tryz.func70 Z (sr (Ab Z ((A3 Ai Z Z (fun b1=>Ab Z ((A3 Ai Z Z (fun b2=>wa Z (nt (Ax (sr (wq Z (Af Fz Z Z Z (Ac 1 Z)) ?_)))))))))))) (Aw f (D3 w));obtain⟨d5,c2,E⟩:=An k;refine wq Z (QV.call Auq (ea Z) (fun w b=>have h:=P0 w c2 ((Ah 2 Z f g) w b) ((Ah 2 Z f y) w b) ((Ah 2 Z f a3) w b);h)) ?_;refine wq Z (QV.not Z Z) (wm Z (gN Z (QV.fieldAddr Vi Z Z) (gn Z (fun a=>Cm Nn Z a (Aq 0 Z Z)) (gn Z (fun a=>A5 Tryz.underlying102 Z a i.slen) (gN Z (QV.fieldAddr Dj Z Z) (gn Z (fun a=>Cm J1 Z a (Aq 1 Z Z)) (gn Z (fun a=>A5 Tryz.underlying45 Z a y.lenMap) (gn Z (fun a=>QV.neq Z a Z a) (wq Z (Be Z Z Z (fun h=>Fx h)) (wm Z (gN Z (QV.fieldAddr Yn Z Z) (gn Z (fun a=>Cm Nn Z a (Aq 0 Z Z)) (gn Z (fun a=>A5 Tryz.underlying102 Z a j.slen) (gN Z (QV.fieldAddr Qx Z Z) (gn Z (fun a=>Cm Fg Z a (Aq 1 Z Z)) (gn Z (fun a=>A5 Tryz.underlying34 Z a g.lenMap) (gn Z (fun a=>QV.neq Z a Z a) (wq Z (Be Z Z Z (fun h=>Fx h)) (nt ?_)))))))))))))))))));refine wc Z E (fun Y b7=>?_) (fun Y H=>?_)
 ·skip
  refine sr (wa Z (nt (Bc (tr ?_))));obtain rfl:=(Ad b7).symm;exact Az Z Z fun w b=>kg b
 refine sk (Al (Ax (sr (wf Vi Z (wl Nn Z (Aq 0 Z Z) (wq Z (A5 Tryz.underlying102 Z Z i.slen) (wm Z (nt ?_))))))));obtain⟨K,n,c5,b8⟩:=bl H;refine Dq (dt [2,3,31,32] [0,1,2] Z) (fun (c:Int)=>[(33,(true,i_ c))]) (fun c=>[]) (fun c m=>Cp (Km s) m c=some K) (fun c=>K=.go c) 0 c5 b8 (sb Z) (pk [0,1,2]) ?_ ?_
 ·skip
  rintro c rfl;refine Al (Ax (sr (wf Yn Z (wl Nn Z (Aq 0 Z Z) (wq Z (A5 Tryz.underlying102 Z Z j.slen) (wm Z (nt ?_)))))));obtain⟨J,z,c6,b9⟩:=bl n;refine Dq (dt [2,42,43] [0,1,2] Z) (fun (d:Int)=>[(44,(true,i_ d))]) (fun d=>[]) (fun d m=>Cp (Kl l s) m d=some J) (fun d=>J=.go d) 0 c6 b9 (sb Z) (pk [0,1,2]) ?_ ?_
  ·skip
   rintro d rfl;refine Al (sr (wa Z (nt (Bc ?_))));obtain rfl:=(Ad z).symm;exact Az Z Z fun w b=>kg b
  rintro d m19 v;obtain⟨c3,d1,rfl,o,q⟩:=A2 v;unfold Kl at o;refine sr (wq Z (QV.lss Z Z Z Z) (nt (Ax ?_)));refine wc Z o (fun V A=>?_) (fun V b0=>?_)
  ·skip
   refine sk (Al (Ax (Cr (sr (wm Z ?_)))));obtain⟨Q,B⟩:=cs A;obtain⟨c8,d3,c0,a4,a1⟩:=j.ix Q;refine wq Z (Ae St Z Z Z Z c0) (wl To Z (co 0 (A1 2 Z f a4) Z) (wa Z (wa Z (ns (wm Z (wq Z (A5 Tryz.underlying43 Z Z a1.lenMap) (wf Qx Z (wl Fg Z (Aq 1 Z Z) (wm Z ?_)))))))));obtain⟨u,a6⟩:=cs B;obtain⟨c9,I⟩:=g.lenMap.ix (sz:=1) Ap u;refine wq Z (Ae Fy Z Z Z Z I) (wl pl3 Z (cl 0 (Ah 2 Z f g) I u Z) (have ⟨R,C⟩:=cs a6;wq Z (QV.shlD Z Z Z Z R) (wq Z (QV.neq Z Z Z Z) (nt ?_))));refine wc Z C (fun W a7=>?_) (fun W a8=>?_)
   ·skip
    refine sr (wa Z (nt (Bc (kr (tr (tr (kr (tr (tr ?_)))))))));obtain rfl:=Dn a7 q;obtain rfl:=(Ad z).symm;exact Az Z Z fun w b=>kg b
   refine sk (Bd (Al (Bo (have ⟨S,a9⟩:=cs a8;wq Z (A6 Z Z Z Z S) (wm Z (Bm ?_))))));exact Dp (d+1) c3 (A4 a9 q) (Ck _) (sb Z) (pk [0,1,2])
  refine C1 (te (te (Am ?_)));exact El d (Bh b0 q) (sb Z) (pk [0,1,2])
 rintro c c7 x;obtain⟨c4,d2,rfl,p,t⟩:=A2 x;unfold Km at p;refine sr (wq Z (QV.lss Z Z Z Z) (nt (Ax ?_)));refine wc Z p (fun X F=>?_) (fun X b6=>?_)
 ·skip
  refine sk (Al (Ax (Cr (sr ?_))));obtain⟨T,G⟩:=cs F;obtain⟨d0,d4,c1,a5,a2⟩:=i.ix T;refine wq Z (Ae St Z Z Z Z c1) (wl To Z (co 0 (A1 2 Z f a5) Z) (wa Z (ns (wm Z (wq Z (A5 Tryz.underlying43 Z Z a2.lenMap) (wq Z (QV.neq Z Z Z Z) (nt ?_)))))));refine wc Z G (fun a0 b3=>?_) (fun a0 b4=>?_)
  ·skip
   refine sr (wa Z (nt (Bc (kr (tr (tr (kr (tr (tr ?_)))))))));obtain rfl:=Dn b3 t;obtain rfl:=(Ad n).symm;exact Az Z Z fun w b=>kg b
  refine sk (Bd (Al (Bo (have ⟨U,b5⟩:=cs b4;wq Z (A6 Z Z Z Z U) (wm Z (Bm ?_))))));exact Dp (c+1) c4 (A4 b5 t) (Ck _) (sb Z) (pk [0,1,2])
 refine C1 (te (te (Am ?_)));exact El c (Bh b6 t) (sb Z) (pk [0,1,2])
end Go.Proofs.YtaimbkndebaaiaaGreatDoor
end
section
namespace Go.Proofs.YtaimbkndebaaiaaGreatDoor
open Go.Rd
open TLib TLibR TLibA TSay TNum0 TNum TLoop
namespace TPar
theorem ag50:Rs Tryz.prog 50 2:=⟨_,Tryz.underlying50,rfl,Ag⟩
theorem A09:Go.Rd.Enters Tryz.prog 12:=eT Tryz.func12
theorem en142:Go.Rd.Enters Tryz.prog 142:=eT Tryz.func142
theorem en143:Go.Rd.Enters Tryz.prog 143:=eT Tryz.func143
theorem en144:Go.Rd.Enters Tryz.prog 144:=eT Tryz.func144
theorem en145:Go.Rd.Enters Tryz.prog 145:=eT Tryz.func145
theorem en21:Go.Rd.Enters Tryz.prog 21:=eT Tryz.func21
theorem en26:Go.Rd.Enters Tryz.prog 26:=eT Tryz.func26
theorem en54:Go.Rd.Enters Tryz.prog 54:=eT Tryz.func54
theorem A05:Go.Rd.Enters Tryz.prog 55:=eT Tryz.func55
theorem en94:Go.Rd.Enters Tryz.prog 94:=eT Tryz.func94
theorem en95:Go.Rd.Enters Tryz.prog 95:=eT Tryz.func95
theorem en96:Go.Rd.Enters Tryz.prog 96:=eT Tryz.func96
theorem Ps:B8 Tryz.prog 77 0 0:=fT 2 Tryz.underlying77
theorem A3y:No Tryz.prog 176:=⟨_,Tryz.underlying176,rfl⟩
theorem pl178:No Tryz.prog 178:=⟨_,Tryz.underlying178,rfl⟩
theorem A3u:I1 Tryz.prog 177 176 1:=⟨Tryz.underlying177,Ag⟩
theorem A3t:I1 Tryz.prog 179 178 1:=⟨Tryz.underlying179,Ag⟩
theorem sz2:Dg Tryz.prog 2 1:=by unfold Dg;kernel_rfl
theorem sz3:Dg Tryz.prog 3 1:=by unfold Dg;kernel_rfl
theorem Ah4:Dg Tryz.prog 34 1:=by unfold Dg;kernel_rfl
theorem sz45:Dg Tryz.prog 45 1:=by unfold Dg;kernel_rfl
theorem Awt:Dg Tryz.prog 47 3:=by unfold Dg;kernel_rfl
theorem A0z:Dg Tryz.prog 50 2:=by unfold Dg;kernel_rfl
theorem A47:O4 Tryz.prog 177 176 1 [.pointer none]:=⟨Tryz.underlying177,Ag⟩
theorem A46:O4 Tryz.prog 179 178 1 [.pointer none]:=⟨Tryz.underlying179,Ag⟩
theorem Aw6:O4 Tryz.prog 45 82 9 [.int .i64 0,.int .i64 0,.int .i64 0,.int .i64 0,.int .i64 0,.int .i64 0,.int .i64 0,.int .i64 0,.int .i64 0]:=⟨Tryz.underlying45,Ag⟩
theorem ve45:Ws Tryz.prog 45 82 9 72:=⟨Tryz.underlying45,Ag,Ai⟩
theorem ze47:ZeroT Tryz.prog 47 [.slice none 0 0,.slice none 0 0,.slice none 0 0]:=by unfold ZeroT;kernel_rfl
theorem ze50:ZeroT Tryz.prog 50 [.int .i64 0,.int .i64 0]:=by unfold ZeroT;kernel_rfl
end TPar
open TPar
theorem Ab6 {s:List UInt8}{most:Int}{r:Int×Bool} (w:Aj) (c:Kj s most=some r) (k:Glb Tryz.prog w):Calls Tryz.prog 95 #[Cs s,.int .i64 most] w (fun e w'=>e=.returned (.tuple #[.int .i64 r.1,.bool r.2])∧Grow w w'):=by
 unfold Kj at c;refine have f:=D2 (w:=w);cw 29 Tryz.func95 Z (have d:=Zb k;sr (wa Z (wa Z (ns (wm Z (Ab Z ?_)))))) (Aw f (D3 w));obtain⟨t,m,g⟩:=An c;refine(cqG d f en143 Z (Asl m) Z (fun p j q=>wm Z (wq Z (Bp Z Z Z) (wq Z (Bp Z Z Z) (wa Z (wa Z (ns (wm Z (wm Z (wq Z (Awj Tryz.underlying118 Z Z j) (wm Z (gP Z (QV.move Z Z) ?_))))))))))));obtain⟨x5,n,i⟩:=C5 g;refine gp Z (fun a=>QV.call en144 (C3 Z a eN) (fun w b=>have h:=Aia w (n a) (d.at b);h)) ?_;refine gP Z (QV.move Z Z) (gp Z (fun a=>Ey Z a Z a) (wq Z (A8 Z Z Z (fun h=>h)) (wm Z (gP Z (QV.move Z Z) ?_))));obtain⟨u,o,l⟩:=C5 i;refine gp Z (fun a=>QV.call en91 (C3 Z a (ea Z)) (fun w b=>have h:=V7 w (o a) ;h)) ?_;refine gp Z (fun a=>Ro Tryz.underlying9 Z a) (gP Z (QV.move Z Z) (gp Z (fun a=>QV.leq Z a Z a) (wq Z (A8 Z Z Z (fun h=>h)) (wa Z (wa Z (nt (Bc ?_)))))));obtain rfl:=(Ad l).symm;exact Ei Z Z Z fun w b=>kg b
theorem Ri {s:List UInt8}{r:Int×Bool} (w:Aj) (a:Fh s=some r) (d:Glb Tryz.prog w):Calls Tryz.prog 55 #[Cs s] w (fun e w'=>e=.returned (.tuple #[.int .i64 r.1,.bool r.2])∧Grow w w'):=by
 unfold Fh at a;refine have f:=D2 (w:=w);cw 13 Tryz.func55 Z (have c:=Zb d;sr (wa Z (wa Z (ns (wm Z ?_))))) (Aw f (D3 w));obtain⟨j,i,g⟩:=An a;refine wq Z (QV.call en95 (ea Z) (fun w b=>have h:=Ab6 w i (c.at b);h)) ?_;refine wm Z (wq Z (Bp Z Z Z) (wq Z (Bp Z Z Z) (wa Z (wa Z (ns (wm Z (wm Z (wa Z (wa Z (nt (Bc ?_)))))))))));obtain rfl:=(Ad g).symm;exact Ei Z Z Z fun w b=>kg b
theorem Amz {s:List UInt8}{r:Rf×Bool} (w:Aj) (d:Mp s=some r) (n:Glb Tryz.prog w):Calls Tryz.prog 96 #[Cs s] w (fun e w'=>e=.returned (.tuple #[.agg #[.int .i64 r.1.st,.int .i64 r.1.bk],.bool r.2])∧Grow w w'):=by
 unfold Mp at d;refine have o:=D2 (w:=w);cw 53 Tryz.func96 Z (have c:=Zb n;sr (Ab Z ((Ci Ai Ake (fun b1=>wa Z (ns (wm Z ?_))))))) (Aw o (D3 w));obtain⟨z,u,i⟩:=An d;refine wq Z (QV.call en21 (ea Z) (fun w a=>have h:=Aer w u ;h)) ?_;refine wm Z (wq Z (Bp Z Z Z) (wq Z (Bp Z Z Z) (wa Z (wa Z (ns (wm Z ?_))))));obtain⟨x5,v,j⟩:=An i;refine wq Z (QV.call en145 (ea Z) (fun w a=>have h:=Cut_w w v (c.at a);h)) ?_;refine wm Z (wq Z (Bp Z Z Z) (wq Z (Bp Z Z Z) (wq Z (Bp Z Z Z) (wa Z (wa Z (wa Z (ns (wm Z ?_))))))));obtain⟨b,x,f⟩:=An j;refine wq Z (QV.call A05 (ea Z) (fun w a=>have h:=Ri w x (c.at a);h)) ?_;refine wm Z (wq Z (Bp Z Z Z) (wq Z (Bp Z Z Z) (wa Z (wa Z (ns (wm Z (wq Z (QV.build (ps:=[(0,.tmp 30)]) (cells:=[i_ b.1,i_ 0]) (ea Z) Ag) (Ab Z ((Ci Ai Ake (fun y=>Ab Z ((ew 0 [i_ b.1,i_ 0] Zw Z (nt (Ax (sr (wm Z (nt ?_))))))))))))))))));refine wc Z f (fun l g=>?_) (fun l q=>?_)
 ·skip
  refine sr (wm Z ?_);obtain⟨k,t,p⟩:=An g;refine wq Z (QV.call A05 (ea Z) (fun w a=>have h:=Ri w t (c.at a);h)) ?_;refine wm Z (wq Z (Bp Z Z Z) (wq Z (Bp Z Z Z) (wa Z (wa Z (ns (wm Z (wf Qw Z (Ab Z ((ew 0 [i_ k.1] sz3 Z (nr (wm Z (wm Z (gP Z (QV.move Z Z) (wq Z (A8 Z Z Z (fun h=>h)) (wm Z (gP Z (QV.move Z Z) (gp Z (fun m=>QV.gtr Z m Z Z) (wq Z (A8 Z Z Z (fun h=>h)) (wa Z (ns (wq Z (Af N6 Z Z Z (Ac 0 Z)) (wm Z (wm Z (gP Z (QV.move Z Z) (wq Z (A8 Z Z Z (fun h=>h)) (Ab Z ((ew 1 [i_ b.1,i_ k.1] Zw Z (wa Z (nt (Bc ?_))))))))))))))))))))))))))))))));obtain rfl:=(Ad p).symm;exact Db Z N6 Z Z Z (Ac 1 Z) fun w a=>kg a
 refine sk (Al (sr (wq Z (Af N6 Z Z Z (Ac 0 Z)) (wm Z (wm Z (gP Z (QV.move Z Z) (wq Z (A8 Z Z Z (fun h=>h)) (Ab Z ((ew 1 [i_ b.1,i_ 0] Zw Z (wa Z (nt (Bc ?_)))))))))))));obtain rfl:=(Ad q).symm;exact Db Z N6 Z Z Z (Ac 1 Z) fun w a=>kg a
theorem Amy {word:List UInt8}{r:Int×List UInt8×Bool} (w:Aj) (f:Pb word=some r) (I:Glb Tryz.prog w):Calls Tryz.prog 94 #[Cs word] w (fun e w'=>e=.returned (.tuple #[.int .i64 r.1,Cs r.2.1,.bool r.2.2])∧Grow w w'):=by
 unfold Pb at f;refine have d:=D2 (w:=w);cw 30 Tryz.func94 Z (have H:=Zb I;sr (wa Z (wa Z (wa Z (nt (Ax (sr (wm Z (nt (Cr (sr (wq Z (Ey Z Z Z Z) (wa Z (nt ?_)))))))))))))) (Aw d (D3 w));refine wc Z f (fun A K=>?_) (fun A p=>?_)
 ·skip
  refine sr (wa Z (wa Z (wa Z (nt (Bc (kr (tr ?_)))))));obtain rfl:=(Ad K).symm;exact N1 Z Z Z Z fun w a=>kg a
 refine sr (wq Z (Ey Z Z Z Z) (wa Z (nt ?_)));refine wc Z p (fun F Q=>?_) (fun F s=>?_)
 ·skip
  refine sr (wa Z (wa Z (wa Z (nt (Bc (kr (tr ?_)))))));obtain rfl:=(Ad Q).symm;exact N1 Z Z Z Z fun w a=>kg a
 refine sr (wq Z (Ey Z Z Z Z) (wa Z (nt ?_)));refine wc Z s (fun G R=>?_) (fun G t=>?_)
 ·skip
  refine sr (wa Z (wa Z (wa Z (nt (Bc (kr (tr ?_)))))));obtain rfl:=(Ad R).symm;exact N1 Z Z Z Z fun w a=>kg a
 refine sr (wq Z (Ey Z Z Z Z) (wa Z (nt ?_)));refine wc Z t (fun B J=>?_) (fun B k=>?_)
 ·skip
  refine sr (wa Z (wa Z (wa Z (nt (Bc (kr (tr ?_)))))));obtain rfl:=(Ad J).symm;exact N1 Z Z Z Z fun w a=>kg a
 refine sk (Bd (Al (Ax (sr (Ab Z ?_)))));obtain⟨W,T,l⟩:=An k;refine(cqG H d en142 Z (A0v T) Z (fun X c Y=>wq Z (A5 Tryz.underlying22 Z Z c.lenMap) (wm Z (nt ?_))));obtain⟨v,n,V,S⟩:=bl l;refine Dq (dt [0,16,17] [0] Z) (fun (b:Int)=>[(18,(true,i_ b))]) (fun b=>[]) (fun b m=>Cp (Gq word W) m b=some v) (fun b=>v=.go b) 0 V S (sb Z) (pk [0]) ?_ ?_
 ·skip
  rintro b rfl;refine Al (sr (wa Z (wa Z (wa Z (nt (Bc ?_))))));obtain rfl:=(Ad n).symm;exact N1 Z Z Z Z fun w a=>kg a
 rintro b a0 j;obtain⟨U,a2,rfl,g,h⟩:=A2 j;unfold Gq at g;refine sr (wq Z (QV.lss Z Z Z Z) (nt (Ax ?_)));refine wc Z g (fun C o=>?_) (fun C P=>?_)
 ·skip
  refine sk (Al (Ax (Cr (sr (wm Z ?_)))));obtain⟨i,q⟩:=cs o;obtain⟨a1,u⟩:=c.lenMap.ix (sz:=1) Ap i;refine wq Z (Ae Ta Z Z Z Z u) (wl pl9 Z (cl 0 (Ah 0 Z d c) u i Z) (wa Z (wa Z (ns (wm Z (wm Z (wq Z (Ey Z Z Z Z) (nt ?_))))))));refine wc Z q (fun E L=>?_) (fun E N=>?_)
  ·skip
   refine sr (wm Z (have ⟨x,y,M⟩:=cs2 L;wq Z (A6 Z Z Z Z x) (wq Z (A6 Z Z Z Z y) (wa Z (wa Z (wa Z (nt (Bc (kr (tr (tr (kr (tr (tr ?_))))))))))))));obtain rfl:=Dn M h;obtain rfl:=(Ad n).symm;exact N1 Z Z Z Z fun w a=>kg a
  refine sk (Bd (Al (Bo (have ⟨z,O⟩:=cs N;wq Z (A6 Z Z Z Z z) (wm Z (Bm ?_))))));exact Dp (b+1) U (A4 O h) (Ck _) (sb Z) (pk [0])
 refine C1 (te (te (Am ?_)));exact El b (Bh P h) (sb Z) (pk [0])
theorem Aas {z v A:Ak}{J:Nat}{d2:Ak}{G:List Int}{p:List Stm}{H:List Int}{words:List (List UInt8)}{r:Bool×List Stm}{x:Aj} (O:Ir G p H words=some r) (h8:SliceLen z G.length) (L:SliceLen v p.length) (f3:SliceLen A H.length) (t:Arr x d2 1 (words.map Wi)) (M:Nat→Prop) (w:Aj) (C:GlbM Tryz.prog M w) (o:Base M x w) (h0:Own M w [blk J [z,v,A] 77,vec z 3 1 (List.map Ar G),vec v 82 9 (List.map Stm.cells p),vec A 3 1 (List.map Ar H)] w):Calls Tryz.prog 54 #[.pointer (some (⟨J,0,none⟩)),d2] w (fun e w'=>∃ X:Ak×Aj,e=.returned (.bool r.1)∧Own M w (kn M w.heap.size x X.2::[blk J [z,X.1,A] 77,vec z 3 1 (List.map Ar G),vec A 3 1 (List.map Ar H),vec X.1 82 9 (List.map Stm.cells r.2)]) w'∧SliceLen X.1 (r.2).length):=by
 unfold Ir at O;refine cw 121 Tryz.func54 Z (sr (wa Z (ns (wm Z ?_)))) (Aw o h0);obtain⟨c1,a7⟩:=cs O;obtain⟨i2,c3⟩:=t.lenMap.ix (sz:=1) Ap c1;refine wq Z (Ae Ta Z Z Z Z c3) (wl pl9 Z (cl 0 (Ah 0 Z o t) c3 c1 Z) ?_);obtain⟨x5,h2,g1⟩:=An a7;refine wq Z (QV.call en94 (ea Z) (fun w b=>have h:=Amy w h2 (C.at b);h)) ?_;refine wm Z (wq Z (Bp Z Z Z) (wq Z (Bp Z Z Z) (wq Z (Bp Z Z Z) (wa Z (wa Z (wa Z (nt (Ax (sr (wm Z (wq Z (QV.not Z Z) (wm Z (gN Z (QV.move Z Z) (gn Z (fun a=>A5 Tryz.underlying22 Z a t.lenMap) (have ⟨c8,b9⟩:=cs g1;gn Z (fun a=>Du Z a Z Z (c8 a)) (gN Z (QV.move Z Z) (gn Z (fun a=>Ro Tryz.underlying9 Z a) (gn Z (fun a=>QV.neq Z a Z a) (wq Z (Be Z Z Z (fun h=>Fx h)) (wm Z (gN Z (QV.move Z Z) (gn Z (fun a=>QV.nilCheck Z a) (gn Z (fun a=>QV.fieldAddr Ps Z a) (gn Z (fun a=>QV.fieldAddr Xi Z a) (gn Z (fun a=>Cm Fg Z a (Aq 1 Z Z)) (gn Z (fun a=>A5 Tryz.underlying34 Z a f3) (gn Z (fun a=>QV.gtr Z a Z Z) (wq Z (Be Z Z Z (fun h=>Fx h)) (nt ?_)))))))))))))))))))))))))))));refine wc Z b9 (fun e3 f6=>?_) (fun e3 a4=>?_)
 ·skip
  refine sr (wa Z (nt (Bc (tr ?_))));obtain rfl:=(Ad f6).symm;refine Az Z Z (fun w b=>?_);exact⟨(v,x),Z,b.pick [0,1,2,4,3] Ai,L⟩
 refine sk (Al (sr (wm Z (wq Z (QV.build (ps:=[(0,.tmp 40)]) (cells:=[i_ x5.1,i_ 0,i_ 0,i_ 0,i_ 0,i_ 0,i_ 0,i_ 0,i_ 0]) (ea Z) Ag) (Ab Z ((Ci Ai S8 (fun i=>Ab Z ((ew 0 [i_ x5.1,i_ 0,i_ 0,i_ 0,i_ 0,i_ 0,i_ 0,i_ 0,i_ 0] S9 Z (nt (Ax (sr (wm Z (wq Z (QV.eql Z Z Z Z) (nt ?_))))))))))))))));refine wc Z a4 (fun e4 a5=>?_) (fun e4 f8=>?_)
 ·skip
  refine sr (wm Z ?_);obtain⟨R,a6⟩:=cs a5;obtain⟨i1,c2⟩:=t.lenMap.ix (sz:=1) Ap R;refine wq Z (Ae Ta Z Z Z Z c2) (wl pl9 Z (cl 0 (Ah 1 Z o t) c2 R Z) ?_);obtain⟨B,h1,a8⟩:=An a6;refine wq Z (QV.call en95 (ea Z) (fun w b=>have h:=Ab6 w h1 (C.at b);h)) ?_;refine wm Z (wq Z (Bp Z Z Z) (wq Z (Bp Z Z Z) (wf Aln Z (Ab Z ((ew 0 [i_ B.1] sz2 Z (wa Z (nt (Ax (dp 13 [1,0,2,3,5] Z (zm 0 Z Z (zm 1 Z Z (wz 2 Z Z (QV.nilCheck Z Z) (zf 3 Ps Z Z (zf 4 Dj Z Z (zl 5 J1 Z Z (Aq 2 Z Z) (wz 6 Z Z (Af N5 Z Z Z (Ac 1 Z)) (Dd 7 Z Ag Z ((D4 Ai Aw6 Ai Ai (ps:=[(0,.tmp 58)]) (cells:=[i_ x5.1,i_ 0,i_ 0,i_ 0,i_ 0,i_ 0,i_ 0,i_ 0,i_ B.1]) (ea Z) Ag (fun h6=>bp [2,0,1,3,4,6] Z (pk [0,2,3,4,5]) (Dd 8 Z Ag Z ?_))))))))))))))))))))));obtain⟨S,f7⟩:=cs a8;refine(B0 (enc:=Stm.cells) (xs:=p) (ys:=[(Stm.mk x5.1 (Rf.mk 0 0) (Rf.mk 0 0) 0 0 0 B.1)]) ((p++[(Stm.mk x5.1 (Rf.mk 0 0) (Rf.mk 0 0) 0 0 0 B.1)])) 5 Ai ve45 Z Z Z Z Z (Bi 0 (rows:=[(Stm.mk x5.1 (Rf.mk 0 0) (Rf.mk 0 0) 0 0 0 B.1)].map Stm.cells) Z Z (B3 Anh)) Anh (Stm.cells_one _) Z S.1 S.2 (fun d0 P=>bp [2,0,1,3,4,5,6] Z (pk [0,1,2,3,4,6]) (wz 9 Z Z (QV.nilCheck Z Z) (zf 10 Ps Z Z (zf 11 Dj Z Z (WD.l 12 Z Ag Z ((ex 3 [d0] (Hz P) sz45 (oc (De P) Cg) Z (Al (sr (wm Z (wa Z (nt (Bc (tr ?_)))))))))))))));obtain rfl:=(Ad f7).symm;refine Az Z Z (fun w b=>?_);exact⟨(d0,x),Z,b.pick [2,3,4,6,5] Ai,P⟩
 refine sk (Al (sr (wf R5 Z (wf Xh Z (wf Xg Z (Ab Z ((D4 Ai A47 Ai Ai (ps:=[(0,.tmp 65),(1,.tmp 66),(2,.tmp 67)]) (cells:=[.pointer (some (⟨i,5,none⟩)),.pointer (some (⟨i,6,none⟩)),.pointer (some (⟨i,7,none⟩))]) (ea Z) Ag (fun d4=>Gk (fun w b=>b.blkVec (Afo i) (([5,6,7]:List Int):List Int) Z Aje (nl Z)) (kp [2,0,1,3,4,5,6] Z (Gc o (fun h9 a3 g8=>have e9:=Cn g8;wf Tk Z (wf U6 Z (Ab Z ((D4 Ai A46 Ai Ai (ps:=[(0,.tmp 69),(1,.tmp 70)]) (cells:=[.pointer (some (⟨i,1,none⟩)),.pointer (some (⟨i,3,none⟩))]) (ea Z) Ag (fun d5=>Gk (fun w b=>b.blkVec (Afo i) (([1,3]:List Int):List Int) Z Aje (nl Z)) (kp [1,0,2,3,4,5,6] Z (Gc o (fun u N g9=>have f0:=Cn g9;wa Z (wa Z (nt (Ax (sr (wm Z (have ⟨T,a9⟩:=cs f8;have K:=I7 (t.le (a3.trans N)) T;wq Z (Od Ta Z Z (t.le (a3.trans N)).lenMap Z Z T) (wq Z (A5 Tryz.underlying22 Z Z K.lenMap) (wm Z (nt ?_)))))))))))))))))))))))))))));obtain⟨c9,E,h5,g7⟩:=bl a9;refine Awd (dt [0,6,8,73,74] [0,2,3,4,5] Z) (fun (d:List Int) (g:List Int) (f:List Int) (n:Int) (j:Ak) (k:Ak)=>[(9,(true,j)),(10,(true,k)),(75,(true,i_ n))]) (fun d g f n j k=>[blk i (List.map Dz d) 82]) (fun d g f n j k m=>Cp (C0 p words x5) m (d,g,f,n)=some c9∧Arr u j 1 (g.map (Afo i))∧Arr u k 1 (f.map (Afo i))) (fun d g f n j k=>c9=.go (d,g,f,n)∧Arr u j 1 (g.map (Afo i))∧Arr u k 1 (f.map (Afo i))) ([x5.1,0,0,0,0,0,0,0,0]:List Int) ([5,6,7]:List Int) ([1,3]:List Int) 0 (Fe d4 3 3) (Fe d5 2 2) h5 ⟨g7,(e9.le N),f0⟩ (sb Z) (pk [1,0,2,3,4,5]) ?_ ?_
 ·skip
  rintro d g f n j k ⟨rfl,q,s⟩;refine Al (Ax (dp 13 [1,0,2,3,5] Z (zm 0 Z Z (zm 1 Z Z (wz 2 Z Z (QV.nilCheck Z Z) (zf 3 Ps Z Z (zf 4 Dj Z Z (zl 5 J1 Z Z (Aq 2 Z Z) ?_))))))));obtain⟨d6,U,f9⟩:=cs2 E;refine wz 6 Z Z (Af (cs:=(Zi d).cells) N5 Z Z Z (Aaq (c:=Dz) (xs:=d) 1 Z (Apf d6))) (Dd 7 Z Ag Z ((D4 Ai Aw6 Ai Ai (ps:=[(0,.tmp 115)]) (cells:=(Stm.cells (Zi d))) (ea Z) Ag (fun h7=>bp [2,0,1,3,4,6] Z (pk [0,2,3,4,5]) (Dd 8 Z Ag Z ((B0 (enc:=Stm.cells) (xs:=p) (ys:=[(Zi d)]) ((p++[(Zi d)])) 5 Ai ve45 Z Z Z Z Z (Bi 0 (rows:=[(Zi d)].map Stm.cells) Z Z (B3 Anh)) Anh (Stm.cells_one _) Z U.1 U.2 (fun d1 Q=>bp [2,0,1,3,4,5,6] Z (pk [0,1,2,3,4,6]) (wz 9 Z Z (QV.nilCheck Z Z) (zf 10 Ps Z Z (zf 11 Dj Z Z (WD.l 12 Z Ag Z ((ex 3 [d1] (Hz Q) sz45 (oc (De Q) Cg) Z (Al (sr (wa Z (nt (Bc ?_)))))))))))))))))));obtain rfl:=(Ad f9).symm;refine Az Z Z (fun w b=>?_);exact⟨(d1,u),Z,b.pick [2,3,4,6,5] Ai,Q⟩
 rintro d g f n j k i0 ⟨a2,q,s⟩;obtain⟨c7,i6,rfl,F,y⟩:=A2 a2;unfold C0 at F;simp only at F;refine sr (wq Z (QV.lss Z Z Z Z) (nt (Ax ?_)));refine wc Z F (fun e5 b0=>?_) (fun e5 f5=>?_)
 ·skip
  refine sk (Al (Ax (Cr (sr (wm Z ?_)))));obtain⟨V,g0⟩:=cs b0;obtain⟨i3,c4⟩:=K.lenMap.ix (sz:=1) Ap V;refine wq Z (Ae Ta Z Z Z Z c4) (wl pl9 Z (cl 0 (Ah 1 Z o K) c4 V Z) (wa Z (wa Z (nt (Ax (sr (wm Z (wm Z (have ⟨d7,b1⟩:=cs g0;wq Z (X3 Tryz.underlying9 Z Z Z Z d7) (wq Z (QV.eql Z Z Z Z) (nt ?_)))))))))));refine wc Z b1 (fun e6 b2=>?_) (fun e6 b6=>?_)
  ·skip
   refine Ax (dp 11 [1,2,3,4,5] Z (zm 0 Z Z ?_));obtain⟨W,b3⟩:=cs b2;obtain⟨i4,c5⟩:=q.lenMap.ix (sz:=1) Ap W;refine wz 1 Z Z (Ae A3u Z Z Z Z c5) (zl 2 A3y Z Z (cl 0 (Ah 0 Z o q) c5 W Z) (zm 3 Z Z ?_));obtain⟨d3,h3,b4⟩:=An b3;refine wz 4 Z Z (QV.call A05 (ea Z) (fun w b=>have h:=Ri w h3 (C.at b);h)) ?_;refine zm 5 Z Z (wz 6 Z Z (Bp Z Z Z) (wz 7 Z Z (Bp Z Z Z) (wz 8 Z Z (QV.nilCheck Z Z) (Dd 9 Z Ag Z ?_))));obtain⟨d8,Y,b5⟩:=cs2 b4;refine(Adw (c:=Dz) (xs:=d) 0 (ele g 0) d3.1 Z Z Z Z Z Z d8 Z Z sz3 (bp [1,0,2,3,4,5] Z (pk [0,2,3,4,5]) (wz 10 Z Z (QV.assign Z Z) (Em Ag (Al (Bo (wm Z (have f1:=I7 q Y;wq Z (Od A3u Z Z q.lenMap Z Z Y) (wa Z (ns (wm Z (wq Z (QV.not Z Z) (nt ?_)))))))))))));refine wc Z b5 (fun e7 g2=>?_) (fun e7 g3=>?_)
   ·skip
    refine sr (wa Z (nt (Bc (kr (tr (tr (kr (tr (tr ?_)))))))));obtain rfl:=Dn g2 y;obtain rfl:=(Ad E).symm;refine Az Z Z (fun w b=>?_);exact⟨(v,u),Z,b.pick [1,2,3,5,4] Ai,L⟩
   refine sk (Bd (Al (Bo (have ⟨d9,g4⟩:=cs g3;wq Z (A6 Z Z Z Z d9) (wm Z (Bm ?_))))));exact Aj5 (upd d (ele g 0) d3.1) (sub g 1 (ln g)) f (n+1) (Ng j 1 (Int.toNat 1) (Int.toNat (ln g))) k c7 ⟨A4 g4 y,f1,s⟩ (Ck _) (sb Z) (pk [0,1,2,3,4,5])
  refine Ax (dp 11 [1,2,3,4,5] Z (zm 0 Z Z ?_));obtain⟨a0,b7⟩:=cs b6;obtain⟨i5,c6⟩:=s.lenMap.ix (sz:=1) Ap a0;refine wz 1 Z Z (Ae A3t Z Z Z Z c6) (zl 2 pl178 Z Z (cl 0 (Ah 0 Z o s) c6 a0 Z) (zm 3 Z Z ?_));obtain⟨I,h4,b8⟩:=An b7;refine wz 4 Z Z (QV.call en96 (ea Z) (fun w b=>have h:=Amz w h4 (C.at b);h)) ?_;refine zm 5 Z Z (wz 6 Z Z (Bp Z Z Z) (wz 7 Z Z (Bp Z Z Z) (wz 8 Z Z (QV.nilCheck Z Z) (Dd 9 Z Ag Z ?_))));obtain⟨e0,e1,a1,c0⟩:=cs3 b8;refine(Asn (xs:=d) 0 (ele f 0) I.1.st I.1.bk Z Z Z Z Z Z e0 e1 Z Zw (bp [1,0,2,3,4,5] Z (pk [0,2,3,4,5]) (wz 10 Z Z (QV.assign Z Z) (Em Ag (Al (Bo (wm Z (have f2:=I7 s a1;wq Z (Od A3t Z Z s.lenMap Z Z a1) (wa Z (ns (wm Z (wq Z (QV.not Z Z) (nt ?_)))))))))))));refine wc Z c0 (fun e8 g5=>?_) (fun e8 g6=>?_)
  ·skip
   refine sr (wa Z (nt (Bc (kr (tr (tr (kr (tr (tr ?_)))))))));obtain rfl:=Dn g5 y;obtain rfl:=(Ad E).symm;refine Az Z Z (fun w b=>?_);exact⟨(v,u),Z,b.pick [1,2,3,5,4] Ai,L⟩
  refine sk (Bd (Al (Bo (have ⟨e2,f4⟩:=cs g6;wq Z (A6 Z Z Z Z e2) (wm Z (Bm ?_))))));exact Aj5 (upd (upd d (ele f 0) I.1.st) ((ele f 0)+1) I.1.bk) g (sub f 1 (ln f)) (n+1) j (Ng k 1 (Int.toNat 1) (Int.toNat (ln f))) c7 ⟨A4 f4 y,q,f2⟩ (Ck _) (sb Z) (pk [0,1,2,3,4,5])
 refine C1 (te (te (Am ?_)));exact A29 d g f n j k ⟨Bh f5 y,q,s⟩ (sb Z) (pk [0,1,2,3,4,5])
theorem Aat {i g j:Ak}{q:Nat}{m:List Int}{y:List Stm}{n:List Int}{s:List UInt8}{r:Bool×List Int×List Stm×List Int}{z:Aj} (u:Is m y n s=some r) (o:SliceLen i m.length) (k:SliceLen g y.length) (l:SliceLen j n.length) (M:Nat→Prop) (w:Aj) (t:GlbM Tryz.prog M w) (f:Base M z w) (a9:Own M w [blk q [i,g,j] 77,vec i 3 1 (List.map Ar m),vec g 82 9 (List.map Stm.cells y),vec j 3 1 (List.map Ar n)] w):Calls Tryz.prog 26 #[.pointer (some (⟨q,0,none⟩)),Cs s] w (fun e w'=>∃ X:Ak×Ak×Ak×Aj,e=.returned (.bool r.1)∧Own M w (kn M w.heap.size z X.2.2.2::[blk q [X.1,X.2.1,X.2.2.1] 77,vec X.1 3 1 (List.map Ar r.2.1),vec X.2.1 82 9 (List.map Stm.cells r.2.2.1),vec X.2.2.1 3 1 (List.map Ar r.2.2.2)]) w'∧SliceLen X.1 (r.2.1).length∧SliceLen X.2.1 (r.2.2.1).length∧SliceLen X.2.2.1 (r.2.2.2).length):=by
 unfold Is at u;refine cw 79 Tryz.func26 Z (sr (wa Z (ns (wm Z (Ab Z ?_))))) (Aw f a9);obtain⟨c1,b1,N⟩:=An u;refine(cqG t f A09 Z (Afa b1) Z (fun p b b6=>wa Z (nt (Ax (sr (wm Z ?_))))));obtain⟨c5,Q⟩:=cs N;obtain⟨c0,U⟩:=b.lenMap.ix (sz:=1) Ap c5;refine wq Z (Ae Ta Z Z Z Z U) (wl pl9 Z (cl 0 (Ah 0 Z f b) U c5 Z) (wq Z (Y5 Z Z Z Z) (wm Z (gP Z (QV.move Z Z) ?_))));obtain⟨c9,G⟩:=cs Q;obtain⟨b7,R⟩:=b.lenMap.ixG (sz:=1) Ap c9;refine gp Z (fun a=>Ae Ta Z a Z Z (R a)) (gp Z (fun a=>Cm pl9 Z a (cl 0 (Ah 0 Z f b) (R a) (c9 a) Z)) (gp Z (fun a=>Y5 Z a Z Z) (wq Z (A8 Z Z Z (fun h=>h)) (nt ?_))));refine wc Z G (fun a0 H=>?_) (fun a0 I=>?_)
 ·skip
  refine sr (wm Z (wm Z (Ab Z ?_)));obtain⟨c2,b0,a4⟩:=An H;refine(cqG t f en54 Z (Aas b0 o k l b) Z (fun A a3 b5=>wa Z (nt (Bc (tr ?_)))));obtain rfl:=(Ad a4).symm;refine Az Z Z (fun w c=>?_);exact⟨(i,A.1,j,A.2),Z,c.pick [0,1,2,4,3] Ai,o,a3,l⟩
 refine sk (Al (Ax (sr (wm Z (wq Z (A5 Tryz.underlying22 Z Z b.lenMap) (wq Z (QV.neq Z Z Z Z) (nt ?_)))))));refine wc Z I (fun a1 a5=>?_) (fun a1 J=>?_)
 ·skip
  refine sr (wa Z (nt (Bc (tr ?_))));obtain rfl:=(Ad a5).symm;refine Az Z Z (fun w c=>?_);exact⟨(i,g,j,p.2),Z,c.pick [0,1,2,3,4] Ai,o,k,l⟩
 refine sk (Al (sr (wm Z ?_)));obtain⟨B,K⟩:=cs J;obtain⟨b8,S⟩:=b.lenMap.ix (sz:=1) Ap B;refine wq Z (Ae Ta Z Z Z Z S) (wl pl9 Z (cl 0 (Ah 0 Z f b) S B Z) ?_);obtain⟨d,b2,L⟩:=An K;refine wq Z (QV.call A05 (ea Z) (fun w c=>have h:=Ri w b2 (t.at c);h)) ?_;refine wm Z (wq Z (Bp Z Z Z) (wq Z (Bp Z Z Z) (wa Z (wa Z (nt (Ax (sr (wm Z ?_))))))));obtain⟨C,O⟩:=cs L;obtain⟨b9,T⟩:=b.lenMap.ix (sz:=1) Ap C;refine wq Z (Ae Ta Z Z Z Z T) (wl pl9 Z (cl 0 (Ah 0 Z f b) T C Z) (wq Z (Ey Z Z Z Z) (nt ?_)));refine wc Z O (fun a2 P=>?_) (fun a2 a7=>?_)
 ·skip
  refine Ax (dq 18 (zm 0 Z Z (zm 1 Z Z (zP 2 Z Z (QV.move Z Z) (zp 3 Z Z (fun a=>QV.nilCheck Z a) (zp 4 Z Z (fun a=>QV.fieldAddr Ps Z a) (zp 5 Z Z (fun a=>QV.fieldAddr Dj Z a) (zp 6 Z Z (fun a=>Cm J1 Z a (Aq 1 Z Z)) (zp 7 Z Z (fun a=>A5 Tryz.underlying45 Z a k) (zP 8 Z Z (QV.move Z Z) (zp 9 Z Z (fun a=>QV.nilCheck Z a) (zp 10 Z Z (fun a=>QV.fieldAddr Ps Z a) (zp 11 Z Z (fun a=>QV.fieldAddr Xi Z a) (zp 12 Z Z (fun a=>Cm Fg Z a (Aq 1 Z Z)) (zp 13 Z Z (fun a=>A5 Tryz.underlying34 Z a l) ?_)))))))))))))));obtain⟨Y,E,a6⟩:=cs2 P;refine zp 14 Z Z (fun a=>A6 Z a Z a (Y a)) (zp 15 Z Z (fun a=>QV.eql Z a Z Z) (wz 16 Z Z (A8 Z Z Z (fun h=>h)) (wz 17 Z Z (QV.assign Z Z) (Em Ag (Al (Bo (wm Z (wm Z (wq Z (QV.nilCheck Z Z) (wf Ps Z (wf Qx Z (wl Fg Z (Aq 1 Z Z) (wm Z (Ab Z ((D4 Ai M6 Ai Ai (ps:=[(0,.tmp 60)]) (cells:=[i_ d.1]) (ea Z) Ag (fun b3=>Ab Z ((B0 (enc:=Ar) (xs:=m) (ys:=[d.1]) ((m++[d.1])) 3 Ai Wo Z Z Z Z Z (Bi 0 (rows:=[d.1].map Ar) Z Z (B3 Bf)) Bf (Dh _) Z E.1 E.2 (fun V v=>wq Z (QV.nilCheck Z Z) (wf Ps Z (wf Qx Z (Ab Z ((ex 2 [V] (Hz v) Ah4 (oc (De v) Cg) Z (ns (wm Z (wa Z (nt (Bc ?_))))))))))))))))))))))))))))));obtain rfl:=(Ad a6).symm;refine Az Z Z (fun w c=>?_);exact⟨(V,g,j,p.2),Z,c.pick [1,2,3,4,5] Ai,v,k,l⟩
 refine Bo (wm Z (wm Z (wq Z (QV.nilCheck Z Z) (wf Ps Z (wf Xi Z (wl Fg Z (Aq 1 Z Z) (wm Z (Ab Z ((D4 Ai M6 Ai Ai (ps:=[(0,.tmp 72)]) (cells:=[i_ d.1]) (ea Z) Ag (fun b4=>Ab Z (have ⟨F,a8⟩:=cs a7;(B0 (enc:=Ar) (xs:=n) (ys:=[d.1]) ((n++[d.1])) 5 Ai Wo Z Z Z Z Z (Bi 0 (rows:=[d.1].map Ar) Z Z (B3 Bf)) Bf (Dh _) Z F.1 F.2 (fun W x=>wq Z (QV.nilCheck Z Z) (wf Ps Z (wf Xi Z (Ab Z ((ex 2 [W] (Hz x) Ah4 (oc (De x) Cg) Z (ns (wm Z (wa Z (nt (Bc ?_))))))))))))))))))))))));obtain rfl:=(Ad a8).symm;refine Az Z Z (fun w c=>?_);exact⟨(i,g,W,p.2),Z,c.pick [1,2,3,4,5] Ai,o,k,x⟩
theorem Am0 {s:List UInt8}{r:Lp×Flt}{y:Aj} (C:Mq s=some r)  (M:Nat→Prop) (w:Aj) (L:GlbM Tryz.prog M w) (n:Base M y w) (c2:Own M w [] w):Calls Tryz.prog 15 #[Cs s] w (fun e w'=>∃ X:Ak×Ak×Ak×Aj,e=.returned (.tuple #[.agg #[X.1,X.2.1,X.2.2.1],.agg #[.int .i64 r.2.code,.int .i64 r.2.at']])∧Own M w (kn M w.heap.size y X.2.2.2::[]) w'∧Arr X.2.2.2 X.1 1 (r.1.logs.map Ar)∧Arr X.2.2.2 X.2.1 9 (r.1.body.map Stm.cells)∧Arr X.2.2.2 X.2.2.1 1 (r.1.outs.map Ar)):=by
 unfold Mq at C;refine cw 54 Tryz.func15 Z (sr (Ab Z ((Ci Ai ze47 (fun b1=>Ab Z ((Ci Ai ze50 (fun b2=>ns (wm Z (Ab Z ?_)))))))))) (Aw n c2);obtain⟨H,c4,b3⟩:=An C;refine(crG [2,0,1] L n A09 Z (Afa c4) Z (fun z q d1=>wa Z (ns (wm Z (wq Z (A5 Tryz.underlying22 Z Z q.lenMap) (have ⟨c7,J,P⟩:=cs2 b3;wq Z (Du Z Z Z Z c7) (wa Z (ns (wq Z (QV.build (ps:=[]) (cells:=[.slice none 0 0,.slice none 0 0,.slice none 0 0]) eN Ag) (Ab Z ((A3 Ai Z Z (fun a0=>wa Z (nt (Ax (sr (wm Z (wm Z (have A:=I7 q J;wq Z (P6 Ta Z Z q.lenMap Z Z J) (wq Z (A5 Tryz.underlying22 Z Z A.lenMap) (wm Z (nt (Gk (fun w a=>a.vecNil (E:=3) (sz:=1) (enc:=Ar)) (Gk (fun w a=>a.vecNil (E:=82) (sz:=9) (enc:=Stm.cells)) (Gk (fun w a=>a.vecNil (E:=3) (sz:=1) (enc:=Ar)) ?_)))))))))))))))))))))))));obtain⟨Y,F,c9,b8⟩:=bl P;refine Aj8 (dt [2,3,4,5,6,18,19] [5,6] Z) (fun (j:List Int) (i:List Stm) (g:List Int) (f:Int) (d:Ak) (c:Ak) (b:Ak) (l:Aj)=>[(20,(true,i_ f))]) (fun j i g f d c b l=>[vec d 3 1 (List.map Ar j),vec c 82 9 (List.map Stm.cells i),vec b 3 1 (List.map Ar g),blk a0 [b,c,d] 77,kn M w.heap.size y l]) (fun j i g f d c b l m=>Cp (Hq H) m (j,i,g,f)=some Y∧SliceLen d j.length∧SliceLen c i.length∧SliceLen b g.length∧Le z.2 l) (fun j i g f d c b l=>Y=.go (j,i,g,f)∧SliceLen d j.length∧SliceLen c i.length∧SliceLen b g.length∧Le z.2 l) [] [] [] 0 (.slice none 0 0) (.slice none 0 0) (.slice none 0 0) z.2 c9 ⟨b8,Hg,Hg,Hg,(Jy _)⟩ (sb Z) (pk [0,1,2,3,4,5,6]) ?_ ?_
 ·skip
  rintro j i g f d c b l ⟨rfl,v,u,t,o⟩;refine Al (Ax (sr (wm Z (wm Z ?_))));obtain⟨c21,Q⟩:=cs F;obtain⟨d5,V⟩:=(q.le o).lenMap.ix (sz:=1) Ap c21;refine wq Z (Ae Ta Z Z Z Z V) (wl pl9 Z (cl 0 (Ah 4 Z n (q.le o)) V c21 Z) (wq Z (Y5 Z Z Z Z) (wm Z (gN Z (QV.move Z Z) (gn Z (fun k=>QV.nilCheck Z k) (gn Z (fun k=>QV.fieldAddr Ps Z k) (gn Z (fun k=>Af Fz Z Z k (Ac 3 Z)) ?_)))))));obtain⟨d8,c3,R⟩:=C5 Q;refine gn Z (fun k=>QV.call Auq (C3 Z k eN) (fun w a=>have h:=P0 w (c3 k) ((Df 2 Z) w a) ((Df 1 Z) w a) ((Df 0 Z) w a);h)) ?_;refine gn Z (fun k=>QV.not Z k) (wq Z (Be Z Z Z (fun h=>Fx h)) (nt ?_));refine wc Z R (fun a1 a9=>?_) (fun a1 b0=>?_)
  ·skip
   refine sr (wq Z (QV.build (ps:=[]) (cells:=[.slice none 0 0,.slice none 0 0,.slice none 0 0]) eN Ag) (wm Z (wq Z (QV.build (ps:=[(0,.const (i_ 2)),(1,.tmp 47)]) (cells:=[i_ 2,i_ ((ln H) - 1)]) (ea Z) Ag) (Ab Z ((ew 6 [.slice none 0 0,.slice none 0 0,.slice none 0 0] Awt Z (Ab Z ((ew 5 [i_ 2,i_ ((ln H) - 1)] A0z Z (nt (Bc (tr ?_))))))))))));obtain rfl:=(Ad a9).symm;refine X0 Z Fz Z Z (Ac 6 Z) ag50 Z Z (Ac 5 Z) (fun w a=>?_);exact⟨(.slice none 0 0,.slice none 0 0,.slice none 0 0,l),Z,a.pick [4] Ai,Gd,Gd,Gd⟩
  refine sk (Al (sr (wm Z (wq Z (QV.nilCheck Z Z) (wf Ps Z (wq Z (Af Fz Z Z Z (Ac 3 Z)) (wq Z (QV.build (ps:=[]) (cells:=[i_ 0,i_ 0]) eN Ag) (Ab Z ((ex 6 [b,c,d] (show Ee _=List.toArray _ from Z) Awt (oc (De t) (oc (De u) (oc (De v) Cg))) Z (Ab Z ((ew 5 [i_ 0,i_ 0] A0z Z (nt (Bc ?_)))))))))))))));obtain rfl:=(Ad b0).symm;refine kp [4,2,0,1,3,5,6] Z (Gc n (fun d2 d0 b9=>have a4:=Cn b9;kp [0,2,1,3,4,5] Z (Gc n (fun d3 a7 c0=>have a5:=Cn c0;Gc n (fun c6 O c1=>have a6:=Cn c1;X0 Z Fz Z Z (Ac 3 Z) ag50 Z Z (Ac 2 Z) (fun w a=>?_))))));exact⟨(b,c,d,c6),Z,a.pick [0] Ai,(a4.le (a7.trans O)),(a5.le O),a6⟩
 rintro j i g f d c b l d4 ⟨N,v,u,t,o⟩;obtain⟨c8,d7,rfl,x,G⟩:=A2 N;unfold Hq at x;simp only at x;refine sr (wq Z (QV.lss Z Z Z Z) (nt (Ax ?_)));refine wc Z x (fun a2 S=>?_) (fun a2 b7=>?_)
 ·skip
  refine sk (Al (Ax (Cr (sr (wm Z ?_)))));obtain⟨K,T⟩:=cs S;obtain⟨d6,W⟩:=(A.le o).lenMap.ix (sz:=1) Ap K;refine wq Z (Ae Ta Z Z Z Z W) (wl pl9 Z (cl 0 (Ah 4 Z n (A.le o)) W K Z) (wa Z (wa Z (ns (wm Z (wm Z (Ab Z ?_)))))));obtain⟨I,c5,U⟩:=An T;refine(crG [4,3,2,1,0,5,6] L n en26 Z (Aat c5 t u v) Z (fun p B a8=>wq Z (QV.not Z Z) (nt ?_)));refine wc Z U (fun a3 b4=>?_) (fun a3 b5=>?_)
  ·skip
   refine sr (wq Z (QV.build (ps:=[]) (cells:=[.slice none 0 0,.slice none 0 0,.slice none 0 0]) eN Ag) (wm Z (wq Z (QV.build (ps:=[(0,.const (i_ 2)),(1,.tmp 30)]) (cells:=[i_ 2,i_ f]) (ea Z) Ag) (Ab Z ((ew 6 [.slice none 0 0,.slice none 0 0,.slice none 0 0] Awt Z (Ab Z ((ew 5 [i_ 2,i_ f] A0z Z (nt (Bc (kr (tr (tr (kr (tr (tr ?_)))))))))))))))));obtain rfl:=Dn b4 G;obtain rfl:=(Ad F).symm;refine X0 Z Fz Z Z (Ac 6 Z) ag50 Z Z (Ac 5 Z) (fun w a=>?_);exact⟨(.slice none 0 0,.slice none 0 0,.slice none 0 0,p.2.2.2),Z,a.pick [0] Ai,Gd,Gd,Gd⟩
  refine sk (Bd (Al (Bo (have ⟨c53,b6⟩:=cs b5;wq Z (A6 Z Z Z Z c53) (wm Z (Bm ?_))))));exact Aj4 I.2.2.2 I.2.2.1 I.2.1 (f+1) p.2.2.1 p.2.1 p.1 p.2.2.2 c8 ⟨A4 b6 G,B.2.2,B.2.1,B.1,(o.trans a8)⟩ (Ck _) (sb Z) (pk [4,3,2,1,0,5,6])
 refine C1 (te (te (Am ?_)));exact At7 j i g f d c b l ⟨Bh b7 G,v,u,t,o⟩ (sb Z) (pk [0,1,2,3,4,5,6])
end Go.Proofs.YtaimbkndebaaiaaGreatDoor
end
section
namespace Go.Rd
open Go
def Abe (p:Ak×Opr×Int×Int):List Ak:=[p.1]
theorem Ajw:∀ p:Ak×Opr×Int×Int,(Abe p).length=1:=fun _=>rfl
def ClosK (fn:Nat) (c:Ak) (k:Aj) (B:List (Ak×Opr×Int×Int)):Prop:=∀ p∈B,∃ pa a b,p.1=.func (.func fn) #[] #[.pointer (some pa),c,.pointer (some a),.pointer (some b)]∧CellsAt k pa [Dz p.2.2.2] 0∧CellsAt k a p.2.1.cells 0∧CellsAt k b [Dz p.2.2.1] 0
theorem ClosK.nil {fn:Nat}{b:Ak}{k:Aj}:ClosK fn b k []:=fun p a=>by cases a
theorem ClosK.le {fn:Nat}{e:Ak}{k k':Aj}{B:List (Ak×Opr×Int×Int)} (h:ClosK fn e k B) (d:Le k k'):ClosK fn e k' B:=fun p l=>by
 obtain⟨a,b,c,f,g,i,j⟩:=h p l;exact⟨a,b,c,f,g.mono d,i.mono d,j.mono d⟩
theorem ClosK.snoc {fn:Nat}{c:Ak}{k:Aj}{B:List (Ak×Opr×Int×Int)}{pa d e:Addr}{o:Opr}{t a:Int} (h:ClosK fn c k B) (f:CellsAt k pa [Dz a] 0) (g:CellsAt k d o.cells 0) (i:CellsAt k e [Dz t] 0) :
  ClosK fn c k (B++[(.func (.func fn) #[] #[.pointer (some pa),c,.pointer (some d),.pointer (some e)],o,t,a)]):=fun p b=>by
 rcases Fw.1 b with b | b
 ·exact h p b
 ·simp at b;subst b;exact⟨pa,d,e,rfl,f,g,i⟩
theorem ClosK.ix {fn:Nat}{d:Ak}{k:Aj}{B:List (Ak×Opr×Int×Int)}{xs:List (Opr×Int×Int)} (h:ClosK fn d k B) (m:B.map (·.2)=xs) {i:Int} (hi:IX i (ln xs)) :
  ∃ pa a b,(∀ (w:Aj) (v:Ak),Arr w v 1 (B.map Abe)→∀ p,Li v i 1 p→CellsAt w p [.func (.func fn) #[] #[.pointer (some pa),d,.pointer (some a),.pointer (some b)]] 0)
   ∧ CellsAt k pa [Dz (ele xs i).2.2] 0∧CellsAt k a (ele xs i).1.cells 0∧CellsAt k b [Dz (ele xs i).2.1] 0:=by
 subst m
 have c:i.toNat<B.length:=by have:=hi.2;unfold ln at this;rw[Ge] at this;have:=hi.1;omega
 obtain⟨pa,a,b,f,g,j,l⟩:=h B[i.toNat] (Uz c)
 have e:ele (B.map (·.2)) i=B[i.toNat].2:=by unfold ele;simp[Dy,E3 c]
 refine⟨pa,a,b,fun w v n p o=>?_,by rw[e];exact g,by rw[e];exact j,by rw[e];exact l⟩;have:=n.row i.toNat (Abe B[i.toNat]) p (by simp[E3 c]) (by rwa [Adz hi.1]);rw[←f];exact this
theorem A0g {B:List (Ak×Opr×Int×Int)}{xs:List (Opr×Int×Int)}{u:Ak}{r:Opr×Int×Int} (h:B.map (·.2)=xs):(B++[(u,r)]).map (·.2)=xs++[r]:=by rw[Qh,h];rfl
theorem A24 {u:Ak}{r:Opr×Int×Int} (h:u.oneCell'=true):∀ p∈[(u,r)],∀ c∈Abe p,c.oneCell'=true:=fun p b c a=>by
 simp at b;subst b;simp[Abe] at a;subst a;exact h
theorem AL.c1 {B:List (Ak×Opr×Int×Int)}{xs:List (Opr×Int×Int)}{b:Nat} (h:B.map (·.2)=xs) (a:AL xs.length b):B.length≤maxLen:=by subst h;have:=a.1;rwa [Ge] at this
theorem AL.c2 {B:List (Ak×Opr×Int×Int)}{xs:List (Opr×Int×Int)}{b:Nat} (h:B.map (·.2)=xs) (a:AL xs.length b):B.length * b≤140737488355328:=by subst h;have:=a.2;rwa [Ge] at this
theorem Ay7 {v:Ak}{B:List (Ak×Opr×Int×Int)}{xs:List (Opr×Int×Int)} (h:B.map (·.2)=xs) (hs:SliceLen v B.length):SliceLen v xs.length:=by subst h;rwa [Ge]
end Go.Rd
end
section
namespace Go.Proofs.YtaimbkndebaaiaaGreatDoor
open Go.Rd
open TLib TLibR TLibA TSay TNum0 TNum TLoop TPar
namespace TStable
theorem Rb:Rs Tryz.prog 213 3:=⟨_,Tryz.underlying213,rfl,Ag⟩
theorem Asx:Go.Rd.Enters Tryz.prog 126:=eT Tryz.func126
theorem en159:Go.Rd.Enters Tryz.prog 159:=eT Tryz.func159
theorem A34:Go.Rd.Enters Tryz.prog 174:=eT Tryz.func174
theorem Ad9:Go.Rd.Enters Tryz.prog 175:=eT Tryz.func175
theorem en182:Go.Rd.Enters Tryz.prog 182:=eT Tryz.func182
theorem Axi:Go.Rd.Enters Tryz.prog 185:=eT Tryz.func185
theorem Amj:B8 Tryz.prog 213 0 0:=fT 0 Tryz.underlying213
theorem J0:I1 Tryz.prog 161 213 3:=⟨Tryz.underlying161,Ag⟩
theorem Ad7:Dg Tryz.prog 213 3:=by unfold Dg;kernel_rfl
end TStable
open TStable
theorem Gu {a b:Due}{r:Int} (w:Aj) (c:C6 a b=some r) :Calls Tryz.prog 126 #[.agg #[.int .i64 a.due,.int .i64 a.reg,.int .i64 a.v],.agg #[.int .i64 b.due,.int .i64 b.reg,.int .i64 b.v]] w (fun e w'=>e=.returned (.int .i64 r)∧Grow w w'):=by
 unfold C6 at c;refine have d:=D2 (w:=w);cw 10 Tryz.func126 Z (sr (Ab Z ((A3 Ai Z Z (fun b1=>Ab Z ((A3 Ai Z Z (fun b2=>wa Z (ns (wf Amj Z (wl pl3 Z (Aq 1 Z Z) (wf Amj Z (wl pl3 Z (Aq 0 Z Z) (have ⟨c3,f⟩:=cs c;wq Z (Du Z Z Z Z c3) (wa Z (nt (Bc ?_))))))))))))))))) (Aw d (D3 w));obtain rfl:=(Ad f).symm;exact Az Z Z fun w g=>kg g
theorem Eh {f:Ak}{data:List Due}{a b n:Int}{r:List Due}{h:Aj} (k:Bx data a b n=some r) (K:SliceLen f data.length) (M:Nat→Prop) (w:Aj) (L:Base M h w) (a0:Own M w [Fo f 213 3 (List.map Due.cells data)] w):Calls Tryz.prog 185 #[f,.int .i64 a,.int .i64 b,.int .i64 n,.func (.func 126) #[] #[]] w (fun e w'=>∃ X:Aj,e=.returned (.tuple #[])∧Own M w (kn M w.heap.size h X::[Fo f 213 3 (List.map Due.cells r)]) w'∧SliceLen f (r).length):=by
 unfold Bx at k;refine cw 38 Tryz.func185 Z (sr (wa Z (nt ?_))) (Aw L a0);obtain⟨C,R,a2,W⟩:=bl k;refine Cj (dt [0,1,2,3] [0] Z) (fun (d:List Due) (c:Int)=>[(10,(true,i_ c))]) (fun d c=>[Fo f 213 3 (List.map Due.cells d)]) (fun d c m=>Cp (Bw a b n) m (d,c)=some C∧SliceLen f d.length) (fun d c=>C=.go (d,c)∧SliceLen f d.length) data 0 a2 ⟨W,K⟩ (sb Z) (pk [1,0]) ?_ ?_
 ·skip
  rintro d c ⟨rfl,g⟩;obtain rfl:=(Ad R).symm;refine I5 Z (fun w Y=>?_);exact⟨h,Z,Y.pick [1,0] Ai,g⟩
 rintro d c a3 ⟨t,g⟩;obtain⟨a1,a8,rfl,j,x⟩:=A2 t;unfold Bw at j;simp only at j;refine Ax (sr (wm Z (wm Z (wq Z (QV.lss Z Z Z Z) (nt ?_)))));refine wc Z j (fun J O=>?_) (fun J V=>?_)
 ·skip
  refine sk (Al (Ax (Cr (Alu (m:=24) (fun i=>[4,5,6,7].contains i) Ag Ag Ag (Ds 0 0 1 Z Ag Z Z Z Z (QV.move Z Z) (Ds 1 1 3 Z Ag Z Z Z Z (QV.move Z Z) (Ds 2 3 7 Z Ag Z Z Z Z (QV.move Z Z) (have ⟨E,F,G,c20,P⟩:=cs4 O;Ds 3 7 15 Z Ag Z Z Z Z (A6 Z Z Z Z E) (Tv 4 15 31 Z Ag Z Z Z (QV.move Z Z) (Tv 5 31 63 Z Ag Z Z Z (QV.move Z Z) (Tv 6 63 127 Z Ag Z Z Z (QV.move Z Z) (Tv 7 127 255 Z Ag Z Z Z (A6 Z Z Z Z F) (Ds 8 255 511 Z Ag Z Z Z Z (QV.move Z Z) (Ds 9 511 1023 Z Ag Z Z Z Z (QV.move Z Z) (Ds 10 1023 2047 Z Ag Z Z Z Z (QV.move Z Z) (Ds 11 2047 4095 Z Ag Z Z Z Z (A6 Z Z Z Z G) (have ⟨a4,y⟩:=g.ix (sz:=3) Ap c20;Ds 12 4095 8191 Z Ag Z Z Z Z (Ae J0 Z Z Z Z y) (Ds 13 8191 16383 Z Ag Z Z Z Z (Af Rb Z Z Z (el (Dk 0 Z) y c20)) (Ds 14 16383 32767 Z Ag Z Z Z Z (QV.move Z Z) (Ds 15 32767 65535 Z Ag Z Z Z Z (QV.move Z Z) (Ds 16 65535 131071 Z Ag Z Z Z Z (QV.move Z Z) (have ⟨H,p,Q⟩:=cs2 P;Ds 17 131071 262143 Z Ag Z Z Z Z (A6 Z Z Z Z H) (have ⟨a5,z⟩:=g.ix (sz:=3) Ap p;Ds 18 262143 524287 Z Ag Z Z Z Z (Ae J0 Z Z Z Z z) (Ds 19 524287 1048575 Z Ag Z Z Z Z (Af Rb Z Z Z (el (Dk 0 Z) z p)) (have ⟨q,S⟩:=cs Q;have ⟨a6,A⟩:=g.ix (sz:=3) Ap q;Ds 20 1048575 2097151 Z Ag Z Z Z Z (Ae J0 Z Z Z Z A) ?_)))))))))))))))))))))))));have u:SliceLen f (upd d (a+c) (ele d (b+c))).length:=H9 g;refine WT.o (H':=[Fo f 213 3 (List.map Due.cells (upd d (a+c) (ele d (b+c)))),kn M w.heap.size h h]) 21 2097151 4194303 Z Ag Z Ag ?_ ?_
  ·skip
   refine(L0 (enc:=Due.cells) (off:=0) (vs:=[i_ ((ele d (b+c)).due),i_ ((ele d (b+c)).reg),i_ ((ele d (b+c)).v)]) 0 (ele d (b+c)) rfl rfl rfl rfl rfl A q (by first | rfl | exact Mn _) (show Ee _=List.toArray _ from rfl) Ad7 (nl rfl) (oz rfl) rfl ?_);exact WT.b sm
  refine have ⟨s,T⟩:=cs S;have ⟨a7,B⟩:=u.ix (sz:=3) Ap s;Ds 22 4194303 8388607 Z Ag Z Z Z Z (Ae J0 Z Z Z Z B) (WT.l 23 8388607 16777215 Z Ag Z ((L0 (enc:=Due.cells) (off:=0) (vs:=[i_ ((ele d (a+c)).due),i_ ((ele d (a+c)).reg),i_ ((ele d (a+c)).v)]) 0 (ele d (a+c)) rfl rfl rfl rfl rfl B s (by first | rfl | exact Mn _) (show Ee _=List.toArray _ from rfl) Ad7 (nl rfl) (oz rfl) rfl ?_)));have N:SliceLen f (upd (upd d (a+c) (ele d (b+c))) (b+c) (ele d (a+c))).length:=H9 u;refine Bd (Al (Bo (wm Z (have ⟨I,U⟩:=cs T;wq Z (A6 Z Z Z Z I) (wa Z (Bm ?_))))));exact B1 (upd (upd d (a+c) (ele d (b+c))) (b+c) (ele d (a+c))) (c+1) a1 ⟨A4 U x,N⟩ (Ck _) (sb Z) (pk [0,1])
 refine C1 (te (te (Am ?_)));exact Ct d c ⟨Bh V x,g⟩ (sb Z) (pk [0,1])
theorem M3 {h:Ak}{data:List Due}{a k b:Int}{r:List Due}{i:Aj} (s:Cy data a k b=some r) (T:SliceLen h data.length) (M:Nat→Prop) (w:Aj) (l:Base M i w) (a6:Own M w [Fo h 213 3 (List.map Due.cells data)] w):Calls Tryz.prog 182 #[h,.int .i64 a,.int .i64 k,.int .i64 b,.func (.func 126) #[] #[]] w (fun e w'=>∃ X:Aj,e=.returned (.tuple #[])∧Own M w (kn M w.heap.size i X::[Fo h 213 3 (List.map Due.cells r)]) w'∧SliceLen h (r).length):=by
 unfold Cy at s;refine cw 58 Tryz.func182 Z (sr (wm Z (wm Z (have ⟨c1,c3,z⟩:=cs2 s;wq Z (Du Z Z Z Z c1) (wa Z (ns (wm Z (wm Z (wq Z (Du Z Z Z Z c3) (wa Z (nt (Ax ?_)))))))))))) (Aw l a6);obtain⟨C,B,b0,a4⟩:=bl z;refine K1 (dt [0,2,4] [] Z) (fun (f:List Due) (c:Int) (d:Int) (g:Aj)=>[(10,(true,i_ c)),(11,(true,i_ d))]) (fun f c d g=>[kn M w.heap.size i g,Fo h 213 3 (List.map Due.cells f)]) (fun f c d g m=>Cp (B5 k) m (f,c,d)=some C∧SliceLen h f.length∧Le i g) (fun f c d g=>C=.go (f,c,d)∧SliceLen h f.length∧Le i g) data (k - a) (b - k) i b0 ⟨a4,T,(Jy _)⟩ (sb Z) (pk [0,1]) ?_ ?_
 ·skip
  rintro f c d g ⟨rfl,j,n⟩;refine Al (Bo (wm Z (wm Z (wm Z ?_))));obtain⟨H,t⟩:=cs B;refine wq Z (Du Z Z Z Z H) (wm Z (wm Z (wm Z (Ab Z ?_))));obtain⟨b5,a7,W⟩:=An t;refine(cq l Axi Z (Eh a7 j) Z (fun E Q b3=>Bm ?_));obtain rfl:=(Ad W).symm;refine I5 Z (fun w a5=>?_);exact⟨E,Z,a5.pick [0,1] Ai,Q⟩
 rintro f c d g m16 ⟨q,j,n⟩;obtain⟨m18,b4,rfl,o,p⟩:=A2 q;unfold B5 at o;simp only at o;refine Ax (sr (wm Z (wm Z (wq Z (QV.neq Z Z Z Z) (nt ?_)))));refine wc Z o (fun O u=>?_) (fun O a3=>?_)
 ·skip
  refine sk (Al (Cr (sr (wm Z (wm Z (wq Z (QV.gtr Z Z Z Z) (nt ?_)))))));refine wc Z u (fun P v=>?_) (fun P y=>?_)
  ·skip
   refine sr (wm Z (wm Z (wm Z ?_)));obtain⟨I,x⟩:=cs v;refine wq Z (Du Z Z Z Z I) (wm Z (wm Z (wm Z (Ab Z ?_))));obtain⟨b1,a8,Y⟩:=An x;refine(cq l Axi Z (Eh a8 j) Z (fun F R U=>nr (wm Z (wm Z (have ⟨J,a0⟩:=cs Y;wq Z (Du Z Z Z Z J) (wa Z (Bm (Bd ?_))))))));exact Gh b1 (c - d) d F m18 ⟨A4 a0 p,R,(n.trans U)⟩ (Ck _) (sb Z) (pk [0,1])
  refine sr (wm Z (wm Z (wm Z ?_)));obtain⟨K,c37,L,A⟩:=cs3 y;refine wq Z (Du Z Z Z Z K) (wm Z (wm Z (wq Z (A6 Z Z Z Z c37) (wm Z (wq Z (Du Z Z Z Z L) (wm Z (wm Z (Ab Z ?_))))))));obtain⟨b2,a9,a1⟩:=An A;refine(cq l Axi Z (Eh a9 j) Z (fun G S V=>nr (wm Z (wm Z (have ⟨N,a2⟩:=cs a1;wq Z (Du Z Z Z Z N) (wa Z (Bm (Bd ?_))))))));exact Gh b2 c (d - c) G m18 ⟨A4 a2 p,S,(n.trans V)⟩ (Ck _) (sb Z) (pk [0,1])
 refine C1 (te (te (Am ?_)));exact N2 f c d g ⟨Bh a3 p,j,n⟩ (sb Z) (pk [0,1])
theorem Fu {g:Ak}{data:List Due}{a b:Int}{r:List Due}{p:Aj} (G:A9 data a b=some r) (a4:SliceLen g data.length) (M:Nat→Prop) (w:Aj) (a5:Base M p w) (c2:Own M w [Fo g 213 3 (List.map Due.cells data)] w):Calls Tryz.prog 174 #[g,.int .i64 a,.int .i64 b,.func (.func 126) #[] #[]] w (fun e w'=>∃ X:Aj,e=.returned (.tuple #[])∧Own M w (kn M w.heap.size p X::[Fo g 213 3 (List.map Due.cells r)]) w'∧SliceLen g (r).length):=by
 unfold A9 at G;refine cw 53 Tryz.func174 Z (sr (wm Z (have ⟨c1,I⟩:=cs G;wq Z (A6 Z Z Z Z c1) (wa Z (nt ?_))))) (Aw a5 c2);obtain⟨W,b2,n6,c0⟩:=bl I;refine Cj (dt [0,1,2,3] [0] Z) (fun (j:List Due) (k:Int)=>[(8,(true,i_ k))]) (fun j k=>[Fo g 213 3 (List.map Due.cells j)]) (fun j k m=>Cp (Bj a b) m (j,k)=some W∧SliceLen g j.length) (fun j k=>W=.go (j,k)∧SliceLen g j.length) data (a+1) n6 ⟨c0,a4⟩ (sb Z) (pk [1,0]) ?_ ?_
 ·skip
  rintro j k ⟨rfl,q⟩;obtain rfl:=(Ad b2).symm;refine I5 Z (fun w U=>?_);exact⟨p,Z,U.pick [1,0] Ai,q⟩
 rintro j k c8 ⟨E,q⟩;obtain⟨c4,d5,rfl,s,L⟩:=A2 E;unfold Bj at s;simp only at s;refine Ax (sr (wm Z (wm Z (wq Z (QV.lss Z Z Z Z) (nt ?_)))));refine wc Z s (fun a2 H=>?_) (fun a2 b8=>?_)
 ·skip
  refine sk (Al (Ax (Cr (sr (wm Z (wa Z (nt ?_)))))));obtain⟨V,a7,c6,b9⟩:=bl H;refine Cj (dt [0,1,2,3,8] [1] Z) (fun (d:List Due) (c:Int)=>[(9,(true,i_ c))]) (fun d c=>[Fo g 213 3 (List.map Due.cells d)]) (fun d c m=>Cp (Bn a) m (d,c)=some V∧SliceLen g d.length) (fun d c=>V=.go (d,c)∧SliceLen g d.length) j k c6 ⟨b9,q⟩ (sb Z) (pk [0,1]) ?_ ?_
  ·skip
   rintro d c ⟨rfl,n⟩;refine Bd (Al (Bo (wm Z (have ⟨c21,a8⟩:=cs a7;wq Z (A6 Z Z Z Z c21) (wa Z (Bm ?_))))));exact B1 d (k+1) c4 ⟨A4 a8 L,n⟩ (Ck _) (sb Z) (pk [0,1])
  rintro d c c7 ⟨C,n⟩;obtain⟨c5,d6,rfl,t,N⟩:=A2 C;unfold Bn at t;simp only at t;refine Ax (Ax (dp 17 [1,0] Z (zm 0 Z Z (zm 1 Z Z (wz 2 Z Z (QV.gtr Z Z Z Z) (zm 3 Z Z (zP 4 Z Z (QV.move Z Z) (zP 5 Z Z (QV.move Z Z) (zP 6 Z Z (QV.move Z Z) (have ⟨u,a9⟩:=cs t;have ⟨c9,O⟩:=n.ixG (sz:=3) Ap u;zp 7 Z Z (fun f=>Ae J0 Z f Z f (O f)) (zp 8 Z Z (fun f=>Af Rb Z Z f (el (Dk 1 Z) (O f) (u f))) (zP 9 Z Z (QV.move Z Z) (zP 10 Z Z (QV.move Z Z) (have ⟨Y,x,J⟩:=cs2 a9;zp 11 Z Z (fun f=>Du Z f Z Z (Y f)) (have ⟨d0,P⟩:=n.ixG (sz:=3) Ap x;zp 12 Z Z (fun f=>Ae J0 Z f Z f (P f)) (zp 13 Z Z (fun f=>Af Rb Z Z f (el (Dk 1 Z) (P f) (x f))) ?_))))))))))))))));obtain⟨d7,c3,K⟩:=C5 J;refine zp 14 Z Z (fun f=>Nr Asx Z f (C3 Z f (C3 Z f eN)) (fun w U=>have h:=Gu w (c3 f) ;h)) ?_;refine zp 15 Z Z (fun f=>QV.lss Z f Z Z) (wz 16 Z Z (A8 Z Z Z (fun h=>h)) (Em Ag (Al ?_)));refine wc Z K (fun a3 b0=>?_) (fun a3 b7=>?_)
  ·skip
   refine sk (Al (Ax (Cr (Alu (m:=18) (fun i=>[2,3,4].contains i) Ag Ag Ag (Ds 0 0 1 Z Ag Z Z Z Z (QV.move Z Z) (Ds 1 1 3 Z Ag Z Z Z Z (QV.move Z Z) (Tv 2 3 7 Z Ag Z Z Z (QV.move Z Z) (Tv 3 7 15 Z Ag Z Z Z (QV.move Z Z) (have ⟨a0,c46,y,b1⟩:=cs3 b0;Tv 4 15 31 Z Ag Z Z Z (Du Z Z Z Z a0) (Ds 5 31 63 Z Ag Z Z Z Z (QV.move Z Z) (Ds 6 63 127 Z Ag Z Z Z Z (QV.move Z Z) (Ds 7 127 255 Z Ag Z Z Z Z (Du Z Z Z Z c46) (have ⟨d1,Q⟩:=n.ix (sz:=3) Ap y;Ds 8 255 511 Z Ag Z Z Z Z (Ae J0 Z Z Z Z Q) (Ds 9 511 1023 Z Ag Z Z Z Z (Af Rb Z Z Z (el (Dk 0 Z) Q y)) (Ds 10 1023 2047 Z Ag Z Z Z Z (QV.move Z Z) (Ds 11 2047 4095 Z Ag Z Z Z Z (QV.move Z Z) (have ⟨z,b3⟩:=cs b1;have ⟨d2,R⟩:=n.ix (sz:=3) Ap z;Ds 12 4095 8191 Z Ag Z Z Z Z (Ae J0 Z Z Z Z R) (Ds 13 8191 16383 Z Ag Z Z Z Z (Af Rb Z Z Z (el (Dk 0 Z) R z)) (have ⟨A,b4⟩:=cs b3;have ⟨d3,S⟩:=n.ix (sz:=3) Ap A;Ds 14 16383 32767 Z Ag Z Z Z Z (Ae J0 Z Z Z Z S) ?_)))))))))))))))))));have F:SliceLen g (upd d c (ele d (c - 1))).length:=H9 n;refine WT.o (H':=[Fo g 213 3 (List.map Due.cells (upd d c (ele d (c - 1)))),kn M w.heap.size p p]) 15 32767 65535 Z Ag Z Ag ?_ ?_
   ·skip
    refine(L0 (enc:=Due.cells) (off:=0) (vs:=[i_ ((ele d (c - 1)).due),i_ ((ele d (c - 1)).reg),i_ ((ele d (c - 1)).v)]) 0 (ele d (c - 1)) rfl rfl rfl rfl rfl S A (by first | rfl | exact Mn _) (show Ee _=List.toArray _ from rfl) Ad7 (nl rfl) (oz rfl) rfl ?_);exact WT.b sm
   refine have ⟨B,b5⟩:=cs b4;have ⟨d4,T⟩:=F.ix (sz:=3) Ap B;Ds 16 65535 131071 Z Ag Z Z Z Z (Ae J0 Z Z Z Z T) (WT.l 17 131071 262143 Z Ag Z ((L0 (enc:=Due.cells) (off:=0) (vs:=[i_ ((ele d c).due),i_ ((ele d c).reg),i_ ((ele d c).v)]) 0 (ele d c) rfl rfl rfl rfl rfl T B (by first | rfl | exact Mn _) (show Ee _=List.toArray _ from rfl) Ad7 (nl rfl) (oz rfl) rfl ?_)));have a6:SliceLen g (upd (upd d c (ele d (c - 1))) (c - 1) (ele d c)).length:=H9 F;refine Bd (Al (Bo (wm Z (have ⟨a1,b6⟩:=cs b5;wq Z (Du Z Z Z Z a1) (wa Z (Bm ?_))))));exact B1 (upd (upd d c (ele d (c - 1))) (c - 1) (ele d c)) (c - 1) c5 ⟨A4 b6 N,a6⟩ (Ck _) (sb Z) (pk [0,1])
  refine C1 (te (te (Am ?_)));exact Ct d c ⟨Bh b7 N,n⟩ (sb Z) (pk [0,1])
 refine C1 (te (te (Am ?_)));exact Ct j k ⟨Bh b8 L,q⟩ (sb Z) (pk [0,1])
theorem Gm:∀ (I:Nat) {n:Ak}{data:List Due}{a A b:Int}{r:List Due}{z:Aj} (H:A0 I data a A b=some r) (p:SliceLen n data.length) (M:Nat→Prop) (w:Aj) (B:Base M z w) (g5:Own M w [Fo n 213 3 (List.map Due.cells data)] w),Calls Tryz.prog 175 #[n,.int .i64 a,.int .i64 A,.int .i64 b,.func (.func 126) #[] #[]] w (fun e w'=>∃ X:Aj,e=.returned (.tuple #[])∧Own M w (kn M w.heap.size z X::[Fo n 213 3 (List.map Due.cells r)]) w'∧SliceLen n (r).length):=by
 intro I;induction I with
 | zero=>intro n data a A b r z H;cases H
 | succ I IH =>
  intro n data a A b r z H p M w B g5;unfold A0 at H;refine cw 220 Tryz.func175 Z (Ax (sr (wm Z (wm Z (have ⟨c1,d4⟩:=cs H;wq Z (Du Z Z Z Z c1) (wq Z (QV.eql Z Z Z Z) (nt ?_))))))) (Aw B g5);refine wc Z d4 (fun l1 e2=>?_) (fun l1 q8=>?_)
  ·skip
   refine sr (wm Z (wa Z (ns (wm Z (wa Z (nt (Ax ?_)))))));obtain⟨h1,e4,s9,r4⟩:=bl e2;refine Cj (dt [0,1,4] [0,1] Z) (fun (q:Int) (t:Int)=>[(10,(true,i_ q)),(11,(true,i_ t))]) (fun q t=>[]) (fun q t m=>Cp (Cd data a) m (q,t)=some h1) (fun q t=>h1=.go (q,t)) A b s9 r4 (sb Z) (pk [0,1]) ?_ ?_
   ·skip
    rintro q t rfl;refine Al (Ax (sr (wm Z (wa Z (nt ?_)))));obtain⟨g9,m6,s7,r1⟩:=bl e4;refine Cj (dt [0,10] [0] Z) (fun (f:List Due) (c:Int)=>[(13,(true,i_ c))]) (fun f c=>[Fo n 213 3 (List.map Due.cells f)]) (fun f c m=>Cp (Cc q) m (f,c)=some g9∧SliceLen n f.length) (fun f c=>g9=.go (f,c)∧SliceLen n f.length) data a s7 ⟨r1,p⟩ (sb Z) (pk [1,0]) ?_ ?_
    ·skip
     rintro f c ⟨rfl,C⟩;refine Al (Bc (tr ?_));obtain rfl:=(Ad m6).symm;refine At5 Z (fun w j=>?_);exact⟨z,Z,j.pick [1,0] Ai,C⟩
    rintro f c m15 ⟨b3,C⟩;obtain⟨m17,v9,rfl,R,e9⟩:=A2 b3;unfold Cc at R;simp only at R;refine Ax (sr (wm Z (wm Z (have ⟨c21,d9⟩:=cs R;wq Z (Du Z Z Z Z c21) (wq Z (QV.lss Z Z Z Z) (nt ?_))))));refine wc Z d9 (fun k9 o8=>?_) (fun k9 q1=>?_)
    ·skip
     refine sk (Al (Ax (Cr (Alu (m:=18) (fun i=>[2,3,4].contains i) Ag Ag Ag (Ds 0 0 1 Z Ag Z Z Z Z (QV.move Z Z) (Ds 1 1 3 Z Ag Z Z Z Z (QV.move Z Z) (Tv 2 3 7 Z Ag Z Z Z (QV.move Z Z) (Tv 3 7 15 Z Ag Z Z Z (QV.move Z Z) (have ⟨j3,j4,a5,p6⟩:=cs3 o8;Tv 4 15 31 Z Ag Z Z Z (A6 Z Z Z Z j3) (Ds 5 31 63 Z Ag Z Z Z Z (QV.move Z Z) (Ds 6 63 127 Z Ag Z Z Z Z (QV.move Z Z) (Ds 7 127 255 Z Ag Z Z Z Z (A6 Z Z Z Z j4) (have ⟨v2,f9⟩:=C.ix (sz:=3) Ap a5;Ds 8 255 511 Z Ag Z Z Z Z (Ae J0 Z Z Z Z f9) (Ds 9 511 1023 Z Ag Z Z Z Z (Af Rb Z Z Z (el (Dk 0 Z) f9 a5)) (Ds 10 1023 2047 Z Ag Z Z Z Z (QV.move Z Z) (Ds 11 2047 4095 Z Ag Z Z Z Z (QV.move Z Z) (have ⟨a6,p7⟩:=cs p6;have ⟨v3,g0⟩:=C.ix (sz:=3) Ap a6;Ds 12 4095 8191 Z Ag Z Z Z Z (Ae J0 Z Z Z Z g0) (Ds 13 8191 16383 Z Ag Z Z Z Z (Af Rb Z Z Z (el (Dk 0 Z) g0 a6)) (have ⟨c37,p8⟩:=cs p7;have ⟨v4,g1⟩:=C.ix (sz:=3) Ap c37;Ds 14 16383 32767 Z Ag Z Z Z Z (Ae J0 Z Z Z Z g1) ?_)))))))))))))))))));have b8:SliceLen n (upd f c (ele f (c+1))).length:=H9 C;refine WT.o (H':=[Fo n 213 3 (List.map Due.cells (upd f c (ele f (c+1)))),kn M w.heap.size z z]) 15 32767 65535 Z Ag Z Ag ?_ ?_
     ·skip
      refine(L0 (enc:=Due.cells) (off:=0) (vs:=[i_ ((ele f (c+1)).due),i_ ((ele f (c+1)).reg),i_ ((ele f (c+1)).v)]) 0 (ele f (c+1)) rfl rfl rfl rfl rfl g1 c37 (by first | rfl | exact Mn _) (show Ee _=List.toArray _ from rfl) Ad7 (nl rfl) (oz rfl) rfl ?_);exact WT.b sm
     refine have ⟨a7,p9⟩:=cs p8;have ⟨v5,g2⟩:=b8.ix (sz:=3) Ap a7;Ds 16 65535 131071 Z Ag Z Z Z Z (Ae J0 Z Z Z Z g2) (WT.l 17 131071 262143 Z Ag Z ((L0 (enc:=Due.cells) (off:=0) (vs:=[i_ ((ele f c).due),i_ ((ele f c).reg),i_ ((ele f c).v)]) 0 (ele f c) rfl rfl rfl rfl rfl g2 a7 (by first | rfl | exact Mn _) (show Ee _=List.toArray _ from rfl) Ad7 (nl rfl) (oz rfl) rfl ?_)));have m1:SliceLen n (upd (upd f c (ele f (c+1))) (c+1) (ele f c)).length:=H9 b8;refine Bd (Al (Bo (wm Z (have ⟨j5,q0⟩:=cs p9;wq Z (A6 Z Z Z Z j5) (wa Z (Bm ?_))))));exact B1 (upd (upd f c (ele f (c+1))) (c+1) (ele f c)) (c+1) m17 ⟨A4 q0 e9,m1⟩ (Ck _) (sb Z) (pk [0,1])
    refine C1 (te (te (Am ?_)));exact Ct f c ⟨Bh q1 e9,C⟩ (sb Z) (pk [0,1])
   rintro q t u2 b5;obtain⟨g8,w1,rfl,N,U⟩:=A2 b5;unfold Cd at N;simp only at N;refine Ax (sr (wm Z (wm Z (wq Z (QV.lss Z Z Z Z) (nt ?_)))));refine wc Z N (fun l2 q2=>?_) (fun l2 q7=>?_)
   ·skip
    refine sk (Al (Cr (sr (wm Z (wm Z (have ⟨j6,a8,q3⟩:=cs2 q2;wq Z (A6 Z Z Z Z j6) (wq Z (Sp Tryz.underlying131 Tryz.underlying3 Z Z) (wq Z (Vl Z Z Z Z Ai) (wq Z (Sp Tryz.underlying3 Tryz.underlying131 Z Z) (wa Z (nt (Ax (dq 11 (zm 0 Z Z (zm 1 Z Z (zm 2 Z Z (have ⟨v6,g3⟩:=p.ix (sz:=3) Ap a8;wz 3 Z Z (Ae J0 Z Z Z Z g3) (wz 4 Z Z (Af Rb Z Z Z (el (Dk 1 Z) g3 a8)) (zm 5 Z Z (zm 6 Z Z (have ⟨a9,e3⟩:=cs q3;have ⟨v7,g4⟩:=p.ix (sz:=3) Ap a9;wz 7 Z Z (Ae J0 Z Z Z Z g4) (wz 8 Z Z (Af Rb Z Z Z (el (Dk 1 Z) g4 a9)) ?_))))))))))))))))))))));obtain⟨x2,s5,e5⟩:=An e3;refine wz 9 Z Z (Nr Asx Z Z (ea Z) (fun w j=>have h:=Gu w s5 ;h)) ?_;refine wz 10 Z Z (QV.lss Z Z Z Z) (Em Ag (Al ?_));refine wc Z e5 (fun l3 q4=>?_) (fun l3 q6=>?_)
    ·skip
     refine Bo (wm Z (have ⟨j7,q5⟩:=cs q4;wq Z (A6 Z Z Z Z j7) (wa Z (Bm (Bd ?_)))));exact B1 ((IntKind.i64.wrap (shrD (IntKind.u64.wrap (q+t)) 1))+1) t g8 (A4 q5 U) (Ck _) (sb Z) (pk [0,1])
    refine Bo (wm Z (wa Z (Bm (Bd ?_))));exact B1 q (IntKind.i64.wrap (shrD (IntKind.u64.wrap (q+t)) 1)) g8 (A4 q6 U) (Ck _) (sb Z) (pk [0,1])
   refine C1 (te (te (Am ?_)));exact Ct q t (Bh q7 U) (sb Z) (pk [0,1])
  refine sk (Al (Ax (sr (wm Z (wm Z (have ⟨j8,e6⟩:=cs q8;wq Z (Du Z Z Z Z j8) (wq Z (QV.eql Z Z Z Z) (nt ?_))))))));refine wc Z e6 (fun l4 e7=>?_) (fun l4 n5=>?_)
  ·skip
   refine sr (wm Z (wa Z (ns (wm Z (wa Z (nt (Ax ?_)))))));obtain⟨h2,e8,t0,r3⟩:=bl e7;refine Cj (dt [0,2,4] [0,1] Z) (fun (s:Int) (u:Int)=>[(14,(true,i_ s)),(15,(true,i_ u))]) (fun s u=>[]) (fun s u m=>Cp (Cb data A) m (s,u)=some h2) (fun s u=>h2=.go (s,u)) a A t0 r3 (sb Z) (pk [0,1]) ?_ ?_
   ·skip
    rintro s u rfl;refine Al (Ax (sr (wm Z (wa Z (nt ?_)))));obtain⟨h3,q9,t1,r5⟩:=bl e8;refine Cj (dt [0,14] [0] Z) (fun (g:List Due) (d:Int)=>[(17,(true,i_ d))]) (fun g d=>[Fo n 213 3 (List.map Due.cells g)]) (fun g d m=>Cp (Ca s) m (g,d)=some h3∧SliceLen n g.length) (fun g d=>h3=.go (g,d)∧SliceLen n g.length) data A t1 ⟨r5,p⟩ (sb Z) (pk [1,0]) ?_ ?_
    ·skip
     rintro g d ⟨rfl,E⟩;refine Al (Bc (tr ?_));obtain rfl:=(Ad q9).symm;refine At5 Z (fun w j=>?_);exact⟨z,Z,j.pick [1,0] Ai,E⟩
    rintro g d u3 ⟨b6,E⟩;obtain⟨s6,w2,rfl,O,f0⟩:=A2 b6;unfold Ca at O;simp only at O;refine Ax (sr (wm Z (wm Z (wq Z (QV.gtr Z Z Z Z) (nt ?_)))));refine wc Z O (fun l5 r0=>?_) (fun l5 m8=>?_)
    ·skip
     refine sk (Al (Ax (Cr (Alu (m:=18) (fun i=>[2,3,4].contains i) Ag Ag Ag (Ds 0 0 1 Z Ag Z Z Z Z (QV.move Z Z) (Ds 1 1 3 Z Ag Z Z Z Z (QV.move Z Z) (Tv 2 3 7 Z Ag Z Z Z (QV.move Z Z) (Tv 3 7 15 Z Ag Z Z Z (QV.move Z Z) (have ⟨i1,i2,V,m2⟩:=cs3 r0;Tv 4 15 31 Z Ag Z Z Z (Du Z Z Z Z i1) (Ds 5 31 63 Z Ag Z Z Z Z (QV.move Z Z) (Ds 6 63 127 Z Ag Z Z Z Z (QV.move Z Z) (Ds 7 127 255 Z Ag Z Z Z Z (Du Z Z Z Z i2) (have ⟨u4,f1⟩:=E.ix (sz:=3) Ap V;Ds 8 255 511 Z Ag Z Z Z Z (Ae J0 Z Z Z Z f1) (Ds 9 511 1023 Z Ag Z Z Z Z (Af Rb Z Z Z (el (Dk 0 Z) f1 V)) (Ds 10 1023 2047 Z Ag Z Z Z Z (QV.move Z Z) (Ds 11 2047 4095 Z Ag Z Z Z Z (QV.move Z Z) (have ⟨W,m3⟩:=cs m2;have ⟨u5,f2⟩:=E.ix (sz:=3) Ap W;Ds 12 4095 8191 Z Ag Z Z Z Z (Ae J0 Z Z Z Z f2) (Ds 13 8191 16383 Z Ag Z Z Z Z (Af Rb Z Z Z (el (Dk 0 Z) f2 W)) (have ⟨Y,m4⟩:=cs m3;have ⟨u6,f3⟩:=E.ix (sz:=3) Ap Y;Ds 14 16383 32767 Z Ag Z Z Z Z (Ae J0 Z Z Z Z f3) ?_)))))))))))))))))));have b7:SliceLen n (upd g d (ele g (d - 1))).length:=H9 E;refine WT.o (H':=[Fo n 213 3 (List.map Due.cells (upd g d (ele g (d - 1)))),kn M w.heap.size z z]) 15 32767 65535 Z Ag Z Ag ?_ ?_
     ·skip
      refine(L0 (enc:=Due.cells) (off:=0) (vs:=[i_ ((ele g (d - 1)).due),i_ ((ele g (d - 1)).reg),i_ ((ele g (d - 1)).v)]) 0 (ele g (d - 1)) rfl rfl rfl rfl rfl f3 Y (by first | rfl | exact Mn _) (show Ee _=List.toArray _ from rfl) Ad7 (nl rfl) (oz rfl) rfl ?_);exact WT.b sm
     refine have ⟨a0,m5⟩:=cs m4;have ⟨u7,f4⟩:=b7.ix (sz:=3) Ap a0;Ds 16 65535 131071 Z Ag Z Z Z Z (Ae J0 Z Z Z Z f4) (WT.l 17 131071 262143 Z Ag Z ((L0 (enc:=Due.cells) (off:=0) (vs:=[i_ ((ele g d).due),i_ ((ele g d).reg),i_ ((ele g d).v)]) 0 (ele g d) rfl rfl rfl rfl rfl f4 a0 (by first | rfl | exact Mn _) (show Ee _=List.toArray _ from rfl) Ad7 (nl rfl) (oz rfl) rfl ?_)));have m0:SliceLen n (upd (upd g d (ele g (d - 1))) (d - 1) (ele g d)).length:=H9 b7;refine Bd (Al (Bo (wm Z (have ⟨i3,m7⟩:=cs m5;wq Z (Du Z Z Z Z i3) (wa Z (Bm ?_))))));exact B1 (upd (upd g d (ele g (d - 1))) (d - 1) (ele g d)) (d - 1) s6 ⟨A4 m7 f0,m0⟩ (Ck _) (sb Z) (pk [0,1])
    refine C1 (te (te (Am ?_)));exact Ct g d ⟨Bh m8 f0,E⟩ (sb Z) (pk [0,1])
   rintro s u u0 b2;obtain⟨g6,v8,rfl,K,S⟩:=A2 b2;unfold Cb at K;simp only at K;refine Ax (sr (wm Z (wm Z (wq Z (QV.lss Z Z Z Z) (nt ?_)))));refine wc Z K (fun j9 m9=>?_) (fun j9 n4=>?_)
   ·skip
    refine sk (Al (Cr (sr (wm Z (wm Z (have ⟨i4,a1,n0⟩:=cs2 m9;wq Z (A6 Z Z Z Z i4) (wq Z (Sp Tryz.underlying131 Tryz.underlying3 Z Z) (wq Z (Vl Z Z Z Z Ai) (wq Z (Sp Tryz.underlying3 Tryz.underlying131 Z Z) (wa Z (nt (Ax (dq 12 (zm 0 Z Z (zm 1 Z Z (zm 2 Z Z (have ⟨u8,f5⟩:=p.ix (sz:=3) Ap a1;wz 3 Z Z (Ae J0 Z Z Z Z f5) (wz 4 Z Z (Af Rb Z Z Z (el (Dk 1 Z) f5 a1)) (zm 5 Z Z (zm 6 Z Z (have ⟨a2,b9⟩:=cs n0;have ⟨u9,f6⟩:=p.ix (sz:=3) Ap a2;wz 7 Z Z (Ae J0 Z Z Z Z f6) (wz 8 Z Z (Af Rb Z Z Z (el (Dk 1 Z) f6 a2)) ?_))))))))))))))))))))));obtain⟨w3,r6,c0⟩:=An b9;refine wz 9 Z Z (Nr Asx Z Z (ea Z) (fun w j=>have h:=Gu w r6 ;h)) ?_;refine wz 10 Z Z (QV.lss Z Z Z Z) (wz 11 Z Z (QV.not Z Z) (Em Ag (Al ?_)));refine wc Z c0 (fun k0 n1=>?_) (fun k0 n3=>?_)
    ·skip
     refine Bo (wm Z (have ⟨i5,n2⟩:=cs n1;wq Z (A6 Z Z Z Z i5) (wa Z (Bm (Bd ?_)))));exact B1 ((IntKind.i64.wrap (shrD (IntKind.u64.wrap (s+u)) 1))+1) u g6 (A4 n2 S) (Ck _) (sb Z) (pk [0,1])
    refine Bo (wm Z (wa Z (Bm (Bd ?_))));exact B1 s (IntKind.i64.wrap (shrD (IntKind.u64.wrap (s+u)) 1)) g6 (A4 n3 S) (Ck _) (sb Z) (pk [0,1])
   refine C1 (te (te (Am ?_)));exact Ct s u (Bh n4 S) (sb Z) (pk [0,1])
  refine sk (Al (sr (wm Z (wm Z (have ⟨i6,i7,c2⟩:=cs2 n5;wq Z (A6 Z Z Z Z i6) (wq Z (Sp Tryz.underlying131 Tryz.underlying3 Z Z) (wq Z (Vl Z Z Z Z Ai) (wq Z (Sp Tryz.underlying3 Tryz.underlying131 Z Z) (wa Z (ns (wm Z (wm Z (wq Z (A6 Z Z Z Z i7) (wa Z (ns (wa Z (wa Z (nt (Ax (sr (wm Z (wm Z (wq Z (QV.gtr Z Z Z Z) (nt ?_))))))))))))))))))))))));obtain⟨t2,J,n6⟩:=An c2;refine Y0 (dt [0,1,2,3,4,18,19] [0,1] Z) (fun (G:Int) (F:Int)=>[(20,(true,i_ G)),(21,(true,i_ F))]) (fun G F=>[]) (fun G F=>t2=.go (G,F)) (sb Z) (pk [0,1]) ?_ ?_
  ·skip
   rintro G F rfl;refine sr (wm Z (have ⟨i8,c3⟩:=cs n6;wq Z (Du Z Z Z Z i8) (wa Z (nt (Ax ?_)))));obtain⟨h0,n7,s8,r2⟩:=bl c3;refine Cj (dt [0,1,2,3,4,18,19,22] [0,1] Z) (fun (y:Int) (x:Int)=>[(20,(true,i_ y)),(21,(true,i_ x))]) (fun y x=>[]) (fun y x m=>Cp (B9 data a A b) m (y,x)=some h0) (fun y x=>h0=.go (y,x)) G F s8 r2 (sb Z) (pk [0,1]) ?_ ?_
   ·skip
    rintro y x rfl;refine Al (sr (wm Z (wm Z (have ⟨c167,c4⟩:=cs n7;wq Z (Du Z Z Z Z c167) (wa Z (nt (Ax (sr (wm Z (wm Z (wq Z (QV.lss Z Z Z Z) (wm Z (gP Z (QV.move Z Z) (gP Z (QV.move Z Z) (gp Z (fun k=>QV.lss Z k Z k) (wq Z (A8 Z Z Z (fun h=>h)) (nt ?_)))))))))))))))));refine wc Z c4 (fun k1 c5=>?_) (fun k1 d2=>?_)
    ·skip
     refine Bo (wm Z (wm Z (wm Z (wm Z (wm Z (Ab Z ?_))))));obtain⟨w4,r7,c6⟩:=An c5;refine(cq B en182 Z (M3 r7 p) Z (fun h4 Q t3=>nt (Ax (sr (wm Z (wm Z (wq Z (QV.lss Z Z Z Z) (wm Z (gP Z (QV.move Z Z) (gP Z (QV.move Z Z) (gp Z (fun k=>QV.lss Z k Z k) (wq Z (A8 Z Z Z (fun h=>h)) (nt ?_)))))))))))));refine wc Z c6 (fun k2 c7=>?_) (fun k2 d0=>?_)
     ·skip
      refine Bo (wm Z (wm Z (wm Z (wm Z (wm Z (Ab Z ?_))))));obtain⟨w5,r8,c8⟩:=An c7;refine(cq B Ad9 Z (IH r8 Q) Z (fun h5 b0 t4=>ns (wm Z (wm Z (wq Z (QV.lss Z Z Z Z) (wm Z (gP Z (QV.move Z Z) (gP Z (QV.move Z Z) (gp Z (fun k=>QV.lss Z k Z k) (wq Z (A8 Z Z Z (fun h=>h)) (nt ?_)))))))))));refine wc Z c8 (fun k3 c9=>?_) (fun k3 n9=>?_)
      ·skip
       refine Bo (wm Z (wm Z (wm Z (wm Z (wm Z (Ab Z ?_))))));obtain⟨w6,r9,n8⟩:=An c9;refine(cq B Ad9 Z (IH r9 b0) Z (fun h6 l6 t5=>Bm ?_));obtain rfl:=(Ad n8).symm;refine I5 Z (fun w j=>?_);exact⟨h6,Z,j.pick [0,1] Ai,l6⟩
      refine sk ?_;obtain rfl:=(Ad n9).symm;refine I5 Z (fun w j=>?_);exact⟨h5,Z,j.pick [0,1] Ai,b0⟩
     refine sk (Al (sr (wm Z (wm Z (wq Z (QV.lss Z Z Z Z) (wm Z (gP Z (QV.move Z Z) (gP Z (QV.move Z Z) (gp Z (fun k=>QV.lss Z k Z k) (wq Z (A8 Z Z Z (fun h=>h)) (nt ?_)))))))))));refine wc Z d0 (fun k4 d1=>?_) (fun k4 o1=>?_)
     ·skip
      refine Bo (wm Z (wm Z (wm Z (wm Z (wm Z (Ab Z ?_))))));obtain⟨w7,s0,o0⟩:=An d1;refine(cq B Ad9 Z (IH s0 Q) Z (fun h7 l7 t6=>Bm ?_));obtain rfl:=(Ad o0).symm;refine I5 Z (fun w j=>?_);exact⟨h7,Z,j.pick [0,1] Ai,l7⟩
     refine sk ?_;obtain rfl:=(Ad o1).symm;refine I5 Z (fun w j=>?_);exact⟨h4,Z,j.pick [0,1] Ai,Q⟩
    refine sk (Al (Ax (sr (wm Z (wm Z (wq Z (QV.lss Z Z Z Z) (wm Z (gP Z (QV.move Z Z) (gP Z (QV.move Z Z) (gp Z (fun k=>QV.lss Z k Z k) (wq Z (A8 Z Z Z (fun h=>h)) (nt ?_))))))))))));refine wc Z d2 (fun k5 d3=>?_) (fun k5 d7=>?_)
    ·skip
     refine Bo (wm Z (wm Z (wm Z (wm Z (wm Z (Ab Z ?_))))));obtain⟨w8,s1,d5⟩:=An d3;refine(cq B Ad9 Z (IH s1 p) Z (fun h8 b1 t7=>ns (wm Z (wm Z (wq Z (QV.lss Z Z Z Z) (wm Z (gP Z (QV.move Z Z) (gP Z (QV.move Z Z) (gp Z (fun k=>QV.lss Z k Z k) (wq Z (A8 Z Z Z (fun h=>h)) (nt ?_)))))))))));refine wc Z d5 (fun k6 d6=>?_) (fun k6 o3=>?_)
     ·skip
      refine Bo (wm Z (wm Z (wm Z (wm Z (wm Z (Ab Z ?_))))));obtain⟨w9,s2,o2⟩:=An d6;refine(cq B Ad9 Z (IH s2 b1) Z (fun h9 l8 t8=>Bm ?_));obtain rfl:=(Ad o2).symm;refine I5 Z (fun w j=>?_);exact⟨h9,Z,j.pick [0,1] Ai,l8⟩
     refine sk ?_;obtain rfl:=(Ad o3).symm;refine I5 Z (fun w j=>?_);exact⟨h8,Z,j.pick [0,1] Ai,b1⟩
    refine sk (Al (sr (wm Z (wm Z (wq Z (QV.lss Z Z Z Z) (wm Z (gP Z (QV.move Z Z) (gP Z (QV.move Z Z) (gp Z (fun k=>QV.lss Z k Z k) (wq Z (A8 Z Z Z (fun h=>h)) (nt ?_)))))))))));refine wc Z d7 (fun k7 d8=>?_) (fun k7 o5=>?_)
    ·skip
     refine Bo (wm Z (wm Z (wm Z (wm Z (wm Z (Ab Z ?_))))));obtain⟨x0,s3,o4⟩:=An d8;refine(cq B Ad9 Z (IH s3 p) Z (fun i0 l9 t9=>Bm ?_));obtain rfl:=(Ad o4).symm;refine I5 Z (fun w j=>?_);exact⟨i0,Z,j.pick [0,1] Ai,l9⟩
    refine sk ?_;obtain rfl:=(Ad o5).symm;refine I5 Z (fun w j=>?_);exact⟨z,Z,j.pick [0,1] Ai,p⟩
   rintro y x u1 b4;obtain⟨g7,w0,rfl,L,T⟩:=A2 b4;unfold B9 at L;simp only at L;refine Ax (sr (wm Z (wm Z (wq Z (QV.lss Z Z Z Z) (nt ?_)))));refine wc Z L (fun k8 o6=>?_) (fun k8 p2=>?_)
   ·skip
    refine sk (Al (Cr (sr (wm Z (wm Z (have ⟨i9,j0,a3,o7⟩:=cs3 o6;wq Z (A6 Z Z Z Z i9) (wq Z (Sp Tryz.underlying131 Tryz.underlying3 Z Z) (wq Z (Vl Z Z Z Z Ai) (wq Z (Sp Tryz.underlying3 Tryz.underlying131 Z Z) (wa Z (nt (Ax (dq 14 (zm 0 Z Z (zm 1 Z Z (zm 2 Z Z (zm 3 Z Z (wz 4 Z Z (Du Z Z Z Z j0) (have ⟨v0,f7⟩:=p.ix (sz:=3) Ap a3;wz 5 Z Z (Ae J0 Z Z Z Z f7) (wz 6 Z Z (Af Rb Z Z Z (el (Dk 1 Z) f7 a3)) (zm 7 Z Z (zm 8 Z Z (have ⟨a4,e0⟩:=cs o7;have ⟨v1,f8⟩:=p.ix (sz:=3) Ap a4;wz 9 Z Z (Ae J0 Z Z Z Z f8) (wz 10 Z Z (Af Rb Z Z Z (el (Dk 1 Z) f8 a4)) ?_))))))))))))))))))))))));obtain⟨x1,s4,e1⟩:=An e0;refine wz 11 Z Z (Nr Asx Z Z (ea Z) (fun w j=>have h:=Gu w s4 ;h)) ?_;refine wz 12 Z Z (QV.lss Z Z Z Z) (wz 13 Z Z (QV.not Z Z) (Em Ag (Al ?_)));refine wc Z e1 (fun l0 o9=>?_) (fun l0 p1=>?_)
    ·skip
     refine Bo (wm Z (have ⟨j1,p0⟩:=cs o9;wq Z (A6 Z Z Z Z j1) (wa Z (Bm (Bd ?_)))));exact B1 ((IntKind.i64.wrap (shrD (IntKind.u64.wrap (y+x)) 1))+1) x g7 (A4 p0 T) (Ck _) (sb Z) (pk [0,1])
    refine Bo (wm Z (wa Z (Bm (Bd ?_))));exact B1 y (IntKind.i64.wrap (shrD (IntKind.u64.wrap (y+x)) 1)) g7 (A4 p1 T) (Ck _) (sb Z) (pk [0,1])
   refine C1 (te (te (Am ?_)));exact Ct y x (Bh p2 T) (sb Z) (pk [0,1])
  refine Aes Z (fun P=>?_) (fun P=>?_)
  ·skip
   have p3:=Akj P J;clear J;refine sr (wm Z (wm Z (have ⟨j2,p4⟩:=cs p3;wq Z (Du Z Z Z Z j2) (wa Z (nr (wm Z (wa Z (Bm ?_))))))));exact Ct (((IntKind.i64.wrap (shrD (IntKind.u64.wrap (a+b)) 1))+A) - b) (IntKind.i64.wrap (shrD (IntKind.u64.wrap (a+b)) 1)) (Ad p4) (sb Z) (pk [0,1])
  have p5:=Akk P J;clear J;refine sr (wm Z (wa Z (nr (wm Z (wa Z (Bm ?_))))));exact Ct a A (Ad p5) (sb Z) (pk [0,1])
theorem M1 {b:Ak}{data:List Due}{t:Int}{r:List Due}{o:Aj} (E:Dr data t=some r) (b6:SliceLen b data.length) (M:Nat→Prop) (w:Aj) (p:Base M o w) (d8:Own M w [Fo b 213 3 (List.map Due.cells data)] w):Calls Tryz.prog 159 #[b,.int .i64 t,.func (.func 126) #[] #[]] w (fun e w'=>∃ X:Aj,e=.returned (.tuple #[])∧Own M w (kn M w.heap.size o X::[Fo b 213 3 (List.map Due.cells r)]) w'∧SliceLen b (r).length):=by
 unfold Dr at E;refine cw 63 Tryz.func159 Z (sr (wa Z (ns (wm Z (wa Z (wa Z (nt (Ax ?_)))))))) (Aw p d8);obtain⟨U,K,e7,d6⟩:=bl E;refine K1 (dt [0,1,2,6] [] Z) (fun (i:List Due) (k:Int) (g:Int) (n:Aj)=>[(7,(true,i_ k)),(8,(true,i_ g))]) (fun i k g n=>[kn M w.heap.size o n,Fo b 213 3 (List.map Due.cells i)]) (fun i k g n m=>Cp (Br t) m (i,k,g)=some U∧SliceLen b i.length∧Le o n) (fun i k g n=>U=.go (i,k,g)∧SliceLen b i.length∧Le o n) data 0 20 o e7 ⟨d6,b6,(Jy _)⟩ (sb Z) (pk [0,1]) ?_ ?_
 ·skip
  rintro i k g n ⟨rfl,v,C⟩;refine Al (sr (wm Z (wm Z (wm Z (wm Z (Ab Z ?_))))));obtain⟨f0,e1,R⟩:=An K;refine(cq p A34 Z (Fu e1 v) Z (fun B b5 f2=>nt ?_));obtain⟨V,c0,e5,d4⟩:=bl R;refine F9 (dt [0,1,2] [] Z) (fun (d:List Due) (a:Int) (c:Aj)=>[(6,(true,i_ a))]) (fun d a c=>[kn M w.heap.size o c,Fo b 213 3 (List.map Due.cells d)]) (fun d a c m=>Cp (B4 t) m (d,a)=some V∧SliceLen b d.length∧Le B c) (fun d a c=>V=.go (d,a)∧SliceLen b d.length∧Le B c) f0 20 B e5 ⟨d4,b5,(Jy _)⟩ (sb Z) (pk [0,1]) ?_ ?_
  ·skip
   rintro d a c ⟨rfl,x,u⟩;obtain rfl:=(Ad c0).symm;refine I5 Z (fun w d7=>?_);exact⟨c,Z,d7.pick [0,1] Ai,x⟩
  rintro d a c m15 ⟨G,x,u⟩;obtain⟨m17,f5,rfl,y,F⟩:=A2 G;unfold B4 at y;simp only at y;refine Ax (sr (wm Z (wm Z (wq Z (QV.lss Z Z Z Z) (nt ?_)))));refine wc Z y (fun a8 c1=>?_) (fun a8 d0=>?_)
  ·skip
   refine sk (Al (Cr (sr (wm Z (have ⟨a2,J⟩:=cs c1;wq Z (QV.mul Z Z Z Z a2) (wa Z (wa Z (nt (Ax ?_)))))))));obtain⟨W,c2,e6,d5⟩:=bl J;refine K1 (dt [0,1,2,6] [] Z) (fun (f:List Due) (l:Int) (h:Int) (j:Aj)=>[(7,(true,i_ l)),(8,(true,i_ h))]) (fun f l h j=>[kn M w.heap.size o j,Fo b 213 3 (List.map Due.cells f)]) (fun f l h j m=>Cp (Bq t a) m (f,l,h)=some W∧SliceLen b f.length∧Le c j) (fun f l h j=>W=.go (f,l,h)∧SliceLen b f.length∧Le c j) d 0 (2 * a) c e6 ⟨d5,x,(Jy _)⟩ (sb Z) (pk [0,1]) ?_ ?_
   ·skip
    rintro f l h j ⟨rfl,s,q⟩;refine Al (Ax (sr (wm Z (wm Z (have ⟨a3,L⟩:=cs c2;wq Z (A6 Z Z Z Z a3) (wa Z (ns (wm Z (wm Z (wq Z (QV.lss Z Z Z Z) (nt ?_)))))))))));refine wc Z L (fun a9 N=>?_) (fun a9 c5=>?_)
    ·skip
     refine Bo (wm Z (wm Z (wm Z (wm Z (wm Z (Ab Z ?_))))));obtain⟨e8,d9,c3⟩:=An N;refine(cq p Ad9 Z (Gm 64 d9 s) Z (fun Y b2 b7=>nr (wm Z (have ⟨a4,c4⟩:=cs c3;wq Z (QV.mul Z Z Z Z a4) (wa Z (Bm (Bd ?_)))))));exact Ed e8 (a * 2) Y m17 ⟨A4 c4 F,b2,((u.trans q).trans b7)⟩ (Ck _) (sb Z) (pk [0,1])
    refine sk (Al (Bo (wm Z (have ⟨a5,c6⟩:=cs c5;wq Z (QV.mul Z Z Z Z a5) (wa Z (Bm (Bd ?_)))))));exact Ed f (a * 2) j m17 ⟨A4 c6 F,s,(u.trans q)⟩ (Ck _) (sb Z) (pk [0,1])
   rintro f l h j f3 ⟨H,s,q⟩;obtain⟨e3,f6,rfl,z,S⟩:=A2 H;unfold Bq at z;simp only at z;refine Ax (sr (wm Z (wm Z (wq Z (QV.leq Z Z Z Z) (nt ?_)))));refine wc Z z (fun b0 O=>?_) (fun b0 c9=>?_)
   ·skip
    refine sk (Al (Cr (sr (wm Z (wm Z (wm Z (wm Z ?_)))))));obtain⟨c51,P⟩:=cs O;refine wq Z (A6 Z Z Z Z c51) (wm Z (wm Z (Ab Z ?_)));obtain⟨e9,e0,c7⟩:=An P;refine(cq p Ad9 Z (Gm 64 e0 s) Z (fun a0 b3 b8=>ns (wm Z (wa Z (nr (wm Z (wm Z (have ⟨a6,a7,c8⟩:=cs2 c7;wq Z (QV.mul Z Z Z Z a6) (wq Z (A6 Z Z Z Z a7) (wa Z (Bm (Bd ?_))))))))))));exact Gh e9 h (h+(2 * a)) a0 e3 ⟨A4 c8 S,b3,(q.trans b8)⟩ (Ck _) (sb Z) (pk [0,1])
   refine C1 (te (te (Am ?_)));exact N2 f l h j ⟨Bh c9 S,s,q⟩ (sb Z) (pk [0,1])
  refine C1 (te (te (Am ?_)));exact J2 d a c ⟨Bh d0 F,x,u⟩ (sb Z) (pk [0,1])
 rintro i k g n f4 ⟨I,v,C⟩;obtain⟨e4,f7,rfl,A,T⟩:=A2 I;unfold Br at A;simp only at A;refine Ax (sr (wm Z (wm Z (wq Z (QV.leq Z Z Z Z) (nt ?_)))));refine wc Z A (fun b1 Q=>?_) (fun b1 d3=>?_)
 ·skip
  refine sk (Al (Cr (sr (wm Z (wm Z (wm Z (wm Z (Ab Z ?_))))))));obtain⟨f1,e2,d1⟩:=An Q;refine(cq p A34 Z (Fu e2 v) Z (fun a1 b4 b9=>ns (wm Z (wa Z (nr (wm Z (wm Z (have ⟨c75,d2⟩:=cs d1;wq Z (A6 Z Z Z Z c75) (wa Z (Bm (Bd ?_)))))))))));exact Gh f1 g (g+20) a1 e4 ⟨A4 d2 T,b4,(C.trans b9)⟩ (Ck _) (sb Z) (pk [0,1])
 refine C1 (te (te (Am ?_)));exact N2 i k g n ⟨Bh d3 T,v,C⟩ (sb Z) (pk [0,1])
theorem Hf {a:Ak}{x r:List Due}{c:Aj} (b:Bl x=some r) (d:SliceLen a x.length) (M:Nat→Prop) (w:Aj) (f:Base M c w) (k:Own M w [Fo a 213 3 (List.map Due.cells x)] w):Calls Tryz.prog 125 #[a,.func (.func 126) #[] #[]] w (fun e w'=>∃ X:Aj,e=.returned (.tuple #[])∧Own M w (kn M w.heap.size c X::[Fo a 213 3 (List.map Due.cells r)]) w'∧SliceLen a (r).length):=by
 unfold Bl at b;refine cw 9 Tryz.func125 Z (Bo (wm Z (wm Z (wq Z (A5 Tryz.underlying161 Z Z d) (wm Z (Ab Z ?_)))))) (Aw f k);obtain⟨n,l,i⟩:=An b;refine(cq f en159 Z (M1 l d) Z (fun g h m=>Bm ?_));obtain rfl:=(Ad i).symm;refine I5 Z (fun w j=>?_);exact⟨g,Z,j.pick [0,1] Ai,h⟩
end Go.Proofs.YtaimbkndebaaiaaGreatDoor
end
section
namespace Go.Proofs.YtaimbkndebaaiaaGreatDoor
open Go.Rd
open TLib TLibR TLibA TSay TNum0 TNum TLoop TPar TStable
namespace TMach
theorem en107:Go.Rd.Enters Tryz.prog 107:=eT Tryz.func107
theorem en125:Go.Rd.Enters Tryz.prog 125:=eT Tryz.func125
theorem en61:Go.Rd.Enters Tryz.prog 61:=eT Tryz.func61
theorem Yj:B8 Tryz.prog 163 0 0:=fT 6 Tryz.underlying163
theorem Abk:B8 Tryz.prog 163 2 10:=fT 0 Tryz.underlying163
theorem I4:B8 Tryz.prog 163 5 13:=fT 0 Tryz.underlying163
theorem A2s:B8 Tryz.prog 213 1 1:=fT 0 Tryz.underlying213
theorem A2r:B8 Tryz.prog 213 2 2:=fT 0 Tryz.underlying213
theorem W4:No Tryz.prog 161:=⟨_,Tryz.underlying161,rfl⟩
theorem Aiv:Dg Tryz.prog 161 1:=by unfold Dg;kernel_rfl
end TMach
open TMach
theorem Acg {x r:Int} (w:Aj) (j:Lm x=some r) :Calls Tryz.prog 107 #[.int .u64 x] w (fun e w'=>e=.returned (.int .i64 r)∧Grow w w'):=by
 unfold Lm at j;refine have u:=D2 (w:=w);cw 25 Tryz.func107 Z (sr (wa Z (nt (Ax (sr (wm Z (wq Z (QV.geq Z Z Z Z) (nt ?_)))))))) (Aw u (D3 w));obtain⟨H,f,l⟩:=An j;refine Y0 (dt [] [0] Z) (fun (c:Int) (b:Int)=>[(0,(true,.int .u64 c)),(2,(true,i_ b))]) (fun c b=>[]) (fun c b=>H=.go (c,b)) (sb Z) (pk [0]) ?_ ?_
 ·skip
  rintro c b rfl;refine Ax (sr (wm Z (wq Z (QV.geq Z Z Z Z) (nt ?_))));obtain⟨I,g,m⟩:=An l;refine Y0 (dt [] [0] Z) (fun (a:Int) (d:Int)=>[(0,(true,.int .u64 a)),(2,(true,i_ d))]) (fun a d=>[]) (fun a d=>I=.go (a,d)) (sb Z) (pk [0]) ?_ ?_
  ·skip
   rintro a d rfl;refine Ax (sr (wm Z (wq Z (QV.geq Z Z Z Z) (nt ?_))));refine wc Z m (fun t G=>?_) (fun t y=>?_)
   ·skip
    refine sr (wm Z (wq Z (Vl Z Z Z Z Ai) (wa Z (nr (wm Z (have ⟨c9,n,o,v⟩:=cs3 G;wq Z (A6 Z Z Z Z c9) (wa Z (ns (wm Z (wm Z (wq Z (Agn (As7 (shrD a 8)) (Sp Tryz.underlying5 Tryz.underlying193 Z Z)) (wq Z (X3 Tryz.underlying9 Z Z Z Z n) (wq Z (Agn (Aiy (ele len8T ((bt (shrD a 8)).toNat:Int))) (Sp Tryz.underlying3 Tryz.underlying5 Z Z)) (wq Z (A6 Z Z Z Z o) (wa Z (nt (Bc ?_)))))))))))))))));obtain rfl:=(Ad v).symm;exact Az Z Z fun w k=>kg k
   refine sk (Al (sr (wm Z (wm Z (wq Z (Agn (As7 a) (Sp Tryz.underlying5 Tryz.underlying193 Z Z)) (have ⟨p,q,z⟩:=cs2 y;wq Z (X3 Tryz.underlying9 Z Z Z Z p) (wq Z (Agn (Aiy (ele len8T ((bt a).toNat:Int))) (Sp Tryz.underlying3 Tryz.underlying5 Z Z)) (wq Z (A6 Z Z Z Z q) (wa Z (nt (Bc ?_)))))))))));obtain rfl:=(Ad z).symm;exact Az Z Z fun w k=>kg k
  refine Aes Z (fun h=>?_) (fun h=>?_)
  ·skip
   have A:=Akj h g;clear g;refine sr (wm Z (wq Z (Vl Z Z Z Z Ai) (wa Z (nr (wm Z (have ⟨s,B⟩:=cs A;wq Z (A6 Z Z Z Z s) (wa Z (Bm ?_))))))));exact Ct (shrD c 16) (b+16) (Ad B) (sb Z) (pk [0])
  have C:=Akk h g;clear g;refine sk ?_;exact Ct c b (Ad C) (sb Z) (pk [0])
 refine Aes Z (fun i=>?_) (fun i=>?_)
 ·skip
  have E:=Akj i f;clear f;refine sr (wm Z (wq Z (Vl Z Z Z Z Ai) (wa Z (nr (wa Z (Bm ?_))))));exact Ct (shrD x 32) 32 (Ad E) (sb Z) (pk [0])
 have F:=Akk i f;clear f;refine sk ?_;exact Ct x 0 (Ad F) (sb Z) (pk [0])
theorem Wm {x r:Int} (w:Aj) (a:G9 x=some r) :Calls Tryz.prog 61 #[.int .u64 x] w (fun e w'=>e=.returned (.int .i64 r)∧Grow w w'):=by
 unfold G9 at a;refine have d:=D2 (w:=w);cw 8 Tryz.func61 Z (sr (wa Z (nt (Ax ?_)))) (Aw d (D3 w));refine Aes Z (fun b=>?_) (fun b=>?_)
 ·skip
  cases b
 refine sk (Al (sr (wm Z ?_)));obtain⟨i,g,f⟩:=An a;refine wq Z (QV.call en107 (ea Z) (fun w c=>have h:=Acg w g ;h)) ?_;refine wa Z (nt (Bc ?_));obtain rfl:=(Ad f).symm;exact Az Z Z fun w c=>kg c
theorem Aih {A:Ak}{memory:List (List Int)}{r:List Int×Bool}{i:Aj} (l:K8 memory=some r) (q:RowsA i A memory) (M:Nat→Prop) (w:Aj) (k:Base M i w) (V:Own M w [] w):Calls Tryz.prog 77 #[A] w (fun e w'=>∃ X:Ak×Aj,e=.returned (.tuple #[X.1,.bool r.2])∧Own M w (kn M w.heap.size i X.2::[]) w'∧Arr X.2 X.1 1 (r.1.map Ar)):=by
 unfold K8 at l;refine cw 38 Tryz.func77 Z (sr (wa Z (wa Z (ns (wa Z (nt (Ax (sr (wm Z (wq Z (A5 Tryz.underlying102 Z Z q.slen) (wm Z (nt (Gk (fun w f=>f.vecNil (E:=3) (sz:=1) (enc:=Ar)) ?_))))))))))))) (Aw k V);obtain⟨z,y,a1,R⟩:=bl l;refine F9 (dt [8,9] [1] Z) (fun (a:List Int) (c:Int) (b:Ak)=>[(4,(true,b)),(10,(true,i_ c))]) (fun a c b=>[vec b 3 1 (List.map Ar a)]) (fun a c b m=>Cp (G1 memory) m (a,c)=some z∧SliceLen b a.length) (fun a c b=>z=.go (a,c)∧SliceLen b a.length) [] 0 (.slice none 0 0) a1 ⟨R,Hg⟩ (sb Z) (pk [0,1]) ?_ ?_
 ·skip
  rintro a c b ⟨rfl,s⟩;refine Al (sr (wm Z (wa Z (wa Z (nt (Bc ?_))))));obtain rfl:=(Ad y).symm;refine kp [1,0] Z (Gc k (fun Y a4 T=>have K:=Cn T;Ei Z Z Z (fun w f=>?_)));exact⟨(b,Y),Z,f.pick [0] Ai,K⟩
 rintro a c b a5 ⟨p,s⟩;obtain⟨a0,a7,rfl,j,n⟩:=A2 p;unfold G1 at j;simp only at j;refine sr (wq Z (QV.lss Z Z Z Z) (nt (Ax ?_)));refine wc Z j (fun H t=>?_) (fun H Q=>?_)
 ·skip
  refine sk (Al (Ax (Cr (sr ?_))));obtain⟨B,N⟩:=cs t;obtain⟨a6,a8,S,L,J⟩:=q.ix B;refine wq Z (Ae St Z Z Z Z S) (wl To Z (co 0 (A1 1 Z k L) Z) (wa Z (ns (wm Z (wq Z (A5 Tryz.underlying43 Z Z J.lenMap) (wa Z (nt (Ax (sr (wm Z (wq Z (QV.eql Z Z Z Z) (wm Z (gN Z (QV.move Z Z) (gN Z (QV.move Z Z) (have ⟨C,u⟩:=cs N;gn Z (fun d=>Du Z d Z Z (C d)) (gn Z (fun d=>Afb Z d Z d) (gn Z (fun d=>QV.neq Z d Z Z) (wq Z (Be Z Z Z (fun h=>Fx h)) (wm Z (gN Z (QV.move Z Z) (gn Z (fun d=>QV.gtr Z d Z Z) (wq Z (Be Z Z Z (fun h=>Fx h)) (nt ?_)))))))))))))))))))))));refine wc Z u (fun I O=>?_) (fun I v=>?_)
  ·skip
   refine sr (wa Z (wa Z (nt (Bc (tr (kr (tr (tr (kr (tr (tr ?_)))))))))));obtain rfl:=Dn O n;obtain rfl:=(Ad y).symm;refine Ei Z Z Z (fun w f=>?_);exact⟨(.slice none 0 0,i),Z,f.pick [1] Ai,Gd⟩
  refine sk (Al (Bo (wm Z (wm Z (wq Z (Sp Tryz.underlying131 Tryz.underlying3 Z Z) ?_)))));obtain⟨g,W,x⟩:=An v;refine wq Z (QV.call en61 (ea Z) (fun w f=>have h:=Wm w W ;h)) ?_;obtain⟨F,o,G,P⟩:=cs3 x;refine wq Z (Du Z Z Z Z F) (Ab Z ((D4 Ai M6 Ai Ai (ps:=[(0,.tmp 33)]) (cells:=[i_ (g - 1)]) (ea Z) Ag (fun a3=>Ab Z ((B0 (enc:=Ar) (xs:=a) (ys:=[(g - 1)]) ((a++[(g - 1)])) 1 Ai Wo Z Z Z Z Z (Bi 0 (rows:=[(g - 1)].map Ar) Z Z (B3 Bf)) Bf (Dh _) Z o.1 o.2 (fun a2 U=>wa Z (Bm (Bd (Al (Bo (wq Z (A6 Z Z Z Z G) (wm Z (Bm ?_))))))))))))));exact Ed (a++[(g - 1)]) (c+1) a2 a0 ⟨A4 P n,U⟩ (Ck _) (sb Z) (pk [1,2])
 refine C1 (te (te (Am ?_)));exact J2 a c b ⟨Bh Q n,s⟩ (sb Z) (pk [0,1])
theorem Eu {h:Addr}{m p n o:Ak}{a:Tgt}{d f g i pace r:Int} (w:Aj) (b:Cv a d f g i pace=some r) (k:CellsAt w h [.int .i64 a.u0,.int .i64 a.u1,.int .i64 a.u2,.int .i64 a.w0,.int .i64 a.w1,.int .i64 a.w2,.int .i64 a.regs,.int .i64 d,.int .i64 f,m,p,n,.int .i64 g,o] 0):Calls Tryz.prog 122 #[.pointer (some h),.int .i64 i,.int .i64 pace] w (fun e w'=>e=.returned (.int .i64 r)∧Grow w w'):=by
 unfold Cv at b;refine have c:=D2 (w:=w);cw 16 Tryz.func122 Z (sr (wa Z (ns (wm Z (wm Z ?_))))) (Aw c (D3 w));obtain⟨c1,c3,j⟩:=cs2 b;refine wq Z (A6 Z Z Z Z c1) (wm Z (wq Z (QV.nilCheck Z Z) (wf Yj Z (wf Nd Z (wl pl3 Z (co 6 (A1 0 Z c k) Z) (wq Z (QV.rem Z Z Z Z c3) (wa Z (nt (Bc ?_)))))))));obtain rfl:=(Ad j).symm;exact Az Z Z fun w l=>kg l
theorem Po {B g i:Ak}{u:List Ak}{j:Ak}{q:Nat}{a:Tgt}{x y:Int}{a1:List Opr}{z:List Int}{n:List (List Int)}{A:Int}{H:List Due}{C:Int}{r:List Int×List Due}{p:Aj} (F:Dv a x y a1 z n A H C=some r) (b8:Arr p B 10 (a1.map Opr.cells)) (a7:SliceLen g z.length) (b9:SliceLen i n.length) (c0:GL u n) (a6:SliceLen j H.length) (M:Nat→Prop) (w:Aj) (O:Base M p w) (b5:Own M w [blk q [.int .i64 a.u0,.int .i64 a.u1,.int .i64 a.u2,.int .i64 a.w0,.int .i64 a.w1,.int .i64 a.w2,.int .i64 a.regs,.int .i64 x,.int .i64 y,B,g,i,.int .i64 A,j] 163,vec g 2 1 (List.map Ar z),Iy i u 43 2 n,Fo j 213 3 (List.map Due.cells H)] w):Calls Tryz.prog 81 #[.pointer (some (⟨q,0,none⟩)),.int .i64 C] w (fun e w'=>∃ X:Ak×Ak×Aj,e=.returned (.tuple #[])∧Own M w (kn M w.heap.size p X.2.2::[blk q [.int .i64 a.u0,.int .i64 a.u1,.int .i64 a.u2,.int .i64 a.w0,.int .i64 a.w1,.int .i64 a.w2,.int .i64 a.regs,.int .i64 x,.int .i64 y,B,X.1,i,.int .i64 A,X.2.1] 163,Iy i u 43 2 n,vec X.1 2 1 (List.map Ar r.1),Fo X.2.1 213 3 (List.map Due.cells r.2)]) w'∧SliceLen X.1 (r.1).length∧SliceLen X.2.1 (r.2).length):=by
 unfold Dv at F;refine cw 61 Tryz.func81 Z (sr (wm Z (wq Z (QV.nilCheck Z Z) (wf I4 Z (wl W4 Z (Aq 1 Z Z) (Ab Z ?_)))))) (Aw O b5);obtain⟨f,b6,S⟩:=An F;refine(cr [0,4,1,2,3] O en125 Z (Hf b6 a6) Z (fun I k c1=>ns (wa Z (nt (Ax ?_)))));obtain⟨a2,T,b7,b4⟩:=bl S;refine Cj (dt [0,1] [0,1,2,4] Z) (fun (d:List Int) (b:Int)=>[(4,(true,i_ b))]) (fun d b=>[vec g 2 1 (List.map Ar d)]) (fun d b m=>Cp (Ea C f) m (d,b)=some a2∧SliceLen g d.length) (fun d b=>a2=.go (d,b)∧SliceLen g d.length) z 0 b7 ⟨b4,a7⟩ (sb Z) (pk [3,0,1,2,4]) ?_ ?_
 ·skip
  rintro d b ⟨rfl,o⟩;refine Al (Bo (wm Z (wm Z (wq Z (QV.nilCheck Z Z) (wf I4 Z (wl W4 Z (Aq 3 Z Z) (wm Z ?_)))))));obtain⟨s,a9⟩:=cs T;refine wq Z (Od J0 Z Z k Z Z s) (wq Z (QV.nilCheck Z Z) (wf I4 Z (Ab Z (ep [2,0,1,3,4] Z (have E:=Uc (sz:=3) k s;EV.of (C':=Own M w [Fo (Ng j 3 (Int.toNat b) (Int.toNat (ln f))) 213 3 (List.map Due.cells (sub f b (ln f))),vec g 2 1 (List.map Ar d),kn M w.heap.size p I,blk q [i_ a.u0,i_ a.u1,i_ a.u2,i_ a.w0,i_ a.w1,i_ a.w2,i_ a.regs,i_ x,i_ y,B,g,i,i_ A,j] 163,Iy i u 43 2 n]) (fun w G=>G.ovecCut (A48 s) (A1t s)) ((ex 3 [(Ng j 3 (Int.toNat b) (Int.toNat (ln f)))] (Hz E) Aiv (oc (De E) Cg) Z (Bm ?_))))))));obtain rfl:=(Ad a9).symm;refine I5 Z (fun w G=>?_);exact⟨(g,(Ng j 3 (Int.toNat b) (Int.toNat (ln f))),I),Z,G.pick [2,3,4,1,0] Ai,o,E⟩
 rintro d b c2 ⟨N,o⟩;obtain⟨m15,c7,rfl,t,U⟩:=A2 N;unfold Ea at t;simp only at t;refine Ax (sr (wm Z (wm Z (wq Z (QV.nilCheck Z Z) (wf I4 Z (wl W4 Z (Aq 3 Z Z) (wq Z (A5 Tryz.underlying161 Z Z k) (wq Z (QV.lss Z Z Z Z) (wm Z (gP Z (QV.move Z Z) (gp Z (fun c=>QV.nilCheck Z c) (gp Z (fun c=>QV.fieldAddr I4 Z c) (gp Z (fun c=>Cm W4 Z c (Aq 3 Z Z)) (gP Z (QV.move Z Z) ?_))))))))))))));obtain⟨J,P⟩:=cs t;obtain⟨c3,V⟩:=k.ixG (sz:=3) Ap J;refine gp Z (fun c=>Ae J0 Z c Z c (V c)) (gp Z (fun c=>QV.fieldAddr Amj Z c) (gp Z (fun c=>Cm pl3 Z c (cl 0 (Dk 2 Z) (V c) (J c) Z)) (gP Z (QV.move Z Z) (gp Z (fun c=>QV.leq Z c Z c) (wq Z (A8 Z Z Z (fun h=>h)) (nt ?_))))));refine wc Z P (fun a5 Q=>?_) (fun a5 b3=>?_)
 ·skip
  refine sk (Al (Ax (Cr (dp 22 [1,0,2,3,4] Z (zm 0 Z Z (wz 1 Z Z (QV.nilCheck Z Z) (zf 2 Abk Z Z (zl 3 To Z Z (Aq 3 Z Z) (zm 4 Z Z (wz 5 Z Z (QV.nilCheck Z Z) (zf 6 I4 Z Z (zl 7 W4 Z Z (Aq 3 Z Z) (zm 8 Z Z ?_)))))))))))));obtain⟨K,R⟩:=cs Q;obtain⟨c4,W⟩:=k.ix (sz:=3) Ap K;refine wz 9 Z Z (Ae J0 Z Z Z Z W) (zf 10 A2s Z Z (zl 11 pl3 Z Z (cl 1 (Dk 2 Z) W K Z) (zm 12 Z Z (wz 13 Z Z (QV.nilCheck Z Z) (zf 14 I4 Z Z (zl 15 W4 Z Z (Aq 3 Z Z) (zm 16 Z Z ?_)))))));obtain⟨L,b0⟩:=cs R;obtain⟨c5,Y⟩:=k.ix (sz:=3) Ap L;refine wz 17 Z Z (Ae J0 Z Z Z Z Y) (zf 18 A2r Z Z (zl 19 pl2 Z Z (cl 2 (Dk 2 Z) Y L Z) (have ⟨a3,b1⟩:=cs b0;have ⟨c6,a0⟩:=o.ix (sz:=1) Ap a3;wz 20 Z Z (Ae Zx Z Z Z Z a0) (WD.l 21 Z Ag Z ((Ui 0 ((ele f b).v) T8 Z Z Z Z Z a0 Z Z sz2 ?_))))));have a8:SliceLen g (upd d ((ele f b).reg) ((ele f b).v)).length:=H9 o;refine Bd (Al (Bo (wm Z (have ⟨a4,b2⟩:=cs b1;wq Z (A6 Z Z Z Z a4) (wa Z (Bm ?_))))));exact B1 (upd d ((ele f b).reg) ((ele f b).v)) (b+1) m15 ⟨A4 b2 U,a8⟩ (Ck _) (sb Z) (pk [0,1,2,3,4])
 refine C1 (te (te (Am ?_)));exact Ct d b ⟨Bh b3 U,o⟩ (sb Z) (pk [0,1,2,3,4])
end Go.Proofs.YtaimbkndebaaiaaGreatDoor
end