/- Texts for the law, 7. -/
import Derived.Test.YtaimbkndebaaiaaGreatDoorZLdriveOn6
import Derived.Test.YtaimbkndebaaiaaGreatDoorProg
import Derived.KernelRfl
import Derived.Shelf.SlSortCmp.NoneTotal
set_option linter.unusedVariables false
set_option linter.unusedSimpArgs false
set_option maxRecDepth 8000
set_option linter.defProp false
open Go renaming World→Aj,Value→Ak
open Decidable renaming decide→Ao
open Bool renaming false→Ay
open Go.Value renaming cells→Ee
section
namespace Go.Proofs.YtaimbkndebaaiaaGreatDoor
open Go.Rd
open TLib TLibR TLibA TSay TNum0 TNum TLoop TPar TStable TMach
namespace TMach2
theorem Aay:Rs Tryz.prog 64 10:=⟨_,Tryz.underlying64,rfl,Ag⟩
theorem Axm:Go.Rd.Enters Tryz.prog 114:=eT Tryz.func114
theorem A4c:Go.Rd.Enters Tryz.prog 116:=eT Tryz.func116
theorem Afq:Go.Rd.Enters Tryz.prog 122:=eT Tryz.func122
theorem A4a:Go.Rd.Enters Tryz.prog 123:=eT Tryz.func123
theorem en124:Go.Rd.Enters Tryz.prog 124:=eT Tryz.func124
theorem en81:Go.Rd.Enters Tryz.prog 81:=eT Tryz.func81
theorem Atu:B8 Tryz.prog 163 1 7:=fT 2 Tryz.underlying163
theorem Amk:B8 Tryz.prog 163 3 11:=fT 0 Tryz.underlying163
theorem A2t:B8 Tryz.prog 163 4 12:=fT 0 Tryz.underlying163
theorem U9:B8 Tryz.prog 60 0 0:=fT 0 Tryz.underlying60
theorem R7:B8 Tryz.prog 60 2 2:=fT 0 Tryz.underlying60
theorem Ac7:B8 Tryz.prog 64 0 0:=fT 0 Tryz.underlying64
theorem U8:B8 Tryz.prog 64 1 1:=fT 0 Tryz.underlying64
theorem Tl:B8 Tryz.prog 64 2 2:=fT 0 Tryz.underlying64
theorem U7:B8 Tryz.prog 64 3 3:=fT 0 Tryz.underlying64
theorem Alp:B8 Tryz.prog 64 4 4:=fT 0 Tryz.underlying64
theorem Alo:B8 Tryz.prog 64 5 5:=fT 0 Tryz.underlying64
theorem Ayk:B8 Tryz.prog 64 6 6:=fT 0 Tryz.underlying64
theorem Ayj:B8 Tryz.prog 64 7 7:=fT 0 Tryz.underlying64
theorem Ayi:B8 Tryz.prog 64 8 8:=fT 0 Tryz.underlying64
theorem Ayh:B8 Tryz.prog 64 9 9:=fT 0 Tryz.underlying64
theorem pl1:No Tryz.prog 1:=⟨_,Tryz.underlying1,rfl⟩
theorem Ix:No Tryz.prog 159:=⟨_,Tryz.underlying159,rfl⟩
theorem Ah6:No Tryz.prog 58:=⟨_,Tryz.underlying58,rfl⟩
theorem sl209:I1 Tryz.prog 209 1 1:=⟨Tryz.underlying209,Ag⟩
theorem Awu:I1 Tryz.prog 58 64 10:=⟨Tryz.underlying58,Ag⟩
theorem Ap5:Dg Tryz.prog 64 10:=by unfold Dg;kernel_rfl
theorem Agi:O4 Tryz.prog 161 213 3 [.int .i64 0,.int .i64 0,.int .i64 0]:=⟨Tryz.underlying161,Ag⟩
theorem A45:O4 Tryz.prog 209 1 1 [.nilFunc]:=⟨Tryz.underlying209,Ag⟩
theorem Anl:Ws Tryz.prog 161 213 3 24:=⟨Tryz.underlying161,Ag,Ai⟩
theorem ve209:Ws Tryz.prog 209 1 1 8:=⟨Tryz.underlying209,Ag,Ai⟩
theorem ze3:ZeroT Tryz.prog 3 [.int .i64 0]:=by unfold ZeroT;kernel_rfl
theorem Ap4:ZeroT Tryz.prog 64 [.int .i64 0,.int .i64 0,.int .i64 0,.int .i64 0,.int .i64 0,.int .i64 0,.int .i64 0,.int .i64 0,.int .i64 0,.int .i64 0]:=by unfold ZeroT;kernel_rfl
end TMach2
open TMach2
theorem Pn {v i f:Ak}{k:List Ak}{g:Ak}{p:Nat}{c:Tgt}{s t:Int}{F:List Opr}{m:List Int}{d:List (List Int)}{u:Int}{l:List Due}{o:Opr}{G:Int}{r:(Int×Int)}{j:Aj} (z:Ef c s t F m d u l o G=some r) (R:Arr j v 10 (F.map Opr.cells)) (T:SliceLen i m.length) (H:SliceLen f d.length) (y:GL k d) (S:SliceLen g l.length) (M:Nat→Prop) (w:Aj) (I:Base M j w) (N:Own M w [blk p [.int .i64 c.u0,.int .i64 c.u1,.int .i64 c.u2,.int .i64 c.w0,.int .i64 c.w1,.int .i64 c.w2,.int .i64 c.regs,.int .i64 s,.int .i64 t,v,i,f,.int .i64 u,g] 163,vec i 2 1 (List.map Ar m),Iy f k 43 2 d,Fo g 213 3 (List.map Due.cells l)] w):Calls Tryz.prog 123 #[.pointer (some (⟨p,0,none⟩)),.agg #[.int .i64 o.slot,.int .i64 o.stage,.int .i64 o.op,.int .i64 o.dest,.int .i64 o.a,.int .i64 o.b,.int .i64 o.ar,.int .i64 o.sp,.int .i64 o.pl,.int .i64 o.n],.int .i64 G] w (fun e w'=>∃ X:Addr×Aj,e=.returned (.pointer (some X.1))∧Own M w (kn M w.heap.size j X.2::[blk p [.int .i64 c.u0,.int .i64 c.u1,.int .i64 c.u2,.int .i64 c.w0,.int .i64 c.w1,.int .i64 c.w2,.int .i64 c.regs,.int .i64 s,.int .i64 t,v,i,f,.int .i64 u,g] 163,vec i 2 1 (List.map Ar m),Iy f k 43 2 d,Fo g 213 3 (List.map Due.cells l)]) w'∧IX r.1 (ln d)∧Li (hat k r.1) r.2 1 X.1∧IX r.2 (ln (ele d r.1))):=by
 unfold Ef at z;refine cw 29 Tryz.func123 Z (sr (Ab Z ((A3 Ai Z Z (fun b1=>wa Z (nt (Ax (dp 9 [1,0,2,3,4,5] Z (zm 0 Z Z (wz 1 Z Z (QV.nilCheck Z Z) (zf 2 Amk Z Z (zl 3 Nn Z Z (Aq 2 Z Z) (zf 4 Ayk Z Z (zl 5 pl3 Z Z (Aq 1 Z Z) (have ⟨c2,B⟩:=cs z;have ⟨U,E⟩:=H.ix (sz:=1) Ap c2;wz 6 Z Z (Ae St Z Z Z Z E) (zl 7 To Z Z (Fb 4 Z E c2) (wz 8 Z Z (QV.assign Z Z) (Em Ag (Al (Ax (dp 14 [1,0,2,3,4,5] Z (zm 0 Z Z (zf 1 Ayj Z Z (zl 2 pl3 Z Z (Aq 1 Z Z) (zf 3 Ayi Z Z (zl 4 pl3 Z Z (Aq 1 Z Z) (zm 5 Z Z (zm 6 Z Z (wz 7 Z Z (A5 Tryz.underlying43 Z Z (y.ix o.ar)) (wz 8 Z Z (Sp Tryz.underlying131 Tryz.underlying3 Z Z) ?_)))))))))))))))))))))))))))))) (Aw I N);obtain⟨W,P,L⟩:=An B;refine wz 9 Z Z (QV.call en61 (ea Z) (fun w q=>have h:=Wm w P ;h)) ?_;refine have ⟨c9,A⟩:=cs L;wz 10 Z Z (Du Z Z Z Z c9) ?_;obtain⟨V,O,J⟩:=An A;refine wz 11 Z Z (QV.call Axm (ea Z) (fun w q=>have h:=Xx w O ;h)) ?_;refine have ⟨x,K⟩:=cs J;have ⟨Q,C⟩:=(y.ix o.ar).ix (sz:=1) Ap x;wz 12 Z Z (Ae Zx Z Z Z Z C) (wz 13 Z Z (QV.assign Z Z) (Em Ag (Al (Bc ?_))));obtain rfl:=(Ad K).symm;refine Az Z Z (fun w q=>?_);exact⟨(Q,j),Z,q.pick [1,2,3,4,5] Ai,c2,C,x⟩
theorem Sn {E:Addr}{y j h:Ak}{s:List Ak}{i:Ak}{p:Nat}{F G H:Addr}{a:Int}{c:Tgt}{u v:Int}{C:List Opr}{l:List Int}{g:List (List Int)}{x:Int}{k:List Due}{o:Opr}{I:Int}{r:List (List Int)}{d:Aj} (q:Gb a c u v C l g x k o I=some r) (S:CellsAt d E [.int .i64 a] 0) (K:Arr d y 10 (C.map Opr.cells)) (N:SliceLen j l.length) (A:SliceLen h g.length) (B:GL s g) (L:SliceLen i k.length) (T:CellsAt d F [.pointer (some (⟨p,0,none⟩))] 0) (U:CellsAt d G [.int .i64 o.slot,.int .i64 o.stage,.int .i64 o.op,.int .i64 o.dest,.int .i64 o.a,.int .i64 o.b,.int .i64 o.ar,.int .i64 o.sp,.int .i64 o.pl,.int .i64 o.n] 0) (V:CellsAt d H [.int .i64 I] 0) (M:Nat→Prop) (w:Aj) (f:Base M d w) (W:Own M w [blk p [.int .i64 c.u0,.int .i64 c.u1,.int .i64 c.u2,.int .i64 c.w0,.int .i64 c.w1,.int .i64 c.w2,.int .i64 c.regs,.int .i64 u,.int .i64 v,y,j,h,.int .i64 x,i] 163,vec j 2 1 (List.map Ar l),Iy h s 43 2 g,Fo i 213 3 (List.map Due.cells k)] w):Calls Tryz.prog 124 #[.pointer (some E),.pointer (some F),.pointer (some G),.pointer (some H)] w (fun e w'=>∃ X:Ak×(List Ak)×Aj,e=.returned (.tuple #[])∧Own M w (kn M w.heap.size d X.2.2::[blk p [.int .i64 c.u0,.int .i64 c.u1,.int .i64 c.u2,.int .i64 c.w0,.int .i64 c.w1,.int .i64 c.w2,.int .i64 c.regs,.int .i64 u,.int .i64 v,y,j,X.1,.int .i64 x,i] 163,vec j 2 1 (List.map Ar l),Fo i 213 3 (List.map Due.cells k),Iy X.1 X.2.1 43 2 r]) w'∧SliceLen X.1 (r).length∧GL X.2.1 r):=by
 unfold Gb at q;refine cw 10 Tryz.func124 Z (dq 7 (zl 0 Ix Z Z (co 0 (A1 0 Z f T) Z) (wz 1 Z Z (Af Aay Z Z Z (A1 0 Z f U)) (zl 2 pl3 Z Z (co 0 (A1 0 Z f V) Z) (Ac9 7 Ag (zq 4 7 23 Z (Cm pl2 Z Z (co 0 (A1 0 Z f S) Z)) (Lh 3 23 31 Z Ag Z ?_))))))) (Aw f W);obtain⟨m,Y,R⟩:=An q;refine(cq f A4a Z (Pn Y K N A B L) Z (fun J z Q=>bp [0,1,2,3,4] Z (fun w t=>Fk Q (Jy _) (t.pick [0,1,2,3,4] Ai)) (zq 5 31 63 Z (QV.nilCheck Z Z) (WD.lL 6 63 127 Z Ag Z ((Uj 3 a Z Z Z Z Z z.1 z.2.1 sz2 ?_))))));have O:=B.updG m.1 m.2 a;have P:SliceLen h (updG g m.1 m.2 a).length:=Ud A;obtain rfl:=(Ad R).symm;refine I5 Z (fun w t=>?_);exact⟨(h,s,J.2),Z,t.pick [0,1,2,4,3] Ai,P,O⟩
theorem V9 {a0 f2 c6:Ak}{e3:List Ak}{f1:Ak}{V:Nat}{a:Tgt}{f P:Int}{g:List Opr}{f0:List Int}{B:List (List Int)}{Q:Int}{e9:List Due}{pace slot:Int}{r:List Int×List (List Int)×List Due}{c4:Aj} (e2:F6 a f P g f0 B Q e9 pace slot=some r) (a7:Arr c4 a0 10 (g.map Opr.cells)) (o3:SliceLen f2 f0.length) (d9:SliceLen c6 B.length) (e1:GL e3 B) (o2:SliceLen f1 e9.length) (M:Nat→Prop) (w:Aj) (c:Base M c4 w) (r1:Own M w [blk V [.int .i64 a.u0,.int .i64 a.u1,.int .i64 a.u2,.int .i64 a.w0,.int .i64 a.w1,.int .i64 a.w2,.int .i64 a.regs,.int .i64 f,.int .i64 P,a0,f2,c6,.int .i64 Q,f1] 163,vec f2 2 1 (List.map Ar f0),Iy c6 e3 43 2 B,Fo f1 213 3 (List.map Due.cells e9)] w):Calls Tryz.prog 80 #[.pointer (some (⟨V,0,none⟩)),.int .i64 pace,.int .i64 slot] w (fun e w'=>∃ X:Ak×Ak×(List Ak)×Ak×Aj,e=.returned (.tuple #[])∧Own M w (kn M w.heap.size c4 X.2.2.2.2::[blk V [.int .i64 a.u0,.int .i64 a.u1,.int .i64 a.u2,.int .i64 a.w0,.int .i64 a.w1,.int .i64 a.w2,.int .i64 a.regs,.int .i64 f,.int .i64 P,a0,X.1,X.2.1,.int .i64 Q,X.2.2.2.1] 163,vec X.1 2 1 (List.map Ar r.1),Iy X.2.1 X.2.2.1 43 2 r.2.1,Fo X.2.2.2.1 213 3 (List.map Due.cells r.2.2)]) w'∧SliceLen X.1 (r.1).length∧SliceLen X.2.1 (r.2.1).length∧GL X.2.2.1 r.2.1∧SliceLen X.2.2.2.1 (r.2.2).length):=by
 unfold F6 at e2;refine cw 147 Tryz.func80 Z (sr (Ab Z ((A3h Ai Z Z Z (fun b1=>kp [1,0,2,3,4,5] Z (Gc c (fun u3 b0 q9=>have k:=Pu q9;ns (wm Z (wl Ix Z (co 0 (A1 0 Z c k) Z) (wq Z (QV.nilCheck Z Z) (wf Atu Z (wf U9 Z (wl pl3 Z (Aq 1 Z Z) ?_))))))))))))) (Aw c r1);obtain⟨c3,c5,j2⟩:=cs2 e2;refine wq Z (QV.mul Z Z Z Z c3) (wm Z (wq Z (A6 Z Z Z Z c5) (wa Z (ns (wl Ix Z (co 0 (A1 0 Z c k) Z) (wm Z (Ab Z ?_)))))));obtain⟨t,s5,k2⟩:=An j2;refine(cq c en81 Z (Po s5 (a7.le b0) o3 d9 e1 o2) Z (fun F a6 j=>ns (wa Z (nt (Ax (sr (wl Ix Z (co 0 (A1 0 Z c (k.le j)) Z) (wq Z (QV.nilCheck Z Z) (wf Atu Z (wf R7 Z (wl Ah6 Z (Aq 1 Z Z) (wq Z (A5 Tryz.underlying58 Z Z (a7.le (b0.trans j)).lenMap) (wm Z (nt (Gk (fun w p=>p.vecNil (E:=1) (sz:=1) (enc:=Abe)) ?_)))))))))))))));obtain⟨l1,h5,s9,q4⟩:=bl k2;refine Aj9 (dt [1,2,3,6,32,33] [3,4] Z) (fun (o:List Due) (s:List (Opr×Int×Int)) (b:Int) (v:Ak) (x:Ak) (q:List (Ak×Opr×Int×Int)) (u:Aj)=>[(7,(true,x)),(34,(true,i_ b))]) (fun o s b v x q u=>[vec x 1 1 (List.map Abe q),kn M w.heap.size c4 u,blk V [i_ a.u0,i_ a.u1,i_ a.u2,i_ a.w0,i_ a.w1,i_ a.w2,i_ a.regs,i_ f,i_ P,a0,F.1,c6,i_ Q,v] 163,Fo v 213 3 (List.map Due.cells o)]) (fun o s b v x q u m=>Cp (Cx a f P g B Q pace slot t) m (o,s,b)=some l1∧SliceLen v o.length∧SliceLen x s.length∧q.map (·.2)=s∧ClosK 124 (.pointer (some (⟨b1,0,none⟩))) u q∧Le F.2.2 u) (fun o s b v x q u=>l1=.go (o,s,b)∧SliceLen v o.length∧SliceLen x s.length∧q.map (·.2)=s∧ClosK 124 (.pointer (some (⟨b1,0,none⟩))) u q∧Le F.2.2 u) t.2 ([]:List (Opr×Int×Int)) 0 F.2.1 (.slice none 0 0) ([]:List (Ak×Opr×Int×Int)) F.2.2 s9 ⟨q4,a6.2,Hg,Z,ClosK.nil,(Jy _)⟩ (sb Z) (pk [0,1,2,5,3,4]) ?_ ?_
 ·skip
  rintro o s b v x q u ⟨rfl,b3,O,L,N,d⟩;refine Al (sr (wm Z (wq Z (A5 Tryz.underlying209 Z Z O) (wm Z (nt ?_)))));obtain⟨l2,p5,t0,q5⟩:=bl h5;refine Rn (dt [138,139] [0,3,5] Z) (fun (z:List (List Int)) (K:Int) (A:Ak) (G:List Ak) (J:Aj)=>[(140,(true,i_ K))]) (fun z K A G J=>[kn M w.heap.size c4 J,blk V [i_ a.u0,i_ a.u1,i_ a.u2,i_ a.w0,i_ a.w1,i_ a.w2,i_ a.regs,i_ f,i_ P,a0,F.1,A,i_ Q,v] 163,Iy A G 43 2 z]) (fun z K A G J m=>Cp (D0 a f P g Q t o s) m (z,K)=some l2∧SliceLen A z.length∧GL G z∧Le u J) (fun z K A G J=>l2=.go (z,K)∧SliceLen A z.length∧GL G z∧Le u J) B 0 c6 e3 u t0 ⟨q5,d9,e1,(Jy _)⟩ (sb Z) (pk [1,2,4,0,3,5]) ?_ ?_
  ·skip
   rintro z K A G J ⟨rfl,d3,d2,b2⟩;obtain rfl:=(Ad p5).symm;refine I5 Z (fun w p=>?_);exact⟨(F.1,A,G,v,J),Z,p.pick [0,1,5,2,4] Ai,a6.1,d3,d2,b3⟩
  rintro z K A G J u4 ⟨g4,d3,d2,b2⟩;obtain⟨s8,v3,rfl,d4,k5⟩:=A2 g4;unfold D0 at d4;simp only at d4;refine sr (wq Z (QV.lss Z Z Z Z) (nt (Ax ?_)));refine wc Z d4 (fun n5 i7=>?_) (fun n5 q0=>?_)
  ·skip
   refine sk (Al (Ax (Cr (sr ?_))));obtain⟨f8,i8⟩:=cs i7;obtain⟨u6,k6⟩:=O.ix (sz:=1) Ap f8;obtain⟨v0,v1,v2,o0,o6,o7,o8⟩:=ClosK.ix (N.le b2) L f8;refine wq Z (Ae sl209 Z Z Z Z k6) (wl pl1 Z (fun w p=>CellsAt.one 0 (o0 w _ ((Df 3 Z) w p) _ k6) Z) (wa Z (nr (wm Z (Ab Z ?_)))));obtain⟨d6,s2,p8⟩:=An i8;refine ep [0,1,5,2,4,3] Z ?_;refine(Awq (X:=Ak×(List Ak)×Aj) (R:=[blk V [i_ a.u0,i_ a.u1,i_ a.u2,i_ a.w0,i_ a.w1,i_ a.w2,i_ a.regs,i_ f,i_ P,a0,F.1,A,i_ Q,v] 163,vec F.1 2 1 (List.map Ar t.1),Iy A G 43 2 z,Fo v 213 3 (List.map Due.cells o)]) (fun X=>.tuple #[]) (fun X=>[blk V [i_ a.u0,i_ a.u1,i_ a.u2,i_ a.w0,i_ a.w1,i_ a.w2,i_ a.regs,i_ f,i_ P,a0,F.1,X.1,i_ Q,v] 163,vec F.1 2 1 (List.map Ar t.1),Fo v 213 3 (List.map Due.cells o),Iy X.1 X.2.1 43 2 d6]) (fun X=>X.2.2) (fun X=>SliceLen X.1 (d6).length∧GL X.2.1 d6) c (fun _ h=>by cases h;decide) en124 Z Z eN (fun M w n1 n4=>have h:=Sn s2 o6 (a7.le (((b0.trans j).trans d).trans b2)) a6.1 d3 d2 b3 (k.le ((j.trans d).trans b2)) o7 o8 M w n1 n4;h) (fun d7 g3 p0=>?_));refine Bm (Bd (Al (Bo (have ⟨m7,p9⟩:=cs p8;wq Z (A6 Z Z Z Z m7) (wm Z (Bm ?_))))));exact Rm d6 (K+1) d7.1 d7.2.1 d7.2.2 s8 ⟨A4 p9 k5,g3.1,g3.2,(b2.trans p0)⟩ (Ck _) (sb Z) (pk [0,1,4,5,3,2])
  refine C1 (te (te (Am ?_)));exact Yr z K A G J ⟨Bh q0 k5,d3,d2,b2⟩ (sb Z) (pk [0,1,2,3,4,5])
 rintro o s b v x q u u5 ⟨g5,b3,O,L,N,d⟩;obtain⟨b4,v4,rfl,d5,Y⟩:=A2 g5;unfold Cx at d5;simp only at d5;refine sr (wq Z (QV.lss Z Z Z Z) (nt (Ax ?_)));refine wc Z d5 (fun n6 i9=>?_) (fun n6 p7=>?_)
 ·skip
  refine sk (Al (Ax (Cr (sr ?_))));obtain⟨f9,j0⟩:=cs i9;obtain⟨u7,k7⟩:=(a7.le ((b0.trans j).trans d)).lenMap.ix (sz:=10) Ap f9;refine wq Z (Ae Awu Z Z Z Z k7) (wq Z (Af Aay Z Z Z (el (Ah 1 Z c (a7.le ((b0.trans j).trans d))) k7 f9)) (Ab Z ((Ci Ai Ap4 (fun S=>Ab Z ((ew 0 (Opr.cells (ele g b)) Ap5 Z (ns (wm Z (wf U8 Z (wl pl3 Z (Aq 0 Z Z) ?_)))))))))));obtain⟨m8,j1⟩:=cs j0;refine wq Z (Du Z Z Z Z m8) (Ab Z ((Ci Ai ze3 (fun T=>Ab Z ((ew 0 [i_ (pace - (ele g b).stage)] sz3 Z (nt (Ax (Ax (dp 16 [3,0,1,2,4,5,6,7] Z (zf 0 Ac7 Z Z (zl 1 pl3 Z Z (Aq 2 Z Z) (zm 2 Z Z (wz 3 Z Z (QV.neq Z Z Z Z) (zm 4 Z Z (zN 5 Z Z (Cm pl3 Z Z (Aq 1 Z Z)) (zn 6 Z Z (fun H=>QV.lss Z H Z Z) (wz 7 Z Z (Be Z Z Z (fun h=>Fx h)) (zm 8 Z Z (zN 9 Z Z (Cm pl3 Z Z (Aq 1 Z Z)) (zN 10 Z Z (Cm Ix Z Z (co 0 (A1 0 Z c (k.le (j.trans d))) Z)) (zn 11 Z Z (fun H=>QV.nilCheck Z H) (zn 12 Z Z (fun H=>QV.fieldAddr A2t Z H) (zn 13 Z Z (fun H=>Cm pl3 Z H (Aq 4 Z Z)) (zn 14 Z Z (fun H=>QV.geq Z H Z H) (wz 15 Z Z (Be Z Z Z (fun h=>Fx h)) (Em Ag (Al ?_))))))))))))))))))))))))))));refine wc Z j1 (fun n7 q1=>?_) (fun n7 j3=>?_)
  ·skip
   refine C1 (te (Am (Al (Bo (have ⟨m9,q2⟩:=cs q1;wq Z (A6 Z Z Z Z m9) (wm Z (Bm ?_)))))));exact Pv o s (b+1) v x q u b4 ⟨A4 q2 Y,b3,O,L,N,d⟩ (Ck _) (sb Z) (pk [2,3,4,5,6,7])
  refine sk (Al (Ax (dp 25 [3,0,1,2,4,5,6,7] Z (zl 0 Ix Z Z (co 0 (A1 0 Z c (k.le (j.trans d))) Z) (wz 1 Z Z (QV.nilCheck Z Z) (zf 2 Abk Z Z (zl 3 To Z Z (Aq 4 Z Z) (zl 4 Ix Z Z (co 0 (A1 0 Z c (k.le (j.trans d))) Z) (zf 5 Alp Z Z (zl 6 pl3 Z Z (Aq 2 Z Z) (zm 7 Z Z ?_)))))))))));obtain⟨y,s3,j4⟩:=An j3;refine wz 8 Z Z (QV.call Afq (ea Z) (fun w p=>have h:=Eu w s3 (Ac 4 Z w p);h)) ?_;obtain⟨g0,j5⟩:=cs j4;obtain⟨u8,k8⟩:=a6.1.ix (sz:=1) Ap g0;refine wz 9 Z Z (Ae Zx Z Z Z Z k8) (zl 10 pl2 Z Z (cl 0 (Df 7 Z) k8 g0 Z) (zl 11 Ix Z Z (co 0 (A1 0 Z c (k.le (j.trans d))) Z) (wz 12 Z Z (QV.nilCheck Z Z) (zf 13 Abk Z Z (zl 14 To Z Z (Aq 4 Z Z) (zl 15 Ix Z Z (co 0 (A1 0 Z c (k.le (j.trans d))) Z) (zf 16 Alo Z Z (zl 17 pl3 Z Z (Aq 2 Z Z) (zm 18 Z Z ?_)))))))));obtain⟨v5,s4,j6⟩:=An j5;refine wz 19 Z Z (QV.call Afq (ea Z) (fun w p=>have h:=Eu w s4 (Ac 4 Z w p);h)) ?_;obtain⟨g1,j7⟩:=cs j6;obtain⟨u9,k9⟩:=a6.1.ix (sz:=1) Ap g1;refine wz 20 Z Z (Ae Zx Z Z Z Z k9) (zl 21 pl2 Z Z (cl 0 (Df 7 Z) k9 g1 Z) (Dd 22 Z Ag Z ((Ci Ai ze2 (fun U=>bp [4,1,2,3,5,6,7,8] Z (pk [0,1,2,3,4,5,6,7]) (Dd 23 Z Ag Z ((ew 0 [i_ (ele t.1 y)] sz2 Z (bp [4,0,1,2,3,5,6,7,8] Z (pk [0,2,3,4,5,6,7,8]) (wz 24 Z Z (QV.assign Z Z) (Em Ag (Al (sr (wa Z (nt (Ax (sr (wf Tl Z (wl pl3 Z (Aq 2 Z Z) (nt (Cr (sr (wq Z (QV.eql Z Z Z Z) (wa Z (nt ?_)))))))))))))))))))))))));refine wc Z j7 (fun n8 j8=>?_) (fun n8 k3=>?_)
  ·skip
   refine Bo (wf Ayh Z (wl pl2 Z (Aq 2 Z Z) (wa Z (Bm (Bd (Al (dp 28 [4,0,1,2,3,5,7,8] Z (zl 0 Ix Z Z (co 0 (A1 0 Z c (k.le (j.trans d))) Z) (zl 1 Ix Z Z (co 0 (A1 0 Z c (k.le (j.trans d))) Z) (wz 2 Z Z (QV.nilCheck Z Z) (zf 3 I4 Z Z (zl 4 W4 Z Z (Aq 5 Z Z) (zm 5 Z Z (zl 6 Ix Z Z (co 0 (A1 0 Z c (k.le (j.trans d))) Z) (zf 7 Tl Z Z (zl 8 pl3 Z Z (Aq 3 Z Z) ?_))))))))))))))));obtain⟨a5,s6,j9⟩:=An j8;refine wz 9 Z Z (QV.call Ah8 (ea Z) (fun w p=>have h:=Ho w s6 ;h)) ?_;refine wz 10 Z Z (QV.nilCheck Z Z) (zf 11 Yj Z Z (zf 12 Xk Z Z ?_));obtain⟨d0,c85,k0⟩:=cs2 j9;refine wz 13 Z Z (Cu Up Z Z Z Z d0.1 d0.2) (zl 14 pl3 Z Z (Er 5 Z (Ia (off:=3) (i:=a5) d0.1 d0.2 Z Z Z) (Hi _ _ _)) (wz 15 Z Z (A6 Z Z Z Z c85) (zl 16 Ix Z Z (co 0 (A1 0 Z c (k.le (j.trans d))) Z) (zf 17 U7 Z Z (zl 18 pl3 Z Z (Aq 3 Z Z) (zm 19 Z Z ?_))))));obtain⟨c0,s7,k1⟩:=An k0;refine wz 20 Z Z (QV.call Afq (ea Z) (fun w p=>have h:=Eu w s7 (Ac 5 Z w p);h)) ?_;refine zm 21 Z Z (wz 22 Z Z (QV.build (ps:=[(0,.tmp 125),(1,.tmp 130),(2,.tmp 131)]) (cells:=[i_ (((pace * f)+slot)+(Cq a.w0 a.w1 a.w2 a5)),i_ c0,i_ ((ele g b).n)]) (ea Z) Ag) (Dd 23 Z Ag Z ((D4 Ai Agi Ai Ai (ps:=[(0,.tmp 132)]) (cells:=[i_ (((pace * f)+slot)+(Cq a.w0 a.w1 a.w2 a5)),i_ c0,i_ ((ele g b).n)]) (ea Z) Ag (fun t7=>bp [5,0,1,2,3,4,6,8,9] Z (pk [0,2,3,4,5,6,7,8]) (Dd 24 Z Ag Z ?_))))));obtain⟨g2,n0,q3⟩:=cs2 k1;refine(Sj (enc:=Due.cells) (xs:=o) (ys:=[(Due.mk (((pace * f)+slot)+(Cq a.w0 a.w1 a.w2 a5)) c0 ((ele g b).n))]) ((o++[(Due.mk (((pace * f)+slot)+(Cq a.w0 a.w1 a.w2 a5)) c0 ((ele g b).n))])) 7 Ai Anl Z Z Z Z Z (Bi 0 (rows:=[(Due.mk (((pace * f)+slot)+(Cq a.w0 a.w1 a.w2 a5)) c0 ((ele g b).n))].map Due.cells) Z Z (B3 Zc)) Zc (Ani _) Z g2.1 g2.2 (fun l7 e8=>bp [5,0,1,2,3,4,6,7,8,9] Z (pk [0,1,2,3,4,5,6,8,9]) (wz 25 Z Z (QV.nilCheck Z Z) (zf 26 I4 Z Z (WD.l 27 Z Ag Z ((ex 6 [l7] (Hz e8) Aiv (oc (De e8) Cg) Z (Bd (Al (Bo (wq Z (A6 Z Z Z Z n0) (wm Z (Bm ?_)))))))))))));exact Pv (o++[(Due.mk (((pace * f)+slot)+(Cq a.w0 a.w1 a.w2 a5)) c0 ((ele g b).n))]) s (b+1) l7 x q u b4 ⟨A4 q3 Y,e8,O,L,N,d⟩ (Ck _) (sb Z) (pk [4,5,6,7,8,9])
  refine sr (wq Z (QV.eql Z Z Z Z) (wa Z (nt ?_)));refine wc Z k3 (fun n9 k4=>?_) (fun n9 g9=>?_)
  ·skip
   refine Bo (wl pl3 Z (Aq 1 Z Z) (wa Z (Bm (Bd (Al (dp 28 [4,0,1,2,3,5,7,8] Z (zl 0 Ix Z Z (co 0 (A1 0 Z c (k.le (j.trans d))) Z) (zl 1 Ix Z Z (co 0 (A1 0 Z c (k.le (j.trans d))) Z) (wz 2 Z Z (QV.nilCheck Z Z) (zf 3 I4 Z Z (zl 4 W4 Z Z (Aq 5 Z Z) (zm 5 Z Z (zl 6 Ix Z Z (co 0 (A1 0 Z c (k.le (j.trans d))) Z) (zf 7 Tl Z Z (zl 8 pl3 Z Z (Aq 3 Z Z) ?_)))))))))))))));obtain⟨a1,r2,g6⟩:=An k4;refine wz 9 Z Z (QV.call Ah8 (ea Z) (fun w p=>have h:=Ho w r2 ;h)) ?_;refine wz 10 Z Z (QV.nilCheck Z Z) (zf 11 Yj Z Z (zf 12 Xk Z Z ?_));obtain⟨c7,l9,g7⟩:=cs2 g6;refine wz 13 Z Z (Cu Up Z Z Z Z c7.1 c7.2) (zl 14 pl3 Z Z (Er 5 Z (Ia (off:=3) (i:=a1) c7.1 c7.2 Z Z Z) (Hi _ _ _)) (wz 15 Z Z (A6 Z Z Z Z l9) (zl 16 Ix Z Z (co 0 (A1 0 Z c (k.le (j.trans d))) Z) (zf 17 U7 Z Z (zl 18 pl3 Z Z (Aq 3 Z Z) (zm 19 Z Z ?_))))));obtain⟨b5,r3,g8⟩:=An g7;refine wz 20 Z Z (QV.call Afq (ea Z) (fun w p=>have h:=Eu w r3 (Ac 5 Z w p);h)) ?_;refine zm 21 Z Z (wz 22 Z Z (QV.build (ps:=[(0,.tmp 125),(1,.tmp 130),(2,.tmp 131)]) (cells:=[i_ (((pace * f)+slot)+(Cq a.w0 a.w1 a.w2 a1)),i_ b5,i_ (pace - (ele g b).stage)]) (ea Z) Ag) (Dd 23 Z Ag Z ((D4 Ai Agi Ai Ai (ps:=[(0,.tmp 132)]) (cells:=[i_ (((pace * f)+slot)+(Cq a.w0 a.w1 a.w2 a1)),i_ b5,i_ (pace - (ele g b).stage)]) (ea Z) Ag (fun t2=>bp [5,0,1,2,3,4,6,8,9] Z (pk [0,2,3,4,5,6,7,8]) (Dd 24 Z Ag Z ?_))))));obtain⟨f3,m0,p1⟩:=cs2 g8;refine(Sj (enc:=Due.cells) (xs:=o) (ys:=[(Due.mk (((pace * f)+slot)+(Cq a.w0 a.w1 a.w2 a1)) b5 (pace - (ele g b).stage))]) ((o++[(Due.mk (((pace * f)+slot)+(Cq a.w0 a.w1 a.w2 a1)) b5 (pace - (ele g b).stage))])) 7 Ai Anl Z Z Z Z Z (Bi 0 (rows:=[(Due.mk (((pace * f)+slot)+(Cq a.w0 a.w1 a.w2 a1)) b5 (pace - (ele g b).stage))].map Due.cells) Z Z (B3 Zc)) Zc (Ani _) Z f3.1 f3.2 (fun l3 e4=>bp [5,0,1,2,3,4,6,7,8,9] Z (pk [0,1,2,3,4,5,6,8,9]) (wz 25 Z Z (QV.nilCheck Z Z) (zf 26 I4 Z Z (WD.l 27 Z Ag Z ((ex 6 [l3] (Hz e4) Aiv (oc (De e4) Cg) Z (Bd (Al (Bo (wq Z (A6 Z Z Z Z m0) (wm Z (Bm ?_)))))))))))));exact Pv (o++[(Due.mk (((pace * f)+slot)+(Cq a.w0 a.w1 a.w2 a1)) b5 (pace - (ele g b).stage))]) s (b+1) l3 x q u b4 ⟨A4 p1 Y,e4,O,L,N,d⟩ (Ck _) (sb Z) (pk [4,5,6,7,8,9])
  refine sr (wq Z (QV.eql Z Z Z Z) (wa Z (nt ?_)));refine wc Z g9 (fun n2 h0=>?_) (fun n2 h6=>?_)
  ·skip
   refine Bo (wl Ix Z (co 0 (A1 4 Z c (k.le (j.trans d))) Z) (wq Z (Af Aay Z Z Z (Ac 2 Z)) (wl pl3 Z (Aq 1 Z Z) (Ab Z ?_))));obtain⟨C,r4,h1⟩:=An h0;refine(cr [4,5,8,7,6,0,1,2,3] c A4a Z (Pn r4 (a7.le ((b0.trans j).trans d)) a6.1 d9 e1 b3) Z (fun l8 d8 a8=>wq Z (QV.nilCheck Z Z) (wl pl2 Z (cl 0 (Jc 3 Z d8.1) d8.2.1 d8.2.2 Z) (wa Z (Bm (Bd (Al (dp 28 [0,1,2,3,5,6,7,8] Z (zl 0 Ix Z Z (co 0 (A1 0 Z c (k.le ((j.trans d).trans a8))) Z) (zl 1 Ix Z Z (co 0 (A1 0 Z c (k.le ((j.trans d).trans a8))) Z) (wz 2 Z Z (QV.nilCheck Z Z) (zf 3 I4 Z Z (zl 4 W4 Z Z (Aq 1 Z Z) (zm 5 Z Z (zl 6 Ix Z Z (co 0 (A1 0 Z c (k.le ((j.trans d).trans a8))) Z) (zf 7 Tl Z Z (zl 8 pl3 Z Z (Aq 6 Z Z) ?_)))))))))))))))));obtain⟨a2,r5,h2⟩:=An h1;refine wz 9 Z Z (QV.call Ah8 (ea Z) (fun w p=>have h:=Ho w r5 ;h)) ?_;refine wz 10 Z Z (QV.nilCheck Z Z) (zf 11 Yj Z Z (zf 12 Xk Z Z ?_));obtain⟨c127,m1,h3⟩:=cs2 h2;refine wz 13 Z Z (Cu Up Z Z Z Z c127.1 c127.2) (zl 14 pl3 Z Z (Er 1 Z (Ia (off:=3) (i:=a2) c127.1 c127.2 Z Z Z) (Hi _ _ _)) (wz 15 Z Z (A6 Z Z Z Z m1) (zl 16 Ix Z Z (co 0 (A1 0 Z c (k.le ((j.trans d).trans a8))) Z) (zf 17 U7 Z Z (zl 18 pl3 Z Z (Aq 6 Z Z) (zm 19 Z Z ?_))))));obtain⟨b6,r6,h4⟩:=An h3;refine wz 20 Z Z (QV.call Afq (ea Z) (fun w p=>have h:=Eu w r6 (Ac 1 Z w p);h)) ?_;refine zm 21 Z Z (wz 22 Z Z (QV.build (ps:=[(0,.tmp 125),(1,.tmp 130),(2,.tmp 131)]) (cells:=[i_ (((pace * f)+slot)+(Cq a.w0 a.w1 a.w2 a2)),i_ b6,i_ (ele (ele B C.1) C.2)]) (ea Z) Ag) (Dd 23 Z Ag Z ((D4 Ai Agi Ai Ai (ps:=[(0,.tmp 132)]) (cells:=[i_ (((pace * f)+slot)+(Cq a.w0 a.w1 a.w2 a2)),i_ b6,i_ (ele (ele B C.1) C.2)]) (ea Z) Ag (fun t3=>bp [1,0,2,3,4,6,7,8,9] Z (pk [0,2,3,4,5,6,7,8]) (Dd 24 Z Ag Z ?_))))));obtain⟨f4,m2,p2⟩:=cs2 h4;refine(Sj (enc:=Due.cells) (xs:=o) (ys:=[(Due.mk (((pace * f)+slot)+(Cq a.w0 a.w1 a.w2 a2)) b6 (ele (ele B C.1) C.2))]) ((o++[(Due.mk (((pace * f)+slot)+(Cq a.w0 a.w1 a.w2 a2)) b6 (ele (ele B C.1) C.2))])) 5 Ai Anl Z Z Z Z Z (Bi 0 (rows:=[(Due.mk (((pace * f)+slot)+(Cq a.w0 a.w1 a.w2 a2)) b6 (ele (ele B C.1) C.2))].map Due.cells) Z Z (B3 Zc)) Zc (Ani _) Z f4.1 f4.2 (fun l4 e5=>bp [1,0,2,3,4,5,6,7,8,9] Z (pk [0,1,2,3,4,6,7,8,9]) (wz 25 Z Z (QV.nilCheck Z Z) (zf 26 I4 Z Z (WD.l 27 Z Ag Z ((ex 2 [l4] (Hz e5) Aiv (oc (De e5) Cg) Z (Bd (Al (Bo (wq Z (A6 Z Z Z Z m2) (wm Z (Bm ?_)))))))))))));exact Pv (o++[(Due.mk (((pace * f)+slot)+(Cq a.w0 a.w1 a.w2 a2)) b6 (ele (ele B C.1) C.2))]) s (b+1) l4 x q l8.2 b4 ⟨A4 p2 Y,e5,O,L,(N.le a8),(d.trans a8)⟩ (Ck _) (sb Z) (pk [9,1,2,5,4,3])
  refine sr (wq Z (QV.eql Z Z Z Z) (wa Z (nt ?_)));refine wc Z h6 (fun n3 h7=>?_) (fun n3 p4=>?_)
  ·skip
   refine sr (wl pl2 Z (Aq 0 Z Z) (wa Z (nr (wm Z (wq Z (QV.makeFunc (ea Z)) (Ab Z ((D4 Ai A45 Ai Ai (ps:=[(0,.tmp 107)]) (cells:=[.func (.func 124) #[] #[.pointer (some (⟨U,0,none⟩)),.pointer (some (⟨b1,0,none⟩)),.pointer (some (⟨S,0,none⟩)),.pointer (some (⟨T,0,none⟩))]]) (ea Z) Ag (fun t4=>Ab Z (ep [5,1,0,2,3,4,6,7,8,9] Z (Wv c (fun t8 a9 q6=>have o4:=Pu q6;ep [0,3,1,2,4,5,6,7,8] Z (Wv c (fun t9 W q7=>have e0:=Pu q7;ep [0,2,1,3,4,5,6,7] Z (Wv c (fun l0 I q8=>?_))))))))))))))));have o5:=Pu q8;obtain⟨f5,h8⟩:=cs h7;have o1:ClosK 124 (.pointer (some (⟨b1,0,none⟩))) l0 (q++([(.func (.func 124) #[] #[.pointer (some (⟨U,0,none⟩)),.pointer (some (⟨b1,0,none⟩)),.pointer (some (⟨S,0,none⟩)),.pointer (some (⟨T,0,none⟩))],((ele g b),(pace - (ele g b).stage),(ele t.1 y)))]:List (Ak×Opr×Int×Int))):=ClosK.snoc (N.le ((a9.trans W).trans I)) (o4.le (W.trans I)) (e0.le I) o5;have d1:((q++([(.func (.func 124) #[] #[.pointer (some (⟨U,0,none⟩)),.pointer (some (⟨b1,0,none⟩)),.pointer (some (⟨S,0,none⟩)),.pointer (some (⟨T,0,none⟩))],((ele g b),(pace - (ele g b).stage),(ele t.1 y)))]:List (Ak×Opr×Int×Int))):List (Ak×Opr×Int×Int)).map (·.2)=(s++[((ele g b),(pace - (ele g b).stage),(ele t.1 y))]):=A0g L;refine(B0 (enc:=Abe) (xs:=q) (ys:=([(.func (.func 124) #[] #[.pointer (some (⟨U,0,none⟩)),.pointer (some (⟨b1,0,none⟩)),.pointer (some (⟨S,0,none⟩)),.pointer (some (⟨T,0,none⟩))],((ele g b),(pace - (ele g b).stage),(ele t.1 y)))]:List (Ak×Opr×Int×Int))) (q++([(.func (.func 124) #[] #[.pointer (some (⟨U,0,none⟩)),.pointer (some (⟨b1,0,none⟩)),.pointer (some (⟨S,0,none⟩)),.pointer (some (⟨T,0,none⟩))],((ele g b),(pace - (ele g b).stage),(ele t.1 y)))]:List (Ak×Opr×Int×Int))) 2 Ai ve209 Z Z Z Z Z (Bi 1 (rows:=([(.func (.func 124) #[] #[.pointer (some (⟨U,0,none⟩)),.pointer (some (⟨b1,0,none⟩)),.pointer (some (⟨S,0,none⟩)),.pointer (some (⟨T,0,none⟩))],((ele g b),(pace - (ele g b).stage),(ele t.1 y)))]:List (Ak×Opr×Int×Int)).map Abe) Z Z (B3 Ajw)) Ajw (A24 Z) Z (AL.c1 d1 f5) (AL.c2 d1 f5) (fun t1 r0=>have o9:=Ay7 d1 r0;wa Z (Bm (Bd (Al (dp 28 [0,1,2,3,5,6] Z (zl 0 Ix Z Z (co 0 (A1 0 Z c (k.le ((((j.trans d).trans a9).trans W).trans I))) Z) (zl 1 Ix Z Z (co 0 (A1 0 Z c (k.le ((((j.trans d).trans a9).trans W).trans I))) Z) (wz 2 Z Z (QV.nilCheck Z Z) (zf 3 I4 Z Z (zl 4 W4 Z Z (Aq 3 Z Z) (zm 5 Z Z (zl 6 Ix Z Z (co 0 (A1 0 Z c (k.le ((((j.trans d).trans a9).trans W).trans I))) Z) (zf 7 Tl Z Z (zl 8 pl3 Z Z (co 2 (A1 0 Z c (e0.le I)) Z) ?_)))))))))))))));obtain⟨a3,r7,h9⟩:=An h8;refine wz 9 Z Z (QV.call Ah8 (ea Z) (fun w p=>have h:=Ho w r7 ;h)) ?_;refine wz 10 Z Z (QV.nilCheck Z Z) (zf 11 Yj Z Z (zf 12 Xk Z Z ?_));obtain⟨c8,m3,i0⟩:=cs2 h9;refine wz 13 Z Z (Cu Up Z Z Z Z c8.1 c8.2) (zl 14 pl3 Z Z (Er 3 Z (Ia (off:=3) (i:=a3) c8.1 c8.2 Z Z Z) (Hi _ _ _)) (wz 15 Z Z (A6 Z Z Z Z m3) (zl 16 Ix Z Z (co 0 (A1 0 Z c (k.le ((((j.trans d).trans a9).trans W).trans I))) Z) (zf 17 U7 Z Z (zl 18 pl3 Z Z (co 3 (A1 0 Z c (e0.le I)) Z) (zm 19 Z Z ?_))))));obtain⟨b7,r8,i1⟩:=An i0;refine wz 20 Z Z (QV.call Afq (ea Z) (fun w p=>have h:=Eu w r8 (Ac 3 Z w p);h)) ?_;refine zm 21 Z Z (wz 22 Z Z (QV.build (ps:=[(0,.tmp 125),(1,.tmp 130),(2,.tmp 131)]) (cells:=[i_ (((pace * f)+slot)+(Cq a.w0 a.w1 a.w2 a3)),i_ b7,i_ (ele t.1 y)]) (ea Z) Ag) (Dd 23 Z Ag Z ((D4 Ai Agi Ai Ai (ps:=[(0,.tmp 132)]) (cells:=[i_ (((pace * f)+slot)+(Cq a.w0 a.w1 a.w2 a3)),i_ b7,i_ (ele t.1 y)]) (ea Z) Ag (fun t5=>bp [1,0,2,3,4,6,7] Z (pk [0,2,3,4,5,6]) (Dd 24 Z Ag Z ?_))))));obtain⟨f6,m4,p3⟩:=cs2 i1;refine(Sj (enc:=Due.cells) (xs:=o) (ys:=[(Due.mk (((pace * f)+slot)+(Cq a.w0 a.w1 a.w2 a3)) b7 (ele t.1 y))]) ((o++[(Due.mk (((pace * f)+slot)+(Cq a.w0 a.w1 a.w2 a3)) b7 (ele t.1 y))])) 5 Ai Anl Z Z Z Z Z (Bi 0 (rows:=[(Due.mk (((pace * f)+slot)+(Cq a.w0 a.w1 a.w2 a3)) b7 (ele t.1 y))].map Due.cells) Z Z (B3 Zc)) Zc (Ani _) Z f6.1 f6.2 (fun l5 e6=>bp [1,0,2,3,4,5,6,7] Z (pk [0,1,2,3,4,6,7]) (wz 25 Z Z (QV.nilCheck Z Z) (zf 26 I4 Z Z (WD.l 27 Z Ag Z ((ex 4 [l5] (Hz e6) Aiv (oc (De e6) Cg) Z (Bd (Al (Bo (wq Z (A6 Z Z Z Z m4) (wm Z (Bm ?_)))))))))))))
   exact Pv (o++[(Due.mk (((pace * f)+slot)+(Cq a.w0 a.w1 a.w2 a3)) b7 (ele t.1 y))]) (s++[((ele g b),(pace - (ele g b).stage),(ele t.1 y))]) (b+1) l5 t1 (q++([(.func (.func 124) #[] #[.pointer (some (⟨U,0,none⟩)),.pointer (some (⟨b1,0,none⟩)),.pointer (some (⟨S,0,none⟩)),.pointer (some (⟨T,0,none⟩))],((ele g b),(pace - (ele g b).stage),(ele t.1 y)))]:List (Ak×Opr×Int×Int))) l0 b4 ⟨A4 p3 Y,e6,o9,d1,o1,(((d.trans a9).trans W).trans I)⟩ (Ck _) (sb Z) (pk [3,1,4,5,6,7])
  refine Bo (wf Tl Z (wl pl3 Z (Aq 2 Z Z) (have ⟨c173,i2⟩:=cs p4;wq Z (Du Z Z Z Z c173) (wl pl2 Z (Aq 0 Z Z) (wm Z ?_)))));obtain⟨b8,r9,i3⟩:=An i2;refine wq Z (QV.call A4c (ea Z) (fun w p=>have h:=Aol w r9 ;h)) ?_;refine wa Z (Bm (Bd (Al (dp 28 [4,0,1,2,3,5,7,8] Z (zl 0 Ix Z Z (co 0 (A1 0 Z c (k.le (j.trans d))) Z) (zl 1 Ix Z Z (co 0 (A1 0 Z c (k.le (j.trans d))) Z) (wz 2 Z Z (QV.nilCheck Z Z) (zf 3 I4 Z Z (zl 4 W4 Z Z (Aq 5 Z Z) (zm 5 Z Z (zl 6 Ix Z Z (co 0 (A1 0 Z c (k.le (j.trans d))) Z) (zf 7 Tl Z Z (zl 8 pl3 Z Z (Aq 3 Z Z) ?_)))))))))))));obtain⟨a4,s0,i4⟩:=An i3;refine wz 9 Z Z (QV.call Ah8 (ea Z) (fun w p=>have h:=Ho w s0 ;h)) ?_;refine wz 10 Z Z (QV.nilCheck Z Z) (zf 11 Yj Z Z (zf 12 Xk Z Z ?_));obtain⟨c9,m5,i5⟩:=cs2 i4;refine wz 13 Z Z (Cu Up Z Z Z Z c9.1 c9.2) (zl 14 pl3 Z Z (Er 5 Z (Ia (off:=3) (i:=a4) c9.1 c9.2 Z Z Z) (Hi _ _ _)) (wz 15 Z Z (A6 Z Z Z Z m5) (zl 16 Ix Z Z (co 0 (A1 0 Z c (k.le (j.trans d))) Z) (zf 17 U7 Z Z (zl 18 pl3 Z Z (Aq 3 Z Z) (zm 19 Z Z ?_))))));obtain⟨b9,s1,i6⟩:=An i5;refine wz 20 Z Z (QV.call Afq (ea Z) (fun w p=>have h:=Eu w s1 (Ac 5 Z w p);h)) ?_;refine zm 21 Z Z (wz 22 Z Z (QV.build (ps:=[(0,.tmp 125),(1,.tmp 130),(2,.tmp 131)]) (cells:=[i_ (((pace * f)+slot)+(Cq a.w0 a.w1 a.w2 a4)),i_ b9,i_ b8]) (ea Z) Ag) (Dd 23 Z Ag Z ((D4 Ai Agi Ai Ai (ps:=[(0,.tmp 132)]) (cells:=[i_ (((pace * f)+slot)+(Cq a.w0 a.w1 a.w2 a4)),i_ b9,i_ b8]) (ea Z) Ag (fun t6=>bp [5,0,1,2,3,4,6,8,9] Z (pk [0,2,3,4,5,6,7,8]) (Dd 24 Z Ag Z ?_))))));obtain⟨f7,m6,p6⟩:=cs2 i6;refine(Sj (enc:=Due.cells) (xs:=o) (ys:=[(Due.mk (((pace * f)+slot)+(Cq a.w0 a.w1 a.w2 a4)) b9 b8)]) ((o++[(Due.mk (((pace * f)+slot)+(Cq a.w0 a.w1 a.w2 a4)) b9 b8)])) 7 Ai Anl Z Z Z Z Z (Bi 0 (rows:=[(Due.mk (((pace * f)+slot)+(Cq a.w0 a.w1 a.w2 a4)) b9 b8)].map Due.cells) Z Z (B3 Zc)) Zc (Ani _) Z f7.1 f7.2 (fun l6 e7=>bp [5,0,1,2,3,4,6,7,8,9] Z (pk [0,1,2,3,4,5,6,8,9]) (wz 25 Z Z (QV.nilCheck Z Z) (zf 26 I4 Z Z (WD.l 27 Z Ag Z ((ex 6 [l6] (Hz e7) Aiv (oc (De e7) Cg) Z (Bd (Al (Bo (wq Z (A6 Z Z Z Z m6) (wm Z (Bm ?_)))))))))))));exact Pv (o++[(Due.mk (((pace * f)+slot)+(Cq a.w0 a.w1 a.w2 a4)) b9 b8)]) s (b+1) l6 x q u b4 ⟨A4 p6 Y,e7,O,L,N,d⟩ (Ck _) (sb Z) (pk [4,5,6,7,8,9])
 refine C1 (te (te (Am ?_)));exact At8 o s b v x q u ⟨Bh p7 Y,b3,O,L,N,d⟩ (sb Z) (pk [0,1,2,3,4,5])
end Go.Proofs.YtaimbkndebaaiaaGreatDoor
end
section
namespace Go.Proofs.YtaimbkndebaaiaaGreatDoor
open Go.Rd
open TLib TLibR TLibA TSay TNum0 TNum TLoop TPar TStable TMach TMach2
namespace TKern
theorem Asz:Rs Tryz.prog 196 2:=⟨_,Tryz.underlying196,rfl,Ag⟩
theorem O0:Rs Tryz.prog 60 3:=⟨_,Tryz.underlying60,rfl,Ag⟩
theorem A4j:Aly Tryz.prog 196 2 1:=⟨_,Tryz.underlying196,Ag⟩
theorem en121:Go.Rd.Enters Tryz.prog 121:=eT Tryz.func121
theorem A36:Go.Rd.Enters Tryz.prog 154:=eT Tryz.func154
theorem Axj:Go.Rd.Enters Tryz.prog 155:=eT Tryz.func155
theorem A35:Go.Rd.Enters Tryz.prog 158:=eT Tryz.func158
theorem Aag:B8 Tryz.prog 60 1 1:=fT 0 Tryz.underlying60
theorem Abc:KeyT Tryz.prog 196 kP:=Awl Tryz.underlying196 Tryz.underlying3 Ag
theorem Abb:Aqd Tryz.prog 195 196 3:=Tryz.underlying195
theorem A3q:Dg Tryz.prog 196 2:=by unfold Dg;kernel_rfl
theorem A3l:ZeroT Tryz.prog 196 [.int .i64 0,.int .i64 0]:=by unfold ZeroT;kernel_rfl
theorem Rc:Akl Tryz.prog 3 (Dz 0):=by unfold Akl;kernel_rfl
end TKern
open TKern
theorem Zs {o:Opr}{r:Stm} (w:Aj) (c:K6 o=some r) :Calls Tryz.prog 154 #[.agg #[.int .i64 o.slot,.int .i64 o.stage,.int .i64 o.op,.int .i64 o.dest,.int .i64 o.a,.int .i64 o.b,.int .i64 o.ar,.int .i64 o.sp,.int .i64 o.pl,.int .i64 o.n]] w (fun e w'=>e=.returned (.agg #[.int .i64 r.op,.int .i64 r.a.st,.int .i64 r.a.bk,.int .i64 r.b.st,.int .i64 r.b.bk,.int .i64 r.ar,.int .i64 r.sp,.int .i64 r.pl,.int .i64 r.n])∧Grow w w'):=by
 unfold K6 at c;refine have d:=D2 (w:=w);cw 14 Tryz.func154 Z (sr (Ab Z ((A3 Ai Z Z (fun b1=>Ab Z ((Ci Ai S8 (fun b2=>ns (wf Tl Z (wl pl3 Z (Aq 1 Z Z) (wf Ayk Z (wl pl3 Z (Aq 1 Z Z) (wf Ayj Z (wl pl3 Z (Aq 1 Z Z) (wf Ayi Z (wl pl3 Z (Aq 1 Z Z) (wf Ayh Z (wl pl2 Z (Aq 1 Z Z) (wq Z (QV.build (ps:=[(0,.tmp 4),(3,.tmp 6),(4,.tmp 8),(5,.tmp 10),(6,.tmp 12)]) (cells:=[i_ o.op,i_ 0,i_ 0,i_ 0,i_ 0,i_ o.ar,i_ o.sp,i_ o.pl,i_ o.n]) (ea Z) Ag) (Ab Z ((ew 0 [i_ o.op,i_ 0,i_ 0,i_ 0,i_ 0,i_ o.ar,i_ o.sp,i_ o.pl,i_ o.n] S9 Z (nt (Bc ?_)))))))))))))))))))))))) (Aw d (D3 w));obtain rfl:=(Ad c).symm;exact Vv Z N5 Z Z (Ac 0 Z) fun w f=>kg f
theorem Tm {f:Ak}{c:Krn}{o:Opr}{r:Int} (w:Aj) (d:Gs c o=some r) (j:Arr w f 10 (c.ops.map Opr.cells)):Calls Tryz.prog 155 #[.agg #[.int .i64 c.pace,.int .i64 c.stages,f],.agg #[.int .i64 o.slot,.int .i64 o.stage,.int .i64 o.op,.int .i64 o.dest,.int .i64 o.a,.int .i64 o.b,.int .i64 o.ar,.int .i64 o.sp,.int .i64 o.pl,.int .i64 o.n]] w (fun e w'=>e=.returned (.int .i64 r)∧Grow w w'):=by
 unfold Gs at d;refine have g:=D2 (w:=w);cw 13 Tryz.func155 Z (sr (Ab Z ((A3 Ai Z Z (fun b1=>Ab Z ((A3 Ai Z Z (fun b2=>wa Z (ns (wf U8 Z (wl pl3 Z (Aq 0 Z Z) (wf U9 Z (wl pl3 Z (Aq 1 Z Z) (have ⟨c3,c5,h⟩:=cs2 d;wq Z (QV.mul Z Z Z Z c3) (wf Ac7 Z (wl pl3 Z (Aq 0 Z Z) (wq Z (A6 Z Z Z Z c5) (wa Z (nt (Bc ?_)))))))))))))))))))) (Aw g (D3 w));obtain rfl:=(Ad h).symm;exact Az Z Z fun w i=>kg i
theorem Yf {f g:Addr}{i c n:Int}{t:Tgt}{r:Bool} (w:Aj) (d:Me i c n t=some r) (j:CellsAt w f [.int .i64 n] 0) (k:CellsAt w g [.int .i64 t.u0,.int .i64 t.u1,.int .i64 t.u2,.int .i64 t.w0,.int .i64 t.w1,.int .i64 t.w2,.int .i64 t.regs] 0):Calls Tryz.prog 158 #[.int .i64 i,.int .i64 c,.pointer (some f),.pointer (some g)] w (fun e w'=>e=.returned (.bool r)∧Grow w w'):=by
 unfold Me at d;refine have b:=D2 (w:=w);cw 24 Tryz.func158 Z (sr (wa Z (ns (wm Z (wq Z (QV.eql Z Z Z Z) (wm Z (gN Z (Cm pl3 Z Z (co 0 (A1 0 Z b j) Z)) (gN Z (QV.move Z Z) (gn Z (fun a=>QV.gtr Z a Z a) (gn Z (fun a=>QV.move Z a) (gpC Z (fun a=>QV.move Z Z) (gpC Z (fun a=>QV.gtr Z a Z Z) (gn Z (fun a=>A8 Z a Z (fun h=>Aw1 a h)) (gn Z (fun a=>QV.move Z a) (gpC Z (fun a=>QV.move Z Z) (gpC Z (fun a=>QV.fieldAddr Nd Z Z) (gpC Z (fun a=>Cm pl3 Z a (co 6 (A1 0 Z b k) Z)) (gpC Z (fun a=>QV.lss Z a Z a) (gn Z (fun a=>A8 Z a Z (fun h=>Aw1 a h)) (wq Z (Be Z Z Z (fun h=>Fx h)) (wa Z (nt (Bc ?_))))))))))))))))))))))) (Aw b (D3 w));obtain rfl:=(Ad d).symm;exact Az Z Z fun w l=>kg l
theorem Apq {G l:Ak}{t:Tgt}{s:Krn}{o:Opr}{logs:List Int}{r:Bool} (w:Aj) (y:Qm t s o logs=some r) (J:Arr w G 10 (s.ops.map Opr.cells)) (x:Arr w l 1 (logs.map Ar)):Calls Tryz.prog 121 #[.agg #[.int .i64 t.u0,.int .i64 t.u1,.int .i64 t.u2,.int .i64 t.w0,.int .i64 t.w1,.int .i64 t.w2,.int .i64 t.regs],.agg #[.int .i64 s.pace,.int .i64 s.stages,G],.agg #[.int .i64 o.slot,.int .i64 o.stage,.int .i64 o.op,.int .i64 o.dest,.int .i64 o.a,.int .i64 o.b,.int .i64 o.ar,.int .i64 o.sp,.int .i64 o.pl,.int .i64 o.n],l] w (fun e w'=>e=.returned (.bool r)∧Grow w w'):=by
 unfold Qm at y;refine have p:=D2 (w:=w);cw 88 Tryz.func121 Z (sr (Ab Z ((A3 Ai Z Z (fun b1=>Ab Z ((A3 Ai Z Z (fun b2=>Ab Z ((A3 Ai Z Z (fun Y=>wa Z (ns (wq Z (Af Aay Z Z Z (Ac 0 Z)) ?_))))))))))))) (Aw p (D3 w));obtain⟨d,R,F⟩:=An y;refine wq Z (QV.call A36 (ea Z) (fun w f=>have h:=Zs w R ;h)) ?_;refine Ab Z ((Ci Ai S8 (fun H=>Ab Z ((ew 0 d.cells S9 Z (ns (wq Z (Af N5 Z Z Z (Ac 0 Z)) (Ab Z ?_))))))));obtain⟨U,S,z⟩:=An F;refine(cr [4,0,1,2,3] p Aqb Z (L4 S) Z (fun V I q=>wq Z (A5 Tryz.underlying83 Z Z I.lenMap) (Ab Z ((Ci Ai ze3 (fun W=>Ab Z ((ew 0 [i_ (ln U)] sz3 Z (ns (wq Z (QV.makeFunc (ea Z)) (wa Z (nt (Ax (sr (wl pl3 Z (Aq 0 Z Z) (wq Z (QV.gtr Z Z Z Z) (nt ?_)))))))))))))))));obtain⟨T,m,A⟩:=An z;refine Awb (dt [3,4,5,6,9,11] [0,1,3,4,5] Z) (fun (g:Int) (i:Int) (j:Int) (k:Int)=>[]) (fun g i j k=>[blk H [i_ d.op,i_ g,i_ i,i_ j,i_ k,i_ d.ar,i_ d.sp,i_ d.pl,i_ d.n] 82]) (fun g i j k=>T=.go (g,i,j,k)) (sb Z) (pk [0,1,3,4,5]) ?_ ?_
 ·skip
  rintro g i j k rfl;refine sr (wm Z (wq Z (QV.build (ps:=[(0,.const (i_ 1))]) (cells:=[i_ 1,i_ 0,i_ 0,i_ 0,i_ 0,i_ 0,i_ 0,i_ 0,i_ 0]) (ea Z) Ag) (wq Z (Af N5 Z Z Z (Ac 0 Z)) (Ab Z ((D4 Ai Aw6 Ai Ai (ps:=[(0,.tmp 27),(1,.tmp 28)]) (cells:=[i_ 1,i_ 0,i_ 0,i_ 0,i_ 0,i_ 0,i_ 0,i_ 0,i_ 0,i_ d.op,i_ g,i_ i,i_ j,i_ k,i_ d.ar,i_ d.sp,i_ d.pl,i_ d.n]) (ea Z) Ag (fun u=>wq Z (Rp (ps:=[(0,.tmp 26),(1,.tmp 29)]) (cells:=[l,(Fe u 2 2),.slice none 0 0]) (css:=[[l],[(Fe u 2 2)]]) (ea Z) (Pj (Hz (x.le q).lenMap) (Pj (Hz SliceLen.blk) Air)) Ag) (Ab Z ((Ci Ai ze47 (fun X=>Ab Z ((ex 0 [l,(Fe u 2 2),.slice none 0 0] (show Ee _=List.toArray _ from Z) Awt (oc (De (x.le q).lenMap) (oc (De SliceLen.blk) (oz Z))) Z (ns (wf Ac7 Z (wl pl3 Z (Aq 5 Z Z) (wq Z (QV.geq Z Z Z Z) (wm Z (gP Z (QV.fieldAddr Ac7 Z Z) (gp Z (fun c=>Cm pl3 Z c (Aq 5 Z Z)) (gP Z (QV.fieldAddr U9 Z Z) (gp Z (fun c=>Cm pl3 Z c (Aq 6 Z Z)) (gp Z (fun c=>QV.lss Z c Z c) (wq Z (A8 Z Z Z (fun h=>h)) (wm Z (gP Z (QV.fieldAddr U8 Z Z) (gp Z (fun c=>Cm pl3 Z c (Aq 5 Z Z)) (gp Z (fun c=>QV.geq Z c Z Z) (wq Z (A8 Z Z Z (fun h=>h)) (wm Z (gP Z (QV.fieldAddr U8 Z Z) (gp Z (fun c=>Cm pl3 Z c (Aq 5 Z Z)) ?_))))))))))))))))))))))))))))))));refine gP Z (QV.fieldAddr Aag Z Z) (gp Z (fun c=>Cm pl3 Z c (Aq 6 Z Z)) (gp Z (fun c=>QV.lss Z c Z c) (wq Z (A8 Z Z Z (fun h=>h)) (wm Z (gP Z (Af O0 Z Z Z (Ac 6 Z)) (gP Z (Af Aay Z Z Z (Ac 5 Z)) ?_))))));obtain⟨a0,N,B⟩:=C5 A;refine gp Z (fun c=>QV.call Axj (C3 Z c (C3 Z c eN)) (fun w f=>have h:=Tm w (N c) ((Ah 4 Z p (J.le q)) w f);h)) ?_;refine gp Z (fun c=>QV.leq Z c Z Z) (wq Z (A8 Z Z Z (fun h=>h)) (wa Z (ns (wm Z (wm Z (gP Z (Af Fz Z Z Z (Ac 0 Z)) ?_))))));obtain⟨a1,O,C⟩:=C5 B;refine gp Z (fun c=>QV.call Auq (C3 Z c eN) (fun w f=>have h:=P0 w (O c) ((Ah 4 Z p (x.le q)) w f) ((Bi 1 (rows:=[(Stm.mk 1 (Rf.mk 0 0) (Rf.mk 0 0) 0 0 0 0),(Stm.mk d.op (Rf.mk g i) (Rf.mk j k) d.ar d.sp d.pl d.n)].map Stm.cells) Z Z (B3 Anh)) w f) Gd;h)) ?_;refine wq Z (A8 Z Z Z (fun h=>h)) (wm Z (gP Z (QV.fieldAddr U7 Z Z) (gp Z (fun c=>Cm pl3 Z c (Aq 5 Z Z)) (gp Z (fun c=>QV.geq Z c Z Z) (wq Z (A8 Z Z Z (fun h=>h)) (wm Z (gP Z (QV.fieldAddr U7 Z Z) (gp Z (fun c=>Cm pl3 Z c (Aq 5 Z Z)) (gP Z (QV.fieldAddr Nd Z Z) (gp Z (fun c=>Cm pl3 Z c (Aq 7 Z Z)) (gp Z (fun c=>QV.lss Z c Z c) (wq Z (A8 Z Z Z (fun h=>h)) (wm Z (gP Z (QV.move Z Z) (gP Z (QV.fieldAddr Alp Z Z) (gp Z (fun c=>Cm pl3 Z c (Aq 5 Z Z)) ?_))))))))))))))));obtain⟨a2,P,E⟩:=C5 C;refine gp Z (fun c=>Nr A35 Z c (C3 Z c (ea Z)) (fun w f=>have h:=Yf w (P c) (Ac 3 Z w f) (Ac 7 Z w f);h)) ?_;refine wq Z (A8 Z Z Z (fun h=>h)) (wm Z (gP Z (QV.move Z Z) (gP Z (QV.fieldAddr Alo Z Z) (gp Z (fun c=>Cm pl3 Z c (Aq 5 Z Z)) ?_))));obtain⟨a3,Q,K⟩:=C5 E;refine gp Z (fun c=>Nr A35 Z c (C3 Z c (ea Z)) (fun w f=>have h:=Yf w (Q c) (Ac 3 Z w f) (Ac 7 Z w f);h)) ?_;refine wq Z (A8 Z Z Z (fun h=>h)) (wa Z (nt (Bc ?_)));obtain rfl:=(Ad K).symm;exact Az Z Z fun w f=>kg f
 refine Aes Z (fun v=>?_) (fun v=>?_)
 ·skip
  have L:=Akj v m;clear m;refine Bo (wq Z (QV.build (ps:=[]) (cells:=[i_ 0,i_ 0]) eN Ag) (wq Z (QV.build (ps:=[]) (cells:=[i_ 0,i_ 0]) eN Ag) (wf Tk Z (Ab Z ((ew 2 [i_ 0,i_ 0] Zw Z (wf U6 Z (Ab Z ((ew 2 [i_ 0,i_ 0] Zw Z (Bm ?_)))))))))));exact N2 0 0 0 0 (Ad L) (sb Z) (pk [2,0,1,3,4,5])
 have M:=Akk v m;clear m;refine sk ?_;exact N2 d.a.st d.a.bk d.b.st d.b.bk (Ad M) (sb Z) (pk [2,0,1,3,4,5])
theorem Acb {u M:Ak}{t:Tgt}{d:Krn}{logs:List Int}{r:Bool} (w:Aj) (x:Kn t d logs=some r) (n:Arr w u 10 (d.ops.map Opr.cells)) (T:Arr w M 1 (logs.map Ar)):Calls Tryz.prog 78 #[.agg #[.int .i64 t.u0,.int .i64 t.u1,.int .i64 t.u2,.int .i64 t.w0,.int .i64 t.w1,.int .i64 t.w2,.int .i64 t.regs],.agg #[.int .i64 d.pace,.int .i64 d.stages,u],M] w (fun e w'=>e=.returned (.bool r)∧Grow w w'):=by
 unfold Kn at x;refine have p:=D2 (w:=w);cw 82 Tryz.func78 Z (sr (Ab Z ((A3 Ai Z Z (fun b1=>Ab Z ((A3 Ai Z Z (fun b2=>wa Z (nt (Ax (sr (wq Z (Af Hv Z Z Z (Ac 1 Z)) ?_)))))))))))) (Aw p (D3 w));obtain⟨b4,a6,I⟩:=An x;refine wq Z (QV.call Aw0 (ea Z) (fun w f=>have h:=Pc w a6 ;h)) ?_;refine wq Z (QV.not Z Z) (wm Z (gN Z (QV.fieldAddr U9 Z Z) (gn Z (fun a=>Cm pl3 Z a (Aq 0 Z Z)) (gn Z (fun a=>QV.lss Z a Z Z) (wq Z (Be Z Z Z (fun h=>Fx h)) (wm Z (gN Z (QV.fieldAddr U9 Z Z) (gn Z (fun a=>Cm pl3 Z a (Aq 0 Z Z)) (gn Z (fun a=>QV.gtr Z a Z Z) (wq Z (Be Z Z Z (fun h=>Fx h)) (wm Z (gN Z (QV.fieldAddr Aag Z Z) (gn Z (fun a=>Cm pl3 Z a (Aq 0 Z Z)) (gn Z (fun a=>QV.lss Z a Z Z) (wq Z (Be Z Z Z (fun h=>Fx h)) (wm Z (gN Z (QV.fieldAddr Aag Z Z) (gn Z (fun a=>Cm pl3 Z a (Aq 0 Z Z)) (gn Z (fun a=>QV.gtr Z a Z Z) (wq Z (Be Z Z Z (fun h=>Fx h)) (wm Z (gN Z (QV.fieldAddr R7 Z Z) (gn Z (fun a=>Cm Ah6 Z a (Aq 0 Z Z)) (gn Z (fun a=>A5 Tryz.underlying58 Z a n.lenMap) (gn Z (fun a=>QV.lss Z a Z Z) (wq Z (Be Z Z Z (fun h=>Fx h)) (wm Z (gN Z (QV.fieldAddr R7 Z Z) (gn Z (fun a=>Cm Ah6 Z a (Aq 0 Z Z)) ?_)))))))))))))))))))))))))))));refine gn Z (fun a=>A5 Tryz.underlying58 Z a n.lenMap) (gn Z (fun a=>QV.gtr Z a Z Z) (wq Z (Be Z Z Z (fun h=>Fx h)) (nt ?_)));refine wc Z I (fun R a2=>?_) (fun R J=>?_)
 ·skip
  refine sr (wa Z (nt (Bc (tr ?_))));obtain rfl:=(Ad a2).symm;exact Az Z Z fun w f=>kg f
 refine sk (Al (sr (Ab Z ((Ang (ke:=kP) (ve:=Dz) Ai (fun v=>wa Z (nt (Ax (sr (wf R7 Z (wl Ah6 Z (Aq 1 Z Z) (wq Z (A5 Tryz.underlying58 Z Z n.lenMap) (wm Z (nt ?_))))))))))))));obtain⟨L,y,a7,a3⟩:=bl J;refine Cj (dt [2,3,4,7,48,49] [1,2,3] Z) (fun (g:List ((Int×Int)×Int)) (c:Int)=>[(50,(true,i_ c))]) (fun g c=>[Wn v kP Dz g]) (fun g c m=>Cp (K7 t d logs) m (g,c)=some L) (fun g c=>L=.go (g,c)) ([]:List ((Int×Int)×Int)) 0 a7 a3 (sb Z) (pk [0,1,2,3]) ?_ ?_
 ·skip
  rintro g c rfl;refine Al (sr (wa Z (nt (Bc ?_))));obtain rfl:=(Ad y).symm;exact Az Z Z fun w f=>kg f
 rintro g c m15 C;obtain⟨m17,b0,rfl,q,s⟩:=A2 C;unfold K7 at q;simp only at q;refine sr (wq Z (QV.lss Z Z Z Z) (nt (Ax ?_)));refine wc Z q (fun O U=>?_) (fun O a1=>?_)
 ·skip
  refine sk (Al (Ax (Cr (sr (have ⟨B,E⟩:=cs U;have ⟨a9,K⟩:=n.lenMap.ix (sz:=10) Ap B;wq Z (Ae Awu Z Z Z Z K) (wq Z (Af Aay Z Z Z (el (Ah 3 Z p n) K B)) (Ab Z ((Ci Ai Ap4 (fun z=>Ab Z ((ew 0 (Opr.cells (ele d.ops c)) Ap5 Z (nt (Ax (sr (wq Z (Af Hv Z Z Z (Ac 3 Z)) (wq Z (Af O0 Z Z Z (Ac 2 Z)) (wq Z (Af Aay Z Z Z (Ac 0 Z)) (wm Z ?_)))))))))))))))))));obtain⟨b3,a4,F⟩:=An E;refine wq Z (QV.call en121 (ea Z) (fun w f=>have h:=Apq w a4 ((Ah 4 Z p n) w f) ((Ah 4 Z p T) w f);h)) ?_;refine wq Z (QV.not Z Z) (nt ?_);refine wc Z F (fun P V=>?_) (fun P G=>?_)
  ·skip
   refine sr (wa Z (nt (Bc (tr (kr (tr (tr (kr (tr (tr ?_))))))))));obtain rfl:=Dn V s;obtain rfl:=(Ad y).symm;exact Az Z Z fun w f=>kg f
  refine sk (Al (Ax (dp 8 [4,0,1,2,3] Z (zf 0 Ac7 Z Z (zl 1 pl3 Z Z (Aq 1 Z Z) (zf 2 Tl Z Z (zl 3 pl3 Z Z (Aq 1 Z Z) ?_)))))));obtain⟨j,a5,W⟩:=An G;refine wz 4 Z Z (QV.call Ah8 (ea Z) (fun w f=>have h:=Ho w a5 ;h)) ?_;refine wz 5 Z Z (QV.build (ps:=[(0,.tmp 61),(1,.tmp 64)]) (cells:=[i_ ((ele d.ops c).slot),i_ j]) (ea Z) Ag) (Dd 6 Z Ag Z ((Ci Ai A3l (fun A=>bp [5,0,1,2,3,4] Z (pk [0,2,3,4,5]) (WD.l 7 Z Ag Z ((ew 0 [i_ ((ele d.ops c).slot),i_ j] A3q Z (Al (Ax (Anz (m:=7) (S:=Own noM w [kn noM w.heap.size w w,blk A [i_ ((ele d.ops c).slot),i_ j] 196,blk z (Opr.cells (ele d.ops c)) 64,Akh v kP Dz 0 g,blk b2 [i_ d.pace,i_ d.stages,u] 60,blk b1 t.cells 27]) Ag Ag (fun w f=>Yb 3 0 Z (f.pick [5,0,1,2,3,4] Ai)) (zm 0 Z Z (wz 1 Z Z (Af Asz Z Z Z (Ac 1 Z)) (wz 2 Z Z (Aap (k:=((ele d.ops c).slot,j)) 3 0 Abb Abc Rc Z Z Z Z Z) (have ⟨N,o,H⟩:=cs2 W;wz 3 Z Z (A6 Z Z Z Z N) (Dd 4 Z Ag Z ((EV.mapEntry Ai ((ele d.ops c).slot,j) 2 0 Abb Abc Rc Z Z Z Z Z (fun a8=>WD.b (H':=[kn noM w.heap.size w w,blk A [i_ ((ele d.ops c).slot),i_ j] 196,blk z (Opr.cells (ele d.ops c)) 64,Akh v kP Dz 0 g,blk b2 [i_ d.pace,i_ d.stages,u] 60,blk b1 t.cells 27]) (fun w f=>Ya 3 Z (f.pick [5,0,1,2,3,4] Ai)) (pk [0,1,2,3,4,5]) (wz 5 Z Z (Bp Z Z Z) (WD.l 6 Z Ag Z ((EV.entryStore (ke:=kP) (ve:=Dz) ((ele d.ops c).slot,j) 2 ((Fp g ((ele d.ops c).slot,j) 0)+1) a8 Z Z Z Z Z Z Z (Al (Ax (dp 9 [5,0,1,2,3,4] Z (zm 0 Z Z (wz 1 Z Z (Af Asz Z Z Z (Ac 1 Z)) (wz 2 Z Z (QV.lookup (k:=((ele d.ops c).slot,j)) 3 0 Abb Abc Rc Z Z Z Z Z) (wz 3 Z Z (Cu A4j Z Z Z Z Ai Ai) (zl 4 pl3 Z Z (Aq 1 Z Z) (zf 5 Aah Z Z (wz 6 Z Z (Cu Up Z Z Z Z o.1 o.2) (zl 7 pl3 Z Z (Er 5 Z (Ia (off:=0) (i:=j) o.1 o.2 Z Z Z) (Hi _ _ _)) (wz 8 Z Z (QV.gtr Z Z Z Z) ?_))))))))))))))))))))))))))))))))));refine Em Ag (Al ?_);refine wc Z H (fun Q X=>?_) (fun Q Y=>?_)
  ·skip
   refine sr (wa Z (nt (Bc (kr (tr (tr (kr (tr (tr ?_)))))))));obtain rfl:=Dn X s;obtain rfl:=(Ad y).symm;exact Az Z Z fun w f=>kg f
  refine sk (Bd (Al (Bo (have ⟨c46,a0⟩:=cs Y;wq Z (A6 Z Z Z Z c46) (wm Z (Bm ?_))))));exact B1 (N4 g ((ele d.ops c).slot,j) ((Fp g ((ele d.ops c).slot,j) 0)+1)) (c+1) m17 (A4 a0 s) (Ck _) (sb Z) (pk [2,3,4,5])
 refine C1 (te (te (Am ?_)));exact Ct g c (Bh a1 s) (sb Z) (pk [0,1,2,3])
end Go.Proofs.YtaimbkndebaaiaaGreatDoor
end
section
namespace Go.Proofs.YtaimbkndebaaiaaGreatDoor
open Go.Rd
open TLib TLibR TLibA TSay TNum0 TNum TLoop TPar TStable TMach TMach2 TKern
namespace TClone
theorem Zh:O4 Tryz.prog 43 2 1 [.int .i64 0]:=⟨Tryz.underlying43,Ag⟩
end TClone
open TClone
theorem slClw {d:Ak}{s r:List Int}{b:Aj} (c:Aw7 d s=some r) (f:Arr b d 1 (s.map Ar)) (M:Nat→Prop) (w:Aj) (g:Base M b w) (m:Own M w [] w):Calls Tryz.prog 79 #[d] w (fun e w'=>∃ X:Ak×Aj,e=.returned (X.1)∧Own M w (kn M w.heap.size b X.2::[vec X.1 2 1 (List.map Ar r)]) w'∧SliceLen X.1 (r).length):=by
 unfold Aw7 at c;refine cw 8 Tryz.func79 Z (sr (wa Z (nt (Ax (sr (wm Z (wq Z (Awi Tryz.underlying43 Z Z f.lenMap) (nt ?_)))))))) (Aw g m);refine wc Z c (fun h i=>?_) (fun h j=>?_)
 ·skip
  refine sr (wa Z (nt (Bc (tr ?_))));obtain rfl:=(Ad i).symm;refine Gk (fun w a=>a.vecNil (E:=2) (sz:=1) (enc:=Ar)) (Az Z Z (fun w a=>?_));exact⟨(.slice none 0 0,b),Z,a.pick [1,0] Ai,Hg⟩
 refine sk (Al (sr (Ab Z ((Ah3 Ai Zh (fun n=>wm Z (Ab Z (EV.of (fun w a=>a.blkVec Ar ([]:List Int) Z Bf (nl Z)) (have ⟨c6,k⟩:=cs j;(B0 (enc:=Ar) (xs:=[]) (ys:=s) (([]++s)) 0 Ai Ach Z Z Z Z Z (Ah 1 Z g f) Bf (Dh _) Z c6.1 c6.2 (fun u8 l=>wa Z (nt (Bc ?_)))))))))))));obtain rfl:=(Ad k).symm;refine Az Z Z (fun w a=>?_);exact⟨(u8,b),Z,a.pick [1,0] Ai,l⟩
theorem Aug {b:Ak}{s r:List Int}{a:Aj} (h:Abr s=some r) (c:Arr a b 1 (s.map Ar)) (M:Nat→Prop) (w:Aj) (g:Base M a w) (j:Own M w [] w):Calls Tryz.prog 79 #[b] w (fun e w'=>∃ X:Ak×Aj,e=.returned (X.1)∧Own M w (kn M w.heap.size a X.2::[vec X.1 2 1 (r.map Ar)]) w'∧SliceLen X.1 (r).length):=by
  obtain⟨d,f⟩:=Qb h;obtain rfl:=Ad f;refine slClw ?_ c M w g j;unfold Aw7
  cases i:Agl b with
  | true =>
    have:=Ar2 c.lenMap i;rw[Zg.1 this];rfl
  | false=>simp[br,Au d]
end Go.Proofs.YtaimbkndebaaiaaGreatDoor
end
section
namespace Go.Proofs.YtaimbkndebaaiaaGreatDoor
open Go.Rd
open TLib TLibR TLibA TSay TNum0 TNum TLoop TPar TStable TMach TMach2 TKern TClone
namespace TNbr
end TNbr
open TNbr
end Go.Proofs.YtaimbkndebaaiaaGreatDoor
end
section
namespace Go.Proofs.YtaimbkndebaaiaaGreatDoor
open Go.Rd
open TLib TLibR TLibA TSay TNum0 TNum TLoop TPar TStable TMach TMach2 TKern TClone TNbr
namespace TSeq
theorem As0:Rs Tryz.prog 106 2:=⟨_,Tryz.underlying106,rfl,Ag⟩
theorem Axl:Go.Rd.Enters Tryz.prog 115:=eT Tryz.func115
theorem en70:Go.Rd.Enters Tryz.prog 70:=eT Tryz.func70
theorem en71:Go.Rd.Enters Tryz.prog 71:=eT Tryz.func71
theorem en72:Go.Rd.Enters Tryz.prog 72:=eT Tryz.func72
theorem en79:Go.Rd.Enters Tryz.prog 79:=eT Tryz.func79
theorem Amn:B8 Tryz.prog 106 0 0:=fT 0 Tryz.underlying106
theorem Amm:B8 Tryz.prog 148 0 0:=fT 2 Tryz.underlying148
theorem Ym:B8 Tryz.prog 148 1 3:=fT 0 Tryz.underlying148
theorem Aml:B8 Tryz.prog 148 2 4:=fT 0 Tryz.underlying148
theorem Ano:Dg Tryz.prog 106 2:=by unfold Dg;kernel_rfl
theorem sz43:Dg Tryz.prog 43 1:=by unfold Dg;kernel_rfl
theorem Aw3:ZeroT Tryz.prog 106 [.slice none 0 0,.slice none 0 0]:=by unfold ZeroT;kernel_rfl
end TSeq
open TSeq
theorem Aho {B:Ak}{l r:List (List Int)}{g:Aj} (q:Py l=some r) (u:RowsA g B l) (M:Nat→Prop) (w:Aj) (o:Base M g w) (S:Own M w [] w):Calls Tryz.prog 71 #[B] w (fun e w'=>∃ X:Ak×(List Ak)×Aj,e=.returned (X.1)∧Own M w (kn M w.heap.size g X.2.2::[Iy X.1 X.2.1 43 2 r]) w'∧SliceLen X.1 (r).length∧GL X.2.1 r):=by
 unfold Py at q;refine cw 19 Tryz.func71 Z (sr (wa Z (ns (wa Z (nt (Ax (sr (wm Z (wq Z (A5 Tryz.underlying102 Z Z u.slen) (wm Z (nt (Gk (fun w s=>s.gridNil (E1:=43) (E2:=2)) ?_)))))))))))) (Aw o S);obtain⟨A,O,V,P⟩:=bl q;refine Rn (dt [6,7] [] Z) (fun (a:List (List Int)) (f:Int) (c:Ak) (b:List Ak) (d:Aj)=>[(3,(true,c)),(8,(true,i_ f))]) (fun a f c b d=>[Iy c b 43 2 a,kn M w.heap.size g d]) (fun a f c b d m=>Cp (Oq l) m (a,f)=some A∧SliceLen c a.length∧GL b a∧Le g d) (fun a f c b d=>A=.go (a,f)∧SliceLen c a.length∧GL b a∧Le g d) [] 0 Ln [] g V ⟨P,Hg,GL.nil,(Jy _)⟩ (sb Z) (pk [0,1]) ?_ ?_
 ·skip
  rintro a f c b d ⟨rfl,p,h,j⟩;refine Al (sr (wm Z (wa Z (nt (Bc ?_)))));obtain rfl:=(Ad O).symm;refine Az Z Z (fun w s=>?_);exact⟨(c,b,d),Z,s.pick [1,0] Ai,p,h⟩
 rintro a f c b d a1 ⟨t,p,h,j⟩;obtain⟨U,a3,rfl,k,z⟩:=A2 t;unfold Oq at k;simp only at k;refine sr (wq Z (QV.lss Z Z Z Z) (nt (Ax ?_)));refine wc Z k (fun G v=>?_) (fun G N=>?_)
 ·skip
  refine sk (Al (Ax (Cr (sr ?_))));obtain⟨C,x⟩:=cs v;obtain⟨a2,a4,Q,I,H⟩:=(u.le j).ix C;refine wq Z (Ae St Z Z Z Z Q) (wl To Z (co 0 (A1 1 Z o I) Z) (wa Z (nr (wm Z (wm Z (Ab Z ?_))))));obtain⟨Y,T,y⟩:=An x;refine(cr [1,0] o en79 Z (Aug T H) Z (fun i n K=>Ab Z ((D4 Ai Agj Ai Ai (ps:=[(0,.tmp 14)]) (cells:=[i.1]) (ea Z) (Abj n) (fun a0=>Ab Z ?_)))));obtain⟨E,F,L⟩:=cs2 y;refine ep [3,2,0,1] Z ((Aso Ai Anm Z Z Z Z n (Bi 2 (rows:=[[i.1]]) Z Z (Aza)) E h (fun W R=>have J:=h.snoc n;wa Z (Bm (Bd (Al (Bo (wq Z (A6 Z Z Z Z F) (wm Z (Bm ?_))))))))));exact Rm (a++[Y]) (f+1) W (b++[i.1]) i.2 U ⟨A4 L z,R,J,(j.trans K)⟩ (Ck _) (sb Z) (pk [0,2])
 refine C1 (te (te (Am ?_)));exact Yr a f c b d ⟨Bh N z,p,h,j⟩ (sb Z) (pk [0,1])
theorem P8 {m:Addr}{C B E p F o:Ak}{n:List (List Int)}{x:Rf}{now:List Int}{r:Int} (w:Aj) (b:Ez n x now=some r) (t:RowsA w p n) (A:CellsAt w m [C,B,E,p,F] 0) (g:Arr w o 1 (now.map Ar)):Calls Tryz.prog 115 #[.pointer (some m),.agg #[.int .i64 x.st,.int .i64 x.bk],o] w (fun e w'=>e=.returned (.int .i64 r)∧Grow w w'):=by
 unfold Ez at b;refine have a:=D2 (w:=w);cw 28 Tryz.func115 Z (sr (Ab Z ((A3 Ai Z Z (fun b1=>wa Z (nt (Ax (sr (wf Qw Z (wl pl3 Z (Aq 0 Z Z) (wq Z (QV.eql Z Z Z Z) (nt ?_)))))))))))) (Aw a (D3 w));refine wc Z b (fun s i=>?_) (fun s j=>?_)
 ·skip
  refine sr (wm Z (wf R6 Z (wl pl3 Z (Aq 0 Z Z) ?_)));obtain⟨c4,y⟩:=cs i;obtain⟨I,l⟩:=g.lenMap.ix (sz:=1) Ap c4;refine wq Z (Ae Zx Z Z Z Z l) (wl pl2 Z (cl 0 (Ah 1 Z a g) l c4 Z) (wa Z (nt (Bc (tr ?_)))));obtain rfl:=(Ad y).symm;exact Az Z Z fun w c=>kg c
 refine sk (Al (Ax (dp 14 [1,0] Z (zm 0 Z Z (wz 1 Z Z (QV.nilCheck Z Z) (zf 2 Ym Z Z (zl 3 Nn Z Z (co 3 (A1 0 Z a A) Z) (zf 4 Qw Z Z (zl 5 pl3 Z Z (Aq 1 Z Z) ?_)))))))));obtain⟨c9,q,h⟩:=cs2 j;refine wz 6 Z Z (Du Z Z Z Z c9) ?_;obtain⟨G,J,z,u,f⟩:=t.ix q;refine wz 7 Z Z (Ae St Z Z Z Z z) (zl 8 To Z Z (co 0 (A1 0 Z a u) Z) (zf 9 R6 Z Z (zl 10 pl3 Z Z (Aq 1 Z Z) ?_)));obtain⟨d,v⟩:=cs h;obtain⟨H,k⟩:=f.lenMap.ix (sz:=1) Ap d;refine wz 11 Z Z (Ae Zx Z Z Z Z k) (zl 12 pl2 Z Z (cl 0 (Ah 0 Z a f) k d Z) (wz 13 Z Z (QV.assign Z Z) (Em Ag (Al (Bc ?_)))));obtain rfl:=(Ad v).symm;exact Az Z Z fun w c=>kg c
theorem Acf {Q P R e0 p:Ak}{u:List Ak}{I:Nat}{O:List Int}{f:List Stm}{d9:List Int}{A z:List (List Int)}{t:Int}{r:List (List Int)×List (List Int)}{q:Aj} (N:Jn O f d9 A z t=some r) (G:Arr q Q 1 (O.map Ar)) (K:Arr q P 9 (f.map Stm.cells)) (k9:Arr q R 1 (d9.map Ar)) (x:RowsA q e0 A) (g0:SliceLen p z.length) (g2:GL u z) (M:Nat→Prop) (w:Aj) (j:Base M q w) (i9:Own M w [blk I [Q,P,R,e0,p] 148,Iy p u 43 2 z] w):Calls Tryz.prog 72 #[.pointer (some (⟨I,0,none⟩)),.int .i64 t] w (fun e w'=>∃ X:Ak×Ak×(List Ak)×Aj,e=.returned (.tuple #[])∧Own M w (kn M w.heap.size q X.2.2.2::[blk I [Q,P,R,X.1,X.2.1] 148,Iy X.2.1 X.2.2.1 43 2 r.2]) w'∧RowsA X.2.2.2 X.1 r.1∧SliceLen X.2.1 (r.2).length∧GL X.2.2.1 r.2):=by
 unfold Jn at N;refine cw 116 Tryz.func72 Z (sr (wa Z (nt (Ax (sr (wm Z (wq Z (QV.nilCheck Z Z) (wf Amm Z (wf Dj Z (wl J1 Z (Aq 1 Z Z) (wq Z (A5 Tryz.underlying45 Z Z K.lenMap) (wm Z (nt (Gk (fun w d=>d.vecNil (E:=2) (sz:=1) (enc:=Ar)) ?_)))))))))))))) (Aw j i9);obtain⟨d8,b5,j6,i0⟩:=bl N;refine K1 (dt [0,1,12,13] [1,2] Z) (fun (a:List Int) (c:List (List Int)) (b:Int) (g:Ak)=>[(4,(true,g)),(14,(true,i_ b))]) (fun a c b g=>[vec g 2 1 (List.map Ar a),Iy p u 43 2 c]) (fun a c b g m=>Cp (Fl O f A t) m (a,c,b)=some d8∧SliceLen g a.length∧SliceLen p c.length∧GL u c) (fun a c b g=>d8=.go (a,c,b)∧SliceLen g a.length∧SliceLen p c.length∧GL u c) [] z 0 (.slice none 0 0) j6 ⟨i0,Hg,g0,g2⟩ (sb Z) (pk [0,3,1,2]) ?_ ?_
 ·skip
  rintro a c b g ⟨rfl,L,k,i⟩;refine Al (Bo (wm Z (wm Z (Ab Z ((D4 Ai Agj Ai Ai (ps:=[(0,.tmp 106)]) (cells:=[g]) (ea Z) (Abj L) (fun k7=>wm Z (wq Z (QV.nilCheck Z Z) (wf Ym Z (wl Nn Z (Aq 4 Z Z) ?_))))))))));obtain⟨c8,c6⟩:=cs b5;refine have f3:=RowsA.sub x c8;wq Z (P6 St Z Z x.slen Z Z c8) (Ab Z (ep [3,1,0,2,4] Z (Wv j (fun d6 g4 i1=>have f4:=Cn i1;ep [1,0,2,3] Z (EV.of (fun w d=>d.blkVec Lg ([(g,a)]:List (Ak×List Int)) Z Oi (nl Z)) ?_)))));have f7:RowsK d6 ([(g,a)]:List (Ak×List Int)):=(RowsK.cons f4 RowsK.nil);obtain⟨v,f6,f9,a6⟩:=(f3.le g4);obtain⟨V,h0⟩:=cs c6;have f8:RowsK d6 (([(g,a)]:List (Ak×List Int))++v):=RowsK.append f7 a6;have F:((([(g,a)]:List (Ak×List Int))++v):List (Ak×List Int)).map (·.2)=(([a]:List (List Int))++(sub A 0 2)):=Avf rfl f6;refine(B0 (enc:=Lg) (xs:=([(g,a)]:List (Ak×List Int))) (ys:=v) (([(g,a)]:List (Ak×List Int))++v) 0 Ai Anm Z Z Z Z Z (Ah 1 Z j f9) Oi (Ave a6) Z (AL.b1 F V) (AL.b2 F V) (fun u16 i5=>have a7:=Abx F i5;wq Z (QV.nilCheck Z Z) (wf Ym Z (Ab Z ((ex 3 [u16] (Hz a7) Ast (oc (De a7) Cg) Z (Bm ?_)))))));obtain rfl:=(Ad h0).symm;refine kp [1,0,2,3] Z (Gc j (fun d7 g5 i2=>?_));have f5:RowsA d7 u16 (([a]:List (List Int))++(sub A 0 2)):=⟨(([(g,a)]:List (Ak×List Int))++v),F,Cn i2,(f8.le g5)⟩;refine I5 Z (fun w d=>?_);exact⟨(u16,p,u,d7),Z,d.pick [0,2,1] Ai,f5,k,i⟩
 rintro a c b g l0 ⟨a5,L,k,i⟩;obtain⟨y,l8,rfl,H,s⟩:=A2 a5;unfold Fl at H;simp only at H;refine sr (wq Z (QV.lss Z Z Z Z) (nt (Ax ?_)));refine wc Z H (fun e8 h1=>?_) (fun e8 g9=>?_)
 ·skip
  refine sk (Al (Ax (Cr (sr (have ⟨W,b4⟩:=cs h1;have ⟨l1,c9⟩:=K.lenMap.ix (sz:=9) Ap W;wq Z (Ae Wq Z Z Z Z c9) (wq Z (Af N5 Z Z Z (el (Ah 2 Z j K) c9 W)) (Ab Z ((Ci Ai S8 (fun k4=>Ab Z ((ew 0 (Stm.cells (ele f b)) S9 Z (ns (wa Z (nt (Ax (sr (wf I0 Z (wl pl3 Z (Aq 0 Z Z) (nt (Cr (sr (wq Z (QV.eql Z Z Z Z) (wa Z (nt ?_)))))))))))))))))))))))));refine wc Z b4 (fun e9 h2=>?_) (fun e9 b6=>?_)
  ·skip
   refine Bo (wf Aln Z (wl pl2 Z (Aq 0 Z Z) (wa Z (Bm (Bd (Al (Bo (wm Z (wm Z (Ab Z ((D4 Ai Zh Ai Ai (ps:=[(0,.tmp 101)]) (cells:=[i_ ((ele f b).n)]) (ea Z) Ag (fun k5=>Ab Z (have ⟨Y,e4,h3⟩:=cs2 h2;(B0 (enc:=Ar) (xs:=a) (ys:=[(ele f b).n]) ((a++[(ele f b).n])) 2 Ai Ach Z Z Z Z Z (Bi 0 (rows:=[(ele f b).n].map Ar) Z Z (B3 Bf)) Bf (Dh _) Z Y.1 Y.2 (fun j9 i6=>wa Z (Bm (Bd (Al (Bo (wq Z (A6 Z Z Z Z e4) (wm Z (Bm ?_)))))))))))))))))))))));exact Gh (a++[(ele f b).n]) c (b+1) j9 y ⟨A4 h3 s,i6,k,i⟩ (Ck _) (sb Z) (pk [2,3,4,5])
  refine sr (wq Z (QV.eql Z Z Z Z) (wa Z (nt ?_)));refine wc Z b6 (fun f0 h4=>?_) (fun f0 b7=>?_)
  ·skip
   refine Bo (wm Z (wa Z (Bm (Bd (Al (Bo (wm Z (wm Z (Ab Z ((D4 Ai Zh Ai Ai (ps:=[(0,.tmp 101)]) (cells:=[i_ t]) (ea Z) Ag (fun k6=>Ab Z (have ⟨a0,e5,h5⟩:=cs2 h4;(B0 (enc:=Ar) (xs:=a) (ys:=[t]) ((a++[t])) 2 Ai Ach Z Z Z Z Z (Bi 0 (rows:=[t].map Ar) Z Z (B3 Bf)) Bf (Dh _) Z a0.1 a0.2 (fun k0 i7=>wa Z (Bm (Bd (Al (Bo (wq Z (A6 Z Z Z Z e5) (wm Z (Bm ?_))))))))))))))))))))));exact Gh (a++[t]) c (b+1) k0 y ⟨A4 h5 s,i7,k,i⟩ (Ck _) (sb Z) (pk [2,3,4,5])
  refine sr (wq Z (QV.eql Z Z Z Z) (wa Z (nt ?_)));refine wc Z b7 (fun f1 b8=>?_) (fun f1 c2=>?_)
  ·skip
   refine dp 26 [3,0,1,2,4] Z (zm 0 Z Z (wz 1 Z Z (QV.nilCheck Z Z) (zf 2 Aml Z Z (zl 3 Nn Z Z (Aq 4 Z Z) (zf 4 R5 Z Z (zl 5 pl3 Z Z (Aq 1 Z Z) ?_))))));obtain⟨J,b9⟩:=cs b8;obtain⟨l2,d0⟩:=k.ix (sz:=1) Ap J;refine wz 6 Z Z (Ae St Z Z Z Z d0) (zl 7 To Z Z (Fb 3 Z d0 J) (zf 8 Xh Z Z (zl 9 pl3 Z Z (Aq 1 Z Z) (zf 10 Xg Z Z (zl 11 pl3 Z Z (Aq 1 Z Z) (zm 12 Z Z (zm 13 Z Z (wz 14 Z Z (QV.nilCheck Z Z) (zf 15 Amm Z Z (zf 16 Qx Z Z (zl 17 Fg Z Z (Aq 4 Z Z) (zf 18 R5 Z Z (zl 19 pl3 Z Z (Aq 1 Z Z) ?_)))))))))))));obtain⟨a1,c0⟩:=cs b9;obtain⟨l3,d1⟩:=G.lenMap.ix (sz:=1) Ap a1;refine wz 20 Z Z (Ae Fy Z Z Z Z d1) (zl 21 pl3 Z Z (cl 0 (Ah 0 Z j G) d1 a1 Z) ?_);obtain⟨C,j3,c1⟩:=An c0;refine wz 22 Z Z (QV.call Axm (ea Z) (fun w d=>have h:=Xx w j3 ;h)) ?_;obtain⟨a2,h6⟩:=cs c1;obtain⟨l4,d2⟩:=(i.ix ((ele f b).ar)).ix (sz:=1) Ap a2;refine wz 23 Z Z (Ae Zx Z Z Z Z d2) (zl 24 pl2 Z Z (cl 0 (Jc 3 Z J) d2 a2 Z) (wz 25 Z Z (QV.assign Z Z) (Em Ag (Bd (Al (Bo (wm Z (wm Z (Ab Z ((D4 Ai Zh Ai Ai (ps:=[(0,.tmp 101)]) (cells:=[i_ (ele (ele c ((ele f b).ar)) C)]) (ea Z) Ag (fun k8=>Ab Z (have ⟨a3,e6,h7⟩:=cs2 h6;(B0 (enc:=Ar) (xs:=a) (ys:=[(ele (ele c ((ele f b).ar)) C)]) ((a++[(ele (ele c ((ele f b).ar)) C)])) 2 Ai Ach Z Z Z Z Z (Bi 0 (rows:=[(ele (ele c ((ele f b).ar)) C)].map Ar) Z Z (B3 Bf)) Bf (Dh _) Z a3.1 a3.2 (fun k1 i8=>wa Z (Bm (Bd (Al (Bo (wq Z (A6 Z Z Z Z e6) (wm Z (Bm ?_))))))))))))))))))))));exact Gh (a++[(ele (ele c ((ele f b).ar)) C)]) c (b+1) k1 y ⟨A4 h7 s,i8,k,i⟩ (Ck _) (sb Z) (pk [2,3,4,5])
  refine sr (wq Z (QV.eql Z Z Z Z) (wa Z (nt ?_)));refine wc Z c2 (fun f2 c3=>?_) (fun f2 a8=>?_)
  ·skip
   refine sr (wm Z (wf Tk Z (wq Z (Af N6 Z Z Z (cu 1 2 (Ac 0 Z) Z)) (wm Z ?_))));obtain⟨o,j4,c4⟩:=An c3;refine wq Z (QV.call Axl (ea Z) (fun w d=>have h:=P8 w j4 (Mo 3 Z j x w d) (Ac 4 Z w d) ((Df 1 Z) w d);h)) ?_;refine wa Z (nt (dp 26 [3,0,1,2,4] Z (zm 0 Z Z (wz 1 Z Z (QV.nilCheck Z Z) (zf 2 Aml Z Z (zl 3 Nn Z Z (Aq 4 Z Z) (zf 4 R5 Z Z (zl 5 pl3 Z Z (Aq 1 Z Z) ?_))))))));obtain⟨c85,c5⟩:=cs c4;obtain⟨l5,d3⟩:=k.ix (sz:=1) Ap c85;refine wz 6 Z Z (Ae St Z Z Z Z d3) (zl 7 To Z Z (Fb 3 Z d3 c85) (zf 8 Xh Z Z (zl 9 pl3 Z Z (Aq 1 Z Z) (zf 10 Xg Z Z (zl 11 pl3 Z Z (Aq 1 Z Z) (zm 12 Z Z (zm 13 Z Z (wz 14 Z Z (QV.nilCheck Z Z) (zf 15 Amm Z Z (zf 16 Qx Z Z (zl 17 Fg Z Z (Aq 4 Z Z) (zf 18 R5 Z Z (zl 19 pl3 Z Z (Aq 1 Z Z) ?_)))))))))))));obtain⟨a4,c7⟩:=cs c5;obtain⟨l6,d4⟩:=G.lenMap.ix (sz:=1) Ap a4;refine wz 20 Z Z (Ae Fy Z Z Z Z d4) (zl 21 pl3 Z Z (cl 0 (Ah 0 Z j G) d4 a4 Z) ?_);obtain⟨S,j5,h8⟩:=An c7;refine wz 22 Z Z (QV.call Axm (ea Z) (fun w d=>have h:=Xx w j5 ;h)) ?_;refine zm 23 Z Z (have ⟨e7,h9⟩:=cs h8;have ⟨l7,d5⟩:=(i.ix ((ele f b).ar)).ix (sz:=1) Ap e7;wz 24 Z Z (Ae Zx Z Z Z Z d5) (WD.l 25 Z Ag Z ((Uj 2 o Z Z Z Z Z c85 d5 sz2 ?_))));have g1:=i.updG ((ele f b).ar) S o;have g3:SliceLen p (updG c ((ele f b).ar) S o).length:=Ud k;refine Bd (Al (Bo (wm Z (wm Z (Ab Z ((D4 Ai Zh Ai Ai (ps:=[(0,.tmp 101)]) (cells:=[i_ o]) (ea Z) Ag (fun k2=>Ab Z (have ⟨T,e1,g6⟩:=cs2 h9;(B0 (enc:=Ar) (xs:=a) (ys:=[o]) ((a++[o])) 2 Ai Ach Z Z Z Z Z (Bi 0 (rows:=[o].map Ar) Z Z (B3 Bf)) Bf (Dh _) Z T.1 T.2 (fun j7 i3=>wa Z (Bm (Bd (Al (Bo (wq Z (A6 Z Z Z Z e1) (wm Z (Bm ?_))))))))))))))))));exact Gh (a++[o]) (updG c ((ele f b).ar) S o) (b+1) j7 y ⟨A4 g6 s,i3,g3,g1⟩ (Ck _) (sb Z) (pk [2,3,4,5])
  refine dp 15 [3,0,1,2,4] Z (zf 0 I0 Z Z (zl 1 pl3 Z Z (Aq 1 Z Z) ?_));obtain⟨e2,a9⟩:=cs a8;refine wz 2 Z Z (Du Z Z Z Z e2) (zm 3 Z Z (zf 4 Tk Z Z (wz 5 Z Z (Af N6 Z Z Z (cu 1 2 (Ac 1 Z) Z)) (zm 6 Z Z ?_))));obtain⟨l9,j0,b0⟩:=An a9;refine wz 7 Z Z (QV.call Axl (ea Z) (fun w d=>have h:=P8 w j0 (Mo 0 Z j x w d) (Ac 4 Z w d) ((Df 2 Z) w d);h)) ?_;refine zm 8 Z Z (zf 9 U6 Z Z (wz 10 Z Z (Af N6 Z Z Z (cu 3 2 (Ac 1 Z) Z)) (zm 11 Z Z ?_)));obtain⟨m0,j1,b3⟩:=An b0;refine wz 12 Z Z (QV.call Axl (ea Z) (fun w d=>have h:=P8 w j1 (Mo 0 Z j x w d) (Ac 4 Z w d) ((Df 2 Z) w d);h)) ?_;obtain⟨B,j2,g7⟩:=An b3;refine wz 13 Z Z (QV.call A4c (ea Z) (fun w d=>have h:=Aol w j2 ;h)) ?_;refine wz 14 Z Z (QV.assign Z Z) (Em Ag (Bd (Al (Bo (wm Z (wm Z (Ab Z ((D4 Ai Zh Ai Ai (ps:=[(0,.tmp 101)]) (cells:=[i_ B]) (ea Z) Ag (fun k3=>Ab Z (have ⟨U,e3,g8⟩:=cs2 g7;(B0 (enc:=Ar) (xs:=a) (ys:=[B]) ((a++[B])) 2 Ai Ach Z Z Z Z Z (Bi 0 (rows:=[B].map Ar) Z Z (B3 Bf)) Bf (Dh _) Z U.1 U.2 (fun j8 i4=>wa Z (Bm (Bd (Al (Bo (wq Z (A6 Z Z Z Z e3) (wm Z (Bm ?_))))))))))))))))))));exact Gh (a++[B]) c (b+1) j8 y ⟨A4 g8 s,i4,k,i⟩ (Ck _) (sb Z) (pk [2,3,4,5])
 refine C1 (te (te (Am ?_)));exact N2 a c b g ⟨Bh g9 s,L,k,i⟩ (sb Z) (pk [0,1,2,3])
theorem Au9 {L K N g1 g2:Ak}{l:Lp}{s:Sta}{b0:Int}{r:Rst×Int}{v:Aj} (a8:Kw l s b0=some r) (c8:Arr v L 1 (l.logs.map Ar)) (c7:Arr v K 9 (l.body.map Stm.cells)) (O:Arr v N 1 (l.outs.map Ar)) (a3:RowsA v g1 s.bef) (c9:RowsA v g2 s.mem) (M:Nat→Prop) (w:Aj) (d:Base M v w) (l1:Own M w [] w):Calls Tryz.prog 40 #[.agg #[L,K,N],.agg #[g1,g2],.int .i64 b0] w (fun e w'=>∃ X:Ak×Ak×Aj,e=.returned (.tuple #[.agg #[X.1,X.2.1],.int .i64 r.2])∧Own M w (kn M w.heap.size v X.2.2::[]) w'∧Arr X.2.2 X.1 1 (r.1.outs.map Ar)∧RowsA X.2.2 X.2.1 r.1.mem):=by
 unfold Kw at a8;refine cw 102 Tryz.func40 Z (sr (Ab Z ((A3 Ai Z Z (fun b1=>Ab Z ((A3 Ai Z Z (fun b2=>Ab Z ((Ci Ai Aw3 (fun m8=>wa Z (nt (Ax (Cr (sr (wq Z (Af Fz Z Z Z (Ac 2 Z)) (wq Z (Af As1 Z Z Z (Ac 1 Z)) ?_))))))))))))))))) (Aw d l1);obtain⟨o7,l3,e1⟩:=An a8;refine wq Z (QV.call en70 (ea Z) (fun w b=>have h:=Apo w l3 ((Ah 3 Z d c8) w b) ((Ah 3 Z d c7) w b) ((Ah 3 Z d O) w b) (Mo 3 Z d a3 w b) (Mo 3 Z d c9 w b);h)) ?_;refine wq Z (QV.not Z Z) (wa Z (nt ?_));refine wc Z e1 (fun h4 j5=>?_) (fun h4 e4=>?_)
 ·skip
  refine sr (wq Z (QV.build (ps:=[]) (cells:=[.slice none 0 0,.slice none 0 0]) eN Ag) (Ab Z ((ew 0 [.slice none 0 0,.slice none 0 0] Ano Z (wa Z (nt (Bc (kr (tr ?_)))))))));obtain rfl:=(Ad j5).symm;refine Db Z As0 Z Z Z (Ac 0 Z) (fun w b=>?_);exact⟨(.slice none 0 0,.slice none 0 0,v),Z,b.pick [3] Ai,Gd,RowsA.nil⟩
 refine sr (wm Z (wq Z (QV.lss Z Z Z Z) (wm Z (gN Z (QV.move Z Z) (gn Z (fun i0=>QV.gtr Z i0 Z Z) (wq Z (Be Z Z Z (fun h=>Fx h)) (wa Z (nt ?_))))))));refine wc Z e4 (fun h1 i6=>?_) (fun h1 d3=>?_)
 ·skip
  refine sr (wq Z (QV.build (ps:=[]) (cells:=[.slice none 0 0,.slice none 0 0]) eN Ag) (Ab Z ((ew 0 [.slice none 0 0,.slice none 0 0] Ano Z (wa Z (nt (Bc (kr (tr ?_)))))))));obtain rfl:=(Ad i6).symm;refine Db Z As0 Z Z Z (Ac 0 Z) (fun w b=>?_);exact⟨(.slice none 0 0,.slice none 0 0,v),Z,b.pick [3] Ai,Gd,RowsA.nil⟩
 refine sk (Bd (Al (Ax (dp 7 [3,0,1,2] Z (wz 0 Z Z (Af Fz Z Z Z (Ac 3 Z)) (zf 1 Yn Z Z (zl 2 Nn Z Z (Aq 2 Z Z) (Dd 3 Z Ag Z ?_))))))));obtain⟨m5,l2,d5⟩:=An d3;refine(cr [3,0,1,2] d en71 Z (Aho l2 c9) Z (fun H a1 B=>bp [0,1,2,3,4] Z (fun w b=>Fk B (Jy _) (b.pick [0,2,3,4] Ai)) (wz 4 Z Z (Rp (ps:=[(0,.tmp 31),(2,.tmp 34)]) (cells:=[L,K,N,.slice none 0 0,H.1]) (css:=[[L,K,N],[H.1]]) (ea Z) (Pj Z (Pj (Hz a1.1) Air)) Ag) (Dd 5 Z Ag Z ((A3 Ai Z Z (fun b3=>bp [1,0,2,3,4,5] Z (pk [0,2,3,4,5]) (wz 6 Z Z (QV.assign Z Z) (Em Ag (Al (Ax (sr (wm Z (nt (Gk (fun w b=>b.vecNil (E:=43) (sz:=1) (enc:=Lg)) ?_)))))))))))))));obtain⟨f5,d6,m0,j9⟩:=bl d5;refine Rn (dt [2,3,4,6,8] [3,4,5,6] Z) (fun (j:List (List Int)) (k:Int) (t:Ak) (c:List (Ak×List Int)) (y:Aj)=>[(37,(true,i_ k))]) (fun j k t c y=>[vec t 43 1 (List.map Lg c),blk b3 [L,K,N,t,H.1] 148,kn M w.heap.size v y]) (fun j k t c y m=>Cp (Px s) m (j,k)=some f5∧SliceLen t j.length∧c.map (·.2)=j∧RowsK y c∧Le H.2.2 y) (fun j k t c y=>f5=.go (j,k)∧SliceLen t j.length∧c.map (·.2)=j∧RowsK y c∧Le H.2.2 y) [] 0 (.slice none 0 0) [] H.2.2 m0 ⟨j9,Hg,Z,RowsK.nil,(Jy _)⟩ (sb Z) (pk [0,1,2,3,4,5,6]) ?_ ?_
 ·skip
  rintro j k t c y ⟨rfl,d1,S,T,x⟩;refine Al (Ax (sr (wm Z (wm Z (nt (kp [2,0,1,3,4,5,6] Z (Gc d (fun a0 I k6=>?_))))))));have h7:RowsA a0 t j:=⟨c,S,Cn k6,(T.le I)⟩;obtain⟨f6,d7,m1,k0⟩:=bl d6;refine Aj9 (dt [3,6,8,66] [3,4,5] Z) (fun (q:List (List Int)) (g:List (List Int)) (A:Int) (i:Ak) (F:List Ak) (G:Ak) (z:Aj)=>[(67,(true,i_ A))]) (fun q g A i F G z=>[kn M w.heap.size v z,blk b3 [L,K,N,G,i] 148,Iy i F 43 2 q]) (fun q g A i F G z m=>Cp (Pw l b0) m (q,g,A)=some f6∧SliceLen i q.length∧GL F q∧RowsA z G g∧Le a0 z) (fun q g A i F G z=>f6=.go (q,g,A)∧SliceLen i q.length∧GL F q∧RowsA z G g∧Le a0 z) m5 j 0 H.1 H.2.1 t a0 m1 ⟨k0,a1.1,a1.2,h7,(Jy _)⟩ (sb Z) (pk [0,1,2,3,4,5]) ?_ ?_
  ·skip
   rintro q g A i F G z ⟨rfl,J,a4,Q,C⟩;refine Al (sr (wm Z (wq Z (QV.nilCheck Z Z) (wf Aml Z (wl Nn Z (Aq 1 Z Z) (wq Z (Rp (ps:=[(1,.tmp 77)]) (cells:=[.slice none 0 0,i]) (css:=[[i]]) (ea Z) (Pj (Hz J) Air) Ag) (Ab Z ((Ci Ai Aw3 (fun g4=>Ab Z ((ex 0 [.slice none 0 0,i] (show Ee _=List.toArray _ from Z) Ano (oc Z (oc (De J) Cg)) Z (nt (Ax (sr (wf Xi Z (wl Fg Z (Aq 6 Z Z) (wq Z (A5 Tryz.underlying34 Z Z (O.le (((B.trans x).trans I).trans C)).lenMap) (wm Z (nt (Gk (fun w b=>b.vecNil (E:=2) (sz:=1) (enc:=Ar)) ?_)))))))))))))))))))));obtain⟨f7,j2,m2,k1⟩:=bl d7;refine F9 (dt [6,8,14,80,81] [2,3,4,5,6,7] Z) (fun (p:List Int) (o:Int) (u:Ak)=>[(82,(true,i_ o))]) (fun p o u=>[vec u 2 1 (List.map Ar p),blk g4 [u,i] 106]) (fun p o u m=>Cp (Ob l g) m (p,o)=some f7∧SliceLen u p.length) (fun p o u=>f7=.go (p,o)∧SliceLen u p.length) [] 0 (.slice none 0 0) m2 ⟨k1,Hg⟩ (sb Z) (pk [0,1,2,3,4,5,6,7]) ?_ ?_
   ·skip
    rintro p o u ⟨rfl,a6⟩;refine Al (sr (wq Z (Af As0 Z Z Z (Ac 1 Z)) (Ab Z ((ex 5 [u,i] (show Ee _=List.toArray _ from Z) Ano (oc (De a6) (oc (De J) Cg)) Z (wa Z (nt (Bc ?_))))))));obtain rfl:=(Ad j2).symm;refine kp [2,0,1,3,4,5,6,7] Z (Gc d (fun n1 n0 k7=>have h8:=Cn k7;kp [0,3,1,2,4,5,6] Z (Gc d (fun l5 i4 k8=>have h9:=Adm k8;Db Z As0 Z Z Z (Ac 3 Z) (fun w b=>?_)))));exact⟨(u,i,l5),Z,b.pick [0] Ai,(h8.le i4),h9⟩
   rintro p o u n3 ⟨c4,a6⟩;obtain⟨l7,o2,rfl,V,e8⟩:=A2 c4;unfold Ob at V;simp only at V;refine sr (wq Z (QV.lss Z Z Z Z) (nt (Ax ?_)));refine wc Z V (fun h3 d8=>?_) (fun h3 j4=>?_)
   ·skip
    refine sk (Al (Ax (Cr (sr ?_))));obtain⟨b7,d9⟩:=cs d8;obtain⟨n8,f2⟩:=(O.le (((B.trans x).trans I).trans C)).lenMap.ix (sz:=1) Ap b7;refine wq Z (Ae Fy Z Z Z Z f2) (wl pl3 Z (cl 0 (Ah 2 Z d (O.le (((B.trans x).trans I).trans C))) f2 b7 Z) (wa Z (nt (dp 15 [2,1,3,4,5,6,7] Z (zf 0 Amn Z Z (zl 1 To Z Z (Aq 1 Z Z) (zm 2 Z Z (wz 3 Z Z (QV.nilCheck Z Z) (zf 4 Ym Z Z (zl 5 Nn Z Z (Aq 2 Z Z) ?_))))))))));obtain⟨g8,e0⟩:=cs d9;obtain⟨n9,o6,k4,i3,c2⟩:=Q.ix g8;refine wz 6 Z Z (Ae St Z Z Z Z k4) (zl 7 To Z Z (co 0 (A1 0 Z d i3) Z) (zm 8 Z Z ?_));obtain⟨b8,e2⟩:=cs e0;obtain⟨o0,f3⟩:=c2.lenMap.ix (sz:=1) Ap b8;refine wz 9 Z Z (Ae Zx Z Z Z Z f3) (zl 10 pl2 Z Z (cl 0 (Ah 0 Z d c2) f3 b8 Z) (Dd 11 Z Ag Z ((D4 Ai Zh Ai Ai (ps:=[(0,.tmp 96)]) (cells:=[i_ (ele (ele g 0) (ele l.outs o))]) (ea Z) Ag (fun m9=>bp [3,0,2,4,5,6,7,8] Z (pk [0,2,3,4,5,6,7]) (Dd 12 Z Ag Z ?_))))));obtain⟨b9,g9,j3⟩:=cs2 e2;refine(B0 (enc:=Ar) (xs:=p) (ys:=[(ele (ele g 0) (ele l.outs o))]) ((p++[(ele (ele g 0) (ele l.outs o))])) 1 Ai Ach Z Z Z Z Z (Bi 0 (rows:=[(ele (ele g 0) (ele l.outs o))].map Ar) Z Z (B3 Bf)) Bf (Dh _) Z b9.1 b9.2 (fun g0 a9=>bp [3,0,1,2,4,5,6,7,8] Z (pk [0,1,3,4,5,6,7,8]) (zf 13 Amn Z Z (WD.l 14 Z Ag Z ((ex 2 [g0] (Hz a9) sz43 (oc (De a9) Cg) Z (Bd (Al (Bo (wq Z (A6 Z Z Z Z g9) (wm Z (Bm ?_))))))))))));exact Ed (p++[(ele (ele g 0) (ele l.outs o))]) (o+1) g0 l7 ⟨A4 j3 e8,a9⟩ (Ck _) (sb Z) (pk [1,2,3,4,5,6,7,8])
   refine C1 (te (te (Am ?_)));exact J2 p o u ⟨Bh j4 e8,a6⟩ (sb Z) (pk [0,1,2,3,4,5,6,7])
  rintro q g A i F G z n4 ⟨c5,J,a4,Q,C⟩;obtain⟨l8,o3,rfl,W,e9⟩:=A2 c5;unfold Pw at W;simp only at W;refine sr (wq Z (QV.lss Z Z Z Z) (nt (Ax ?_)));refine wc Z W (fun h5 e3=>?_) (fun h5 j8=>?_)
  ·skip
   refine sk (Al (Ax (Cr (sr (wm Z (wa Z (nr (wm Z (wm Z (Ab Z ?_))))))))));obtain⟨g3,l4,j6⟩:=An e3;refine(cq d en72 Z (Acf l4 (c8.le (((B.trans x).trans I).trans C)) (c7.le (((B.trans x).trans I).trans C)) (O.le (((B.trans x).trans I).trans C)) Q J a4) Z (fun P a2 i5=>Bm (Bd (Al (Bo (have ⟨h0,j7⟩:=cs j6;wq Z (A6 Z Z Z Z h0) (wm Z (Bm ?_))))))));exact Pv g3.2 g3.1 (A+1) P.2.1 P.2.2.1 P.1 P.2.2.2 l8 ⟨A4 j7 e9,a2.2.1,a2.2.2,a2.1,(C.trans i5)⟩ (Ck _) (sb Z) (pk [0,1,2,3,4,5])
  refine C1 (te (te (Am ?_)));exact At8 q g A i F G z ⟨Bh j8 e9,J,a4,Q,C⟩ (sb Z) (pk [0,1,2,3,4,5])
 rintro j k t c y n5 ⟨c6,d1,S,T,x⟩;obtain⟨l9,o4,rfl,Y,f0⟩:=A2 c6;unfold Px at Y;simp only at Y;refine sr (wq Z (QV.lss Z Z Z Z) (nt (Ax ?_)));refine wc Z Y (fun h6 e5=>?_) (fun h6 j1=>?_)
 ·skip
  refine sk (Al (Ax (Cr (sr (wm Z (wa Z (ns (wa Z (nt (Ax (sr (wf Vi Z (wl Nn Z (Aq 5 Z Z) (wq Z (A5 Tryz.underlying102 Z Z (a3.le (B.trans x)).slen) (wm Z (nt (Gk (fun w b=>b.vecNil (E:=2) (sz:=1) (enc:=Ar)) ?_)))))))))))))))));obtain⟨f8,e6,m3,k2⟩:=bl e5;refine F9 (dt [2,3,4,6,8,9,37,41,42] [1,2,3,4,5,6,7] Z) (fun (a:List Int) (n:Int) (f:Ak)=>[(10,(true,f)),(43,(true,i_ n))]) (fun a n f=>[vec f 2 1 (List.map Ar a)]) (fun a n f m=>Cp (Oc s k) m (a,n)=some f8∧SliceLen f a.length) (fun a n f=>f8=.go (a,n)∧SliceLen f a.length) [] 0 (.slice none 0 0) m3 ⟨k2,Hg⟩ (sb Z) (pk [0,1,2,3,4,5,6,7]) ?_ ?_
  ·skip
   rintro a n f ⟨rfl,a7⟩;refine Al (Bo (wm Z (wm Z (wq Z (QV.nilCheck Z Z) (wf Ym Z (wl Nn Z (Aq 2 Z Z) (wm Z (Ab Z ((D4 Ai Agj Ai Ai (ps:=[(0,.tmp 60)]) (cells:=[f]) (ea Z) (Abj a7) (fun m6=>Ab Z (ep [4,1,0,2,3,5,6,7,8] Z (Wv d (fun f4 d0 k5=>?_))))))))))))));have c0:=Cn k5;obtain⟨b4,g5,i7⟩:=cs2 e6;have i1:RowsK f4 (c++[(f,a)]):=Adg (T.le d0) c0;have R:((c++[(f,a)]):List (Ak×List Int)).map (·.2)=(j++[a]):=Agu S;refine(B0 (enc:=Lg) (xs:=c) (ys:=[(f,a)]) (c++[(f,a)]) 2 Ai Anm Z Z Z Z Z (Bi 1 (rows:=[(f,a)].map Lg) Z Z (B3 Oi)) Oi (Amc c0.lenMap) Z (AL.b1 R b4) (AL.b2 R b4) (fun f9 k9=>have a5:=Abx R k9;wq Z (QV.nilCheck Z Z) (wf Ym Z (Ab Z ((ex 3 [f9] (Hz a5) Ast (oc (De a5) Cg) Z (Bm (Bd (Al (Bo (wq Z (A6 Z Z Z Z g5) (wm Z (Bm ?_)))))))))))));exact Rm (j++[a]) (k+1) f9 (c++[(f,a)]) f4 l9 ⟨A4 i7 f0,a5,R,i1,(x.trans d0)⟩ (Ck _) (sb Z) (pk [2,3,0,4,5,6,7])
  rintro a n f n2 ⟨c3,a7⟩;obtain⟨l6,o1,rfl,U,e7⟩:=A2 c3;unfold Oc at U;simp only at U;refine sr (wq Z (QV.lss Z Z Z Z) (nt (Ax ?_)));refine wc Z U (fun h2 d2=>?_) (fun h2 j0=>?_)
  ·skip
   refine sk (Al (Ax (Cr (sr ?_))));obtain⟨g6,d4⟩:=cs d2;obtain⟨n6,o5,k3,i2,c1⟩:=(a3.le (B.trans x)).ix g6;refine wq Z (Ae St Z Z Z Z k3) (wl To Z (co 0 (A1 3 Z d i2) Z) (wa Z (nr (wm Z (wm Z (wm Z ?_))))));obtain⟨b5,i8⟩:=cs d4;obtain⟨n7,f1⟩:=c1.lenMap.ix (sz:=1) Ap b5;refine wq Z (Ae Zx Z Z Z Z f1) (wl pl2 Z (cl 0 (Ah 3 Z d c1) f1 b5 Z) (Ab Z ((D4 Ai Zh Ai Ai (ps:=[(0,.tmp 51)]) (cells:=[i_ (ele (ele s.bef n) k)]) (ea Z) Ag (fun m7=>Ab Z (have ⟨b6,g7,i9⟩:=cs2 i8;(B0 (enc:=Ar) (xs:=a) (ys:=[(ele (ele s.bef n) k)]) ((a++[(ele (ele s.bef n) k)])) 1 Ai Ach Z Z Z Z Z (Bi 0 (rows:=[(ele (ele s.bef n) k)].map Ar) Z Z (B3 Bf)) Bf (Dh _) Z b6.1 b6.2 (fun m4 l0=>wa Z (Bm (Bd (Al (Bo (wq Z (A6 Z Z Z Z g7) (wm Z (Bm ?_)))))))))))))));exact Ed (a++[(ele (ele s.bef n) k)]) (n+1) m4 l6 ⟨A4 i9 e7,l0⟩ (Ck _) (sb Z) (pk [1,2,3,4,5,6,7,8])
  refine C1 (te (te (Am ?_)));exact J2 a n f ⟨Bh j0 e7,a7⟩ (sb Z) (pk [0,1,2,3,4,5,6,7])
 refine C1 (te (te (Am ?_)));exact Yr j k t c y ⟨Bh j1 f0,d1,S,T,x⟩ (sb Z) (pk [0,1,2,3,4,5,6])
end Go.Proofs.YtaimbkndebaaiaaGreatDoor
end
section
namespace Go.Proofs.YtaimbkndebaaiaaGreatDoor
open Go.Rd
open TLib TLibR TLibA TSay TNum0 TNum TLoop TPar TStable TMach TMach2 TKern TClone TNbr TSeq
namespace TKRun
theorem en77:Go.Rd.Enters Tryz.prog 77:=eT Tryz.func77
theorem en78:Go.Rd.Enters Tryz.prog 78:=eT Tryz.func78
theorem en80:Go.Rd.Enters Tryz.prog 80:=eT Tryz.func80
end TKRun
open TKRun
theorem Am7 {I d1 d0:Ak}{t:Tgt}{c:Krn}{regs:List Int}{memory:List (List Int)}{G:Int}{r:List Int×List (List Int)×Int}{H:Aj} (a5:Jf t c regs memory G=some r) (a3:Arr H I 10 (c.ops.map Opr.cells)) (b5:Arr H d1 1 (regs.map Ar)) (b4:RowsA H d0 memory) (M:Nat→Prop) (w:Aj) (g:Base M H w) (g7:Own M w [] w):Calls Tryz.prog 42 #[.agg #[.int .i64 t.u0,.int .i64 t.u1,.int .i64 t.u2,.int .i64 t.w0,.int .i64 t.w1,.int .i64 t.w2,.int .i64 t.regs],.agg #[.int .i64 c.pace,.int .i64 c.stages,I],d1,d0,.int .i64 G] w (fun e w'=>∃ X:Ak×Ak×Aj,e=.returned (.tuple #[X.1,X.2.1,.int .i64 r.2.2])∧Own M w (kn M w.heap.size H X.2.2::[]) w'∧Arr X.2.2 X.1 1 (r.1.map Ar)∧RowsA X.2.2 X.2.1 r.2.1):=by
 unfold Jf at a5;refine cw 87 Tryz.func42 Z (sr (Ab Z ((A3 Ai Z Z (fun b1=>Ab Z ((A3 Ai Z Z (fun b2=>wa Z (wa Z (wa Z (ns (wm Z (Ab Z ?_))))))))))))) (Aw g g7);obtain⟨j2,h0,c2⟩:=An a5;refine(cr [2,0,1] g en77 Z (Aih h0 b4) Z (fun a7 e6 F=>wm Z (wq Z (Bp Z Z Z) (wq Z (Bp Z Z Z) (wa Z (wa Z (nt (Ax (Cr (sr (wm Z (wq Z (QV.not Z Z) (wm Z (gN Z (Af Hv Z Z Z (Ac 2 Z)) (gN Z (Af O0 Z Z Z (Ac 1 Z)) (gN Z (QV.move Z Z) ?_))))))))))))))));obtain⟨j4,h3,c5⟩:=C5 c2;refine gn Z (fun b=>QV.call en78 (C3 Z b (C3 Z b (C3 Z b eN))) (fun w a=>have h:=Acb w (h3 b) ((Ah 0 Z g (a3.le F)) w a) ((Ah 0 Z g e6) w a);h)) ?_;refine gn Z (fun b=>QV.not Z b) (wq Z (Be Z Z Z (fun h=>Fx h)) (wm Z (gN Z (QV.move Z Z) (gn Z (fun b=>A5 Tryz.underlying43 Z b (b5.le F).lenMap) (gN Z (QV.fieldAddr Nd Z Z) (gn Z (fun b=>Cm pl3 Z b (Aq 2 Z Z)) (gn Z (fun b=>QV.neq Z b Z b) (wq Z (Be Z Z Z (fun h=>Fx h)) (wa Z (nt ?_))))))))));refine wc Z c5 (fun d7 f0=>?_) (fun d7 b6=>?_)
 ·skip
  refine sr (wa Z (wa Z (wa Z (nt (Bc (kr (tr ?_)))))));obtain rfl:=(Ad f0).symm;refine N1 Z Z Z Z (fun w a=>?_);exact⟨(.slice none 0 0,.slice none 0 0,a7.2),Z,a.pick [0] Ai,Gd,RowsA.nil⟩
 refine sr (wm Z (wq Z (QV.lss Z Z Z Z) (wm Z (gN Z (QV.move Z Z) (gn Z (fun b=>QV.gtr Z b Z Z) (wq Z (Be Z Z Z (fun h=>Fx h)) (wa Z (nt ?_))))))));refine wc Z b6 (fun d8 f1=>?_) (fun d8 b7=>?_)
 ·skip
  refine sr (wa Z (wa Z (wa Z (nt (Bc (kr (tr ?_)))))));obtain rfl:=(Ad f1).symm;refine N1 Z Z Z Z (fun w a=>?_);exact⟨(.slice none 0 0,.slice none 0 0,a7.2),Z,a.pick [0] Ai,Gd,RowsA.nil⟩
 refine sk (Bd (Al (Ax (dq 10 (wz 0 Z Z (Af Hv Z Z Z (Ac 2 Z)) (wz 1 Z Z (Af O0 Z Z Z (Ac 1 Z)) (zm 2 Z Z (Ac9 7 Ag (zq 4 7 23 Z (QV.move Z Z) (zq 6 23 87 Z (QV.move Z Z) (Lh 3 87 95 Z Ag Z ?_)))))))))));obtain⟨i0,g8,b8⟩:=An b7;refine(cq g en79 Z (Aug g8 (b5.le F)) Z (fun O a9 K=>bp [0,1,2,3] Z (fun w a=>Fk K F (a.pick [0,2,3] Ai)) (Lh 5 95 127 Z Ag Z ?_)));obtain⟨i1,g9,b9⟩:=An b8;refine(cq g en71 Z (Aho g9 (b4.le (F.trans K))) Z (fun C a2 a4=>bp [0,1,2,3,4] Z (fun w a=>Fk a4 (F.trans K) (a.pick [0,2,3,4] Ai)) (zq 7 127 255 Z (Rp (ps:=[(0,.tmp 47),(1,.tmp 48),(2,.tmp 50),(3,.tmp 52),(4,.tmp 53)]) (cells:=[i_ t.u0,i_ t.u1,i_ t.u2,i_ t.w0,i_ t.w1,i_ t.w2,i_ t.regs,i_ c.pace,i_ c.stages,I,O.1,C.1,i_ G,.slice none 0 0]) (css:=[t.cells,[i_ c.pace,i_ c.stages,I],[O.1],[C.1],[i_ G]]) (ea Z) (Pj Z (Pj Z (Pj (Hz a9) (Pj (Hz a2.1) (Pj Z Air))))) Ag) (Lh 8 255 511 Z Ag Z ((A3 Ai Z Z (fun a8=>bp [1,0,2,3,4,5] Z (pk [0,2,3,4,5]) (zq 9 511 1023 Z (QV.assign Z Z) (Abf Ag (Al (Ax (sr (wm Z (wq Z (QV.gtr Z Z Z Z) (nt ?_)))))))))))))));refine wc Z b9 (fun d9 f2=>?_) (fun d9 g0=>?_)
 ·skip
  refine Ax (sr (wm Z (wf Aag Z (wl pl3 Z (Aq 4 Z Z) (have ⟨d3,d4,c0⟩:=cs2 f2;wq Z (A6 Z Z Z Z d3) (wq Z (Du Z Z Z Z d4) (wm Z (nt (Gk (fun w a=>a.ovecNil (E:=213) (sz:=3) (enc:=Due.cells)) ?_)))))))));obtain⟨c8,c1,h8,g1⟩:=bl c0;refine Aj7 (dt [6,15,62] [5,6] Z) (fun (o:List Due) (f:List (List Int)) (k:List Int) (x:Int) (v:Ak) (l:Ak) (z:List Ak) (q:Ak) (i:Aj)=>[(63,(true,i_ x))]) (fun o f k x v l z q i=>[Fo v 213 3 (List.map Due.cells o),blk a8 [i_ t.u0,i_ t.u1,i_ t.u2,i_ t.w0,i_ t.w1,i_ t.w2,i_ t.regs,i_ c.pace,i_ c.stages,I,q,l,i_ G,v] 163,kn M w.heap.size H i,Iy l z 43 2 f,vec q 2 1 (List.map Ar k)]) (fun o f k x v l z q i m=>Cp (Ju t c G) m (o,f,k,x)=some c8∧SliceLen v o.length∧SliceLen l f.length∧GL z f∧SliceLen q k.length∧Le C.2.2 i) (fun o f k x v l z q i=>c8=.go (o,f,k,x)∧SliceLen v o.length∧SliceLen l f.length∧GL z f∧SliceLen q k.length∧Le C.2.2 i) [] i1 i0 0 (.slice none 0 0) C.1 C.2.1 O.1 C.2.2 h8 ⟨g1,Hg,a2.1,a2.2,a9,(Jy _)⟩ (sb Z) (pk [0,1,2,3,4,5,6]) ?_ ?_
  ·skip
   rintro o f k x v l z q i ⟨rfl,Y,V,R,T,N⟩;refine Al (Bo (wm Z (Ab Z ?_)));obtain⟨j3,h1,f3⟩:=An c1;refine(cr [2,1,4,3,0,5,6] g en81 Z (Po h1 (a3.le (((F.trans K).trans a4).trans N)) T V R Y) Z (fun d2 i2 i3=>nt (Ax (dq 11 (zm 0 Z Z (wz 1 Z Z (QV.nilCheck Z Z) (zf 2 Abk Z Z (zl 3 To Z Z (Aq 1 Z Z) (zm 4 Z Z (wz 5 Z Z (QV.nilCheck Z Z) (zf 6 Amk Z Z (zl 7 Nn Z Z (Aq 1 Z Z) (wz 8 Z Z (QV.assign Z Z) (wz 9 Z Z (QV.assign Z Z) (wz 10 Z Z (QV.assign Z Z) (Em Ag (Al (Bc ?_))))))))))))))))));obtain rfl:=(Ad f3).symm;refine kp [0,3,1,2,4,5,6] Z (Gc g (fun i6 i4 g3=>have e2:=Cn g3;kp [0,2,1,3,4,5] Z (Gc g (fun h4 e7 g4=>have e3:=Adm g4;N1 Z Z Z Z (fun w a=>?_)))));exact⟨(d2.1,l,h4),Z,a.pick [0] Ai,(e2.le e7),e3⟩
  rintro o f k x v l z q i i8 ⟨b0,Y,V,R,T,N⟩;obtain⟨h6,j0,rfl,a0,c6⟩:=A2 b0;unfold Ju at a0;simp only at a0;refine sr (wq Z (QV.lss Z Z Z Z) (nt (Ax ?_)));refine wc Z a0 (fun e0 c3=>?_) (fun e0 f9=>?_)
  ·skip
   refine sk (Al (Ax (Cr (sr (wm Z (wa Z (ns (wf U9 Z (wl pl3 Z (Aq 5 Z Z) (wm Z (nt ?_)))))))))));obtain⟨c9,f4,h9,g2⟩:=bl c3;refine Aj7 (dt [6,15,16,62,63,67] [5,6] Z) (fun (n:List Due) (d:List (List Int)) (j:List Int) (B:Int) (u:Ak) (s:Ak) (y:List Ak) (p:Ak) (A:Aj)=>[(68,(true,i_ B))]) (fun n d j B u s y p A=>[Fo u 213 3 (List.map Due.cells n),blk a8 [i_ t.u0,i_ t.u1,i_ t.u2,i_ t.w0,i_ t.w1,i_ t.w2,i_ t.regs,i_ c.pace,i_ c.stages,I,p,s,i_ G,u] 163,kn M w.heap.size H A,Iy s y 43 2 d,vec p 2 1 (List.map Ar j)]) (fun n d j B u s y p A m=>Cp (Jt t c G x) m (n,d,j,B)=some c9∧SliceLen u n.length∧SliceLen s d.length∧GL y d∧SliceLen p j.length∧Le i A) (fun n d j B u s y p A=>c9=.go (n,d,j,B)∧SliceLen u n.length∧SliceLen s d.length∧GL y d∧SliceLen p j.length∧Le i A) o f k 0 v l z q i h9 ⟨g2,Y,V,R,T,(Jy _)⟩ (sb Z) (pk [0,1,2,3,4,5,6]) ?_ ?_
   ·skip
    rintro n d j B u s y p A ⟨rfl,W,U,Q,S,L⟩;refine Bd (Al (Bo (have ⟨d5,f5⟩:=cs f4;wq Z (A6 Z Z Z Z d5) (wm Z (Bm ?_)))));exact Aj3 n d j (x+1) u s y p A h6 ⟨A4 f5 c6,W,U,Q,S,(N.trans L)⟩ (Ck _) (sb Z) (pk [0,1,2,3,4,5,6])
   rintro n d j B u s y p A i9 ⟨b3,W,U,Q,S,L⟩;obtain⟨h7,j1,rfl,a1,c7⟩:=A2 b3;unfold Jt at a1;simp only at a1;refine sr (wq Z (QV.lss Z Z Z Z) (nt (Ax ?_)));refine wc Z a1 (fun e1 c4=>?_) (fun e1 f8=>?_)
   ·skip
    refine sk (Al (Ax (Cr (sr (wm Z (wa Z (nr (wm Z (wm Z (wm Z (Ab Z ?_)))))))))));obtain⟨a6,h2,f6⟩:=An c4;refine(cr [2,1,4,3,0,5,6] g en80 Z (V9 h2 (a3.le ((((F.trans K).trans a4).trans N).trans L)) S U Q W) Z (fun J P e8=>Bm (Bd (Al (Bo (have ⟨d6,f7⟩:=cs f6;wq Z (A6 Z Z Z Z d6) (wm Z (Bm ?_))))))));exact Aj3 a6.2.2 a6.2.1 a6.1 (B+1) J.2.2.2.1 J.2.1 J.2.2.1 J.1 J.2.2.2.2 h7 ⟨A4 f7 c7,P.2.2.2,P.2.1,P.2.2.1,P.1,(L.trans e8)⟩ (Ck _) (sb Z) (pk [4,1,0,3,2,5,6])
   refine C1 (te (te (Am ?_)));exact At6 n d j B u s y p A ⟨Bh f8 c7,W,U,Q,S,L⟩ (sb Z) (pk [0,1,2,3,4,5,6])
  refine C1 (te (te (Am ?_)));exact At6 o f k x v l z q i ⟨Bh f9 c6,Y,V,R,T,N⟩ (sb Z) (pk [0,1,2,3,4,5,6])
 refine sk (Al (Ax (dp 11 [1,0,2,3,4,5] Z (zm 0 Z Z (wz 1 Z Z (QV.nilCheck Z Z) (zf 2 Abk Z Z (zl 3 To Z Z (Aq 1 Z Z) (zm 4 Z Z (wz 5 Z Z (QV.nilCheck Z Z) (zf 6 Amk Z Z (zl 7 Nn Z Z (Aq 1 Z Z) (wz 8 Z Z (QV.assign Z Z) (wz 9 Z Z (QV.assign Z Z) (wz 10 Z Z (QV.assign Z Z) (Em Ag (Al (Bc ?_)))))))))))))))));obtain rfl:=(Ad g0).symm;refine kp [1,3,0,2,4,5] Z (Gc g (fun i7 i5 g5=>have e4:=Cn g5;kp [0,2,1,3,4] Z (Gc g (fun h5 e9 g6=>have e5:=Adm g6;N1 Z Z Z Z (fun w a=>?_)))));exact⟨(O.1,C.1,h5),Z,a.pick [0] Ai,(e4.le e9),e5⟩
end Go.Proofs.YtaimbkndebaaiaaGreatDoor
end
section
namespace Go.Proofs.YtaimbkndebaaiaaGreatDoor
open Go.Rd
open TLib TLibR TLibA TSay TNum0 TNum TLoop TPar TStable TMach TMach2 TKern TClone TNbr TSeq TKRun
namespace TKeep
theorem ag263:Rs Tryz.prog 263 2:=⟨_,Tryz.underlying263,rfl,Ag⟩
theorem en156:Go.Rd.Enters Tryz.prog 156:=eT Tryz.func156
theorem en157:Go.Rd.Enters Tryz.prog 157:=eT Tryz.func157
theorem en173:Go.Rd.Enters Tryz.prog 173:=eT Tryz.func173
theorem en181:Go.Rd.Enters Tryz.prog 181:=eT Tryz.func181
theorem en75:Go.Rd.Enters Tryz.prog 75:=eT Tryz.func75
theorem Yl:B8 Tryz.prog 156 0 0:=fT 2 Tryz.underlying156
theorem Ae6:B8 Tryz.prog 156 1 3:=fT 0 Tryz.underlying156
theorem O6:B8 Tryz.prog 156 2 4:=fT 0 Tryz.underlying156
theorem Yk:B8 Tryz.prog 156 3 5:=fT 0 Tryz.underlying156
theorem Vh:B8 Tryz.prog 156 4 6:=fT 0 Tryz.underlying156
theorem Mj:B8 Tryz.prog 156 5 7:=fT 0 Tryz.underlying156
theorem Att:B8 Tryz.prog 263 0 0:=fT 0 Tryz.underlying263
theorem A2q:B8 Tryz.prog 263 1 1:=fT 0 Tryz.underlying263
theorem kt3:KeyT Tryz.prog 3 kI:=KeyT.int Tryz.underlying3
theorem Asw:Aqd Tryz.prog 236 3 4:=Tryz.underlying236
theorem pl4:No Tryz.prog 4:=⟨_,Tryz.underlying4,rfl⟩
theorem sl239:I1 Tryz.prog 239 263 2:=⟨Tryz.underlying239,Ag⟩
theorem sz263:Dg Tryz.prog 263 2:=by unfold Dg;kernel_rfl
theorem A44:O4 Tryz.prog 239 263 2 [.int .i64 0,.bool Ay]:=⟨Tryz.underlying239,Ag⟩
theorem ve239:Ws Tryz.prog 239 263 2 16:=⟨Tryz.underlying239,Ag,Ai⟩
theorem ze263:ZeroT Tryz.prog 263 [.int .i64 0,.bool Ay]:=by unfold ZeroT;kernel_rfl
theorem A3j:Akl Tryz.prog 4 (bv Ay):=by unfold Akl;kernel_rfl
end TKeep
open TKeep
theorem Aht {K J L:Ak}{l:Lp}{a r:Int} (w:Aj) (q:P3 l a=some r) (b4:Arr w K 1 (l.logs.map Ar)) (p:Arr w J 9 (l.body.map Stm.cells)) (b5:Arr w L 1 (l.outs.map Ar)):Calls Tryz.prog 75 #[.agg #[K,J,L],.int .i64 a] w (fun e w'=>e=.returned (.int .i64 r)∧Grow w w'):=by
 unfold P3 at q;refine have i:=D2 (w:=w);cw 35 Tryz.func75 Z (sr (Ab Z ((A3 Ai Z Z (fun b1=>wa Z (ns (wa Z (nt (Ax (sr (wf Dj Z (wl J1 Z (Aq 0 Z Z) (wq Z (A5 Tryz.underlying45 Z Z p.lenMap) (wm Z (nt ?_))))))))))))))) (Aw i (D3 w));obtain⟨H,W,b0,a5⟩:=bl q;refine F9 (dt [1,11,12] [0] Z) (fun (f:Int) (d:Int) (g:Aj)=>[(5,(true,i_ f)),(13,(true,i_ d))]) (fun f d g=>[kn noM w.heap.size w g]) (fun f d g m=>Cp (L6 l a) m (f,d)=some H∧Le w g) (fun f d g=>H=.go (f,d)∧Le w g) 0 0 w b0 ⟨a5,(Jy _)⟩ (sb Z) (pk [1,0]) ?_ ?_
 ·skip
  rintro f d g ⟨rfl,h⟩;refine Al (sr (wm Z (wa Z (nt (Bc ?_)))));obtain rfl:=(Ad W).symm;exact Az Z Z fun w a6=>kg a6
 rintro f d g b7 ⟨x,h⟩;obtain⟨a8,c0,rfl,j,C⟩:=A2 x;unfold L6 at j;simp only at j;refine sr (wq Z (QV.lss Z Z Z Z) (nt (Ax ?_)));refine wc Z j (fun P y=>?_) (fun P a3=>?_)
 ·skip
  refine sk (Al (Ax (Cr (sr ?_))));obtain⟨t,z⟩:=cs y;obtain⟨b8,E⟩:=(p.le h).lenMap.ix (sz:=9) Ap t;refine wq Z (Ae Wq Z Z Z Z E) (wq Z (Af N5 Z Z Z (el (Ah 0 Z i (p.le h)) E t)) (Ab Z ((Ci Ai S8 (fun b2=>Ab Z ((ew 0 (Stm.cells (ele l.body d)) S9 Z (ns (wq Z (Af N5 Z Z Z (Ac 0 Z)) (Ab Z ?_))))))))));obtain⟨n,a7,A⟩:=An z;refine(cr [1,0,2] i Aqb Z (L4 a7) Z (fun M o S=>wq Z (A5 Tryz.underlying83 Z Z o.lenMap) (wm Z (nt ?_))));obtain⟨I,T,a9,a4⟩:=bl A;refine Cj (dt [1,11,12,13,18,19] [0,1,2] Z) (fun (c:Int) (b:Int)=>[(5,(true,i_ c)),(20,(true,i_ b))]) (fun c b=>[]) (fun c b m=>Cp (L5 a n) m (c,b)=some I) (fun c b=>I=.go (c,b)) f 0 a9 a4 (sb Z) (pk [0,1,2]) ?_ ?_
  ·skip
   rintro c b rfl;refine Bd (Al (Bo (have ⟨N,U⟩:=cs T;wq Z (A6 Z Z Z Z N) (wm Z (Bm ?_)))));exact Ed c (d+1) M.2 a8 ⟨A4 U C,(h.trans S)⟩ (Ck _) (sb Z) (pk [0,2])
  rintro c b b6 v;obtain⟨G,c1,rfl,k,s⟩:=A2 v;unfold L5 at k;simp only at k;refine sr (wq Z (QV.lss Z Z Z Z) (nt (Ax ?_)));refine wc Z k (fun Q V=>?_) (fun Q a2=>?_)
  ·skip
   refine sk (Al (Ax (Cr (sr (have ⟨u,B⟩:=cs V;have ⟨b9,F⟩:=o.lenMap.ix (sz:=2) Ap u;wq Z (Ae Auj Z Z Z Z F) (wq Z (Af N6 Z Z Z (el (Ah 0 Z i o) F u)) (Ab Z ((Ci Ai Ake (fun b3=>Ab Z ((ew 0 [i_ ((ele n b).st),i_ ((ele n b).bk)] Zw Z (ns (wf R6 Z (wl pl3 Z (Aq 0 Z Z) (wm Z (wq Z (QV.eql Z Z Z Z) (nt ?_))))))))))))))))));refine wc Z B (fun R X=>?_) (fun R a0=>?_)
   ·skip
    refine Bo (wm Z (wf Qw Z (wl pl3 Z (Aq 0 Z Z) (wq Z (Aa0 Z Z Z Z) (wa Z (Bm (Bd (Al (Bo (have ⟨c46,Y⟩:=cs X;wq Z (A6 Z Z Z Z c46) (wm Z (Bm ?_))))))))))));exact B1 (max c ((ele n b).bk)) (b+1) G (A4 Y s) (Ck _) (sb Z) (pk [1,2,3])
   refine sk (Bd (Al (Bo (have ⟨O,a1⟩:=cs a0;wq Z (A6 Z Z Z Z O) (wm Z (Bm ?_))))));exact B1 c (b+1) G (A4 a1 s) (Ck _) (sb Z) (pk [1,2,3])
  refine C1 (te (te (Am ?_)));exact Ct c b (Bh a2 s) (sb Z) (pk [0,1,2])
 refine C1 (te (te (Am ?_)));exact J2 f d g ⟨Bh a3 C,h⟩ (sb Z) (pk [0,1])
theorem Aew {q:Ak}{s:List Int}{v r:Int} (w:Aj) (c:N3 s v=some r) (b:Arr w q 1 (s.map Ar)):Calls Tryz.prog 181 #[q,.int .i64 v] w (fun e w'=>e=.returned (.int .i64 r)∧Grow w w'):=by
 unfold N3 at c;refine have j:=D2 (w:=w);cw 19 Tryz.func181 Z (sr (wa Z (nt (Ax (sr (wm Z (wq Z (A5 Tryz.underlying34 Z Z b.lenMap) (wm Z (nt ?_))))))))) (Aw j (D3 w));obtain⟨p,n,E,B⟩:=bl c;refine Dq (dt [0,1,7] [0] Z) (fun (a:Int)=>[(8,(true,i_ a))]) (fun a=>[]) (fun a m=>Cp (Hw s v) m a=some p) (fun a=>p=.go a) 0 E B (sb Z) (pk [0]) ?_ ?_
 ·skip
  rintro a rfl;refine Al (sr (wa Z (nt (Bc ?_))));obtain rfl:=(Ad n).symm;exact Az Z Z fun w g=>kg g
 rintro a F i;obtain⟨C,H,rfl,d,f⟩:=A2 i;unfold Hw at d;refine sr (wq Z (QV.lss Z Z Z Z) (nt (Ax ?_)));refine wc Z d (fun t k=>?_) (fun t A=>?_)
 ·skip
  refine sk (Al (Ax (Cr (sr (wm Z (wa Z (ns (wm Z (wm Z (wm Z ?_))))))))));obtain⟨h,l⟩:=cs k;obtain⟨G,o⟩:=b.lenMap.ix (sz:=1) Ap h;refine wq Z (Ae Fy Z Z Z Z o) (wl pl3 Z (cl 0 (Ah 0 Z j b) o h Z) (wq Z (QV.eql Z Z Z Z) (nt ?_)));refine wc Z l (fun u x=>?_) (fun u y=>?_)
  ·skip
   refine sr (wm Z (wa Z (nt (Bc (kr (tr (tr (kr (tr (tr ?_))))))))));obtain rfl:=Dn x f;obtain rfl:=(Ad n).symm;exact Az Z Z fun w g=>kg g
  refine sk (Bd (Al (Bo (have ⟨c21,z⟩:=cs y;wq Z (A6 Z Z Z Z c21) (wm Z (Bm ?_))))));exact Dp (a+1) C (A4 z f) (Ck _) (sb Z) (pk [0])
 refine C1 (te (te (Am ?_)));exact El a (Bh A f) (sb Z) (pk [0])
theorem Aau {d:Ak}{s:List Int}{v:Int}{r:Bool} (w:Aj) (a:It s v=some r) (f:Arr w d 1 (s.map Ar)):Calls Tryz.prog 173 #[d,.int .i64 v] w (fun e w'=>e=.returned (.bool r)∧Grow w w'):=by
 unfold It at a;refine have c:=D2 (w:=w);cw 9 Tryz.func173 Z (sr (wa Z (ns (wm Z (wm Z ?_))))) (Aw c (D3 w));obtain⟨j,i,g⟩:=An a;refine wq Z (QV.call en181 (ea Z) (fun w b=>have h:=Aew w i ((Ah 0 Z c f) w b);h)) ?_;refine wq Z (QV.geq Z Z Z Z) (wa Z (nt (Bc ?_)));obtain rfl:=(Ad g).symm;exact Az Z Z fun w b=>kg b
theorem Awm {a3:Addr}{d5 a4 d6 a5 d8 d7:Ak}{v:List Stm}{j a6:Int}{k:List Int}{a:Int}{r:List Use}{l:Aj} (A:Uh v j a6 k a=some r) (y:Arr l a4 9 (v.map Stm.cells)) (N:Arr l a5 1 (k.map Ar)) (C:CellsAt l a3 [d5,a4,d6,.int .i64 j,.int .i64 a6,a5,d8,d7] 0) (M:Nat→Prop) (w:Aj) (n:Base M l w) (c8:Own M w [] w):Calls Tryz.prog 156 #[.pointer (some a3),.int .i64 a] w (fun e w'=>∃ X:Ak×Aj,e=.returned (X.1)∧Own M w (kn M w.heap.size l X.2::[]) w'∧Arr X.2 X.1 2 (r.map Use.cells)):=by
 unfold Uh at A;refine cw 57 Tryz.func156 Z (sr (wa Z (ns (wa Z (nt (Ax (sr (wm Z (wq Z (QV.nilCheck Z Z) (wf Yl Z (wf Dj Z (wl J1 Z (co 1 (A1 0 Z n C) Z) (wq Z (A5 Tryz.underlying45 Z Z y.lenMap) (wm Z (nt (Gk (fun w F=>F.vecNil (E:=263) (sz:=2) (enc:=Use.cells)) ?_)))))))))))))))) (Aw n c8);obtain⟨a1,b8,d3,c5⟩:=bl A;refine K1 (dt [0,1,14,15] [] Z) (fun (i:List Use) (c:Int) (g:Ak) (p:Aj)=>[(5,(true,g)),(16,(true,i_ c))]) (fun i c g p=>[vec g 263 2 (List.map Use.cells i),kn M w.heap.size l p]) (fun i c g p m=>Cp (P7 v j k a) m (i,c)=some a1∧SliceLen g i.length∧Le l p) (fun i c g p=>a1=.go (i,c)∧SliceLen g i.length∧Le l p) [] 0 (.slice none 0 0) l d3 ⟨c5,Hg,(Jy _)⟩ (sb Z) (pk [0,1]) ?_ ?_
 ·skip
  rintro i c g p ⟨rfl,z,o⟩;refine Al (sr (wm Z (wa Z (nt (Bc ?_)))));obtain rfl:=(Ad b8).symm;refine kp [1,0] Z (Gc n (fun d0 e2 c6=>have b4:=Cn c6;Az Z Z (fun w F=>?_)));exact⟨(g,d0),Z,F.pick [0] Ai,b4⟩
 rintro i c g p e4 ⟨L,z,o⟩;obtain⟨d1,e8,rfl,t,U⟩:=A2 L;unfold P7 at t;simp only at t;refine sr (wq Z (QV.lss Z Z Z Z) (nt (Ax ?_)));refine wc Z t (fun b1 O=>?_) (fun b1 c3=>?_)
 ·skip
  refine sk (Al (Ax (Cr (sr (wm Z ?_)))));obtain⟨G,P⟩:=cs O;obtain⟨e5,V⟩:=(y.le o).lenMap.ix (sz:=9) Ap G;refine wq Z (Ae Wq Z Z Z Z V) (wq Z (Af N5 Z Z Z (el (Ah 1 Z n (y.le o)) V G)) (Ab Z ((Ci Ai S8 (fun d9=>wa Z (Ab Z ((ew 0 (Stm.cells (ele v c)) S9 Z (ns (wq Z (Af N5 Z Z Z (Ac 0 Z)) (Ab Z ?_)))))))))));obtain⟨f,c9,Q⟩:=An P;refine(cr [2,0,1] n Aqb Z (L4 c9) Z (fun a7 x q=>wq Z (A5 Tryz.underlying83 Z Z x.lenMap) (wm Z (nt ?_))));obtain⟨a2,b5,d2,c4⟩:=bl Q;refine F9 (dt [0,1,6,14,15,16,22,23] [0,1] Z) (fun (d:List Use) (b:Int) (h:Ak)=>[(5,(true,h)),(24,(true,i_ b))]) (fun d b h=>[vec h 263 2 (List.map Use.cells d)]) (fun d b h m=>Cp (Oe j k a c f) m (d,b)=some a2∧SliceLen h d.length) (fun d b h=>a2=.go (d,b)∧SliceLen h d.length) i 0 g d2 ⟨c4,z⟩ (sb Z) (pk [2,0,1]) ?_ ?_
  ·skip
   rintro d b h ⟨rfl,s⟩;refine Bd (Al (Bo (have ⟨a8,b6⟩:=cs b5;wq Z (A6 Z Z Z Z a8) (wm Z (Bm ?_)))));exact Gh d (c+1) h a7.2 d1 ⟨A4 b6 U,s,(o.trans q)⟩ (Ck _) (sb Z) (pk [0,1])
  rintro d b h e3 ⟨K,s⟩;obtain⟨a0,e9,rfl,u,B⟩:=A2 K;unfold Oe at u;simp only at u;refine sr (wq Z (QV.lss Z Z Z Z) (nt (Ax ?_)));refine wc Z u (fun b2 b7=>?_) (fun b2 c2=>?_)
  ·skip
   refine sk (Al (Ax (Cr (sr (have ⟨H,R⟩:=cs b7;have ⟨e6,W⟩:=x.lenMap.ix (sz:=2) Ap H;wq Z (Ae Auj Z Z Z Z W) (wq Z (Af N6 Z Z Z (el (Ah 1 Z n x) W H)) (Ab Z ((Ci Ai Ake (fun e0=>Ab Z ((ew 0 [i_ ((ele f b).st),i_ ((ele f b).bk)] Zw Z (ns (wf R6 Z (wl pl3 Z (Aq 0 Z Z) (wm Z (wq Z (QV.eql Z Z Z Z) (nt ?_))))))))))))))))));refine wc Z R (fun b3 S=>?_) (fun b3 c0=>?_)
   ·skip
    refine dp 23 [2,0,3] Z (zm 0 Z Z (zm 1 Z Z (wz 2 Z Z (QV.nilCheck Z Z) (zf 3 Yk Z Z (zl 4 Fg Z Z (co 5 (A1 0 Z n (C.le (o.trans q))) Z) (zm 5 Z Z ?_))))));obtain⟨I,T⟩:=cs S;obtain⟨e7,Y⟩:=(N.le (o.trans q)).lenMap.ix (sz:=1) Ap I;refine wz 6 Z Z (Ae Fy Z Z Z Z Y) (zl 7 pl3 Z Z (cl 0 (Ah 0 Z n (N.le (o.trans q))) Y I Z) (zf 8 Qw Z Z (zl 9 pl3 Z Z (Aq 1 Z Z) (zm 10 Z Z (wz 11 Z Z (QV.nilCheck Z Z) (zf 12 Ae6 Z Z (zl 13 pl3 Z Z (co 3 (A1 0 Z n (C.le (o.trans q))) Z) ?_)))))));obtain⟨c51,c53,J,a9,b9⟩:=cs4 T;refine wz 14 Z Z (QV.mul Z Z Z Z c51) (wz 15 Z Z (A6 Z Z Z Z c53) (zf 16 Qw Z Z (zl 17 pl3 Z Z (Aq 1 Z Z) (wz 18 Z Z (QV.gtr Z Z Z Z) (wz 19 Z Z (QV.build (ps:=[(0,.tmp 47),(1,.tmp 50)]) (cells:=[i_ ((ele k c)+((ele f b).bk * j)),.bool (Ao ((ele f b).bk>0))]) (ea Z) Ag) (Dd 20 Z Ag Z ((D4 Ai A44 Ai Ai (ps:=[(0,.tmp 51)]) (cells:=[i_ ((ele k c)+((ele f b).bk * j)),.bool (Ao ((ele f b).bk>0))]) (ea Z) Ag (fun e1=>bp [3,0,1,4] Z (pk [0,2,3]) (Dd 21 Z Ag Z ((B0 (enc:=Use.cells) (xs:=d) (ys:=[(Use.mk ((ele k c)+((ele f b).bk * j)) (Ao ((ele f b).bk>0)))]) ((d++[(Use.mk ((ele k c)+((ele f b).bk * j)) (Ao ((ele f b).bk>0)))])) 2 Ai ve239 Z Z Z Z Z (Bi 0 (rows:=[(Use.mk ((ele k c)+((ele f b).bk * j)) (Ao ((ele f b).bk>0)))].map Use.cells) Z Z (B3 Use.cells_len)) Use.cells_len (Use.cells_one _) Z J.1 J.2 (fun d4 c7=>bp [3,0,1,2,4] Z (pk [0,1,2,4]) (wz 22 Z Z (QV.assign Z Z) (Em Ag (Bd (Al (Bo (wq Z (A6 Z Z Z Z a9) (wm Z (Bm ?_)))))))))))))))))))));exact Ed (d++[(Use.mk ((ele k c)+((ele f b).bk * j)) (Ao ((ele f b).bk>0)))]) (b+1) d4 a0 ⟨A4 b9 B,c7⟩ (Ck _) (sb Z) (pk [2,3,4])
   refine sk (Bd (Al (Bo (have ⟨b0,c1⟩:=cs c0;wq Z (A6 Z Z Z Z b0) (wm Z (Bm ?_))))));exact Ed d (b+1) h a0 ⟨A4 c1 B,s⟩ (Ck _) (sb Z) (pk [1,2,3])
  refine C1 (te (te (Am ?_)));exact J2 d b h ⟨Bh c2 B,s⟩ (sb Z) (pk [0,1,2])
 refine C1 (te (te (Am ?_)));exact N2 i c g p ⟨Bh c3 U,z,o⟩ (sb Z) (pk [0,1])
theorem A0u {L:Addr}{a7 a6 N a9 O a8 M:Ak}{P:List Int}{t Q:Int}{u:List Int}{a s j:Int}{k:List Use}{r:Bool} (w:Aj) (n:Xt P t Q u a s j k=some r) (U:Arr w N 1 (P.map Ar)) (f:Arr w O 1 (u.map Ar)) (g:CellsAt w L [a7,a6,N,.int .i64 t,.int .i64 Q,a9,O,a8] 0) (l:Arr w M 2 (k.map Use.cells)):Calls Tryz.prog 157 #[.pointer (some L),.int .i64 a,.int .i64 s,.int .i64 j,M] w (fun e w'=>e=.returned (.bool r)∧Grow w w'):=by
 unfold Xt at n;refine have d:=D2 (w:=w);cw 86 Tryz.func157 Z (sr (wa Z (nt (Ax (dq 15 (zm 0 Z Z (wz 1 Z Z (QV.nilCheck Z Z) (zf 2 Vh Z Z (zl 3 Fg Z Z (co 6 (A1 0 Z d g) Z) (zm 4 Z Z ?_)))))))))) (Aw d (D3 w));obtain⟨c1,V⟩:=cs n;obtain⟨b3,J⟩:=f.lenMap.ix (sz:=1) Ap c1;refine wz 5 Z Z (Ae Fy Z Z Z Z J) (zl 6 pl3 Z Z (cl 0 (Ah 0 Z d f) J c1 Z) (zm 7 Z Z (zm 8 Z Z (wz 9 Z Z (QV.nilCheck Z Z) (zf 10 Ae6 Z Z (zl 11 pl3 Z Z (co 3 (A1 0 Z d g) Z) (have ⟨c5,c7,F⟩:=cs2 V;wz 12 Z Z (QV.mul Z Z Z Z c5) (wz 13 Z Z (A6 Z Z Z Z c7) (wz 14 Z Z (QV.assign Z Z) (Em Ag (Al (Ax (sr (wm Z (wq Z (A5 Tryz.underlying239 Z Z l.lenMap) (wm Z (nt ?_)))))))))))))))));obtain⟨K,o,a5,a2⟩:=bl F;refine Dq (dt [0,1,3,11,28,29] [0] Z) (fun (c:Int)=>[(30,(true,i_ c))]) (fun c=>[]) (fun c m=>Cp (Oo t u a s j k) m c=some K) (fun c=>K=.go c) 0 a5 a2 (sb Z) (pk [0]) ?_ ?_
 ·skip
  rintro c rfl;refine Al (sr (wm Z (wq Z (QV.leq Z Z Z Z) (wm Z (gP Z (QV.move Z Z) (gP Z (QV.move Z Z) (gp Z (fun b=>QV.nilCheck Z b) (gp Z (fun b=>QV.fieldAddr Vh Z b) (gp Z (fun b=>Cm Fg Z b (co 6 (A1 0 Z d g) Z)) (gP Z (QV.move Z Z) ?_))))))))));obtain⟨v,A⟩:=cs o;obtain⟨b2,G⟩:=f.lenMap.ixG (sz:=1) Ap v;refine gp Z (fun b=>Ae Fy Z b Z b (G b)) (gp Z (fun b=>Cm pl3 Z b (cl 0 (Ah 0 Z d f) (G b) (v b) Z)) (gp Z (fun b=>QV.geq Z b Z b) (wq Z (A8 Z Z Z (fun h=>h)) (wm Z (gP Z (QV.move Z Z) (gp Z (fun b=>QV.nilCheck Z b) (gp Z (fun b=>QV.fieldAddr Yl Z b) (gp Z (fun b=>QV.fieldAddr Xi Z b) (gp Z (fun b=>Cm Fg Z b (co 2 (A1 0 Z d g) Z)) (gP Z (QV.move Z Z) ?_))))))))));obtain⟨b7,a3,W⟩:=C5 A;refine gp Z (fun b=>QV.call en173 (C3 Z b (C3 Z b eN)) (fun w i=>have h:=Aau w (a3 b) ((Ah 0 Z d U) w i);h)) ?_;refine wq Z (A8 Z Z Z (fun h=>h)) (wa Z (nt (Bc ?_)));obtain rfl:=(Ad W).symm;exact Az Z Z fun w i=>kg i
 rintro c b1 z;obtain⟨a4,b6,rfl,p,q⟩:=A2 z;unfold Oo at p;refine sr (wq Z (QV.lss Z Z Z Z) (nt (Ax ?_)));refine wc Z p (fun S B=>?_) (fun S a1=>?_)
 ·skip
  refine sk (Al (Ax (Cr (sr ?_))));obtain⟨x,C⟩:=cs B;obtain⟨b4,H⟩:=l.lenMap.ix (sz:=2) Ap x;refine wq Z (Ae sl239 Z Z Z Z H) (wq Z (Af ag263 Z Z Z (el (Ah 0 Z d l) H x)) (Ab Z ((Ci Ai ze263 (fun b0=>Ab Z ((ew 0 [i_ ((ele k c).til),.bool ((ele k c).later)] sz263 Z (ns (wm Z (wm Z (wq Z (QV.nilCheck Z Z) (wf Vh Z (wl Fg Z (co 6 (A1 1 Z d g) Z) (wm Z ?_))))))))))))));obtain⟨y,E⟩:=cs C;obtain⟨b5,I⟩:=f.lenMap.ix (sz:=1) Ap y;refine wq Z (Ae Fy Z Z Z Z I) (wl pl3 Z (cl 0 (Ah 1 Z d f) I y Z) (wq Z (QV.geq Z Z Z Z) (wm Z (gP Z (QV.move Z Z) (gP Z (QV.fieldAddr Att Z Z) (gp Z (fun b=>Cm pl3 Z b (Aq 0 Z Z)) (gp Z (fun b=>QV.leq Z b Z b) (wq Z (A8 Z Z Z (fun h=>h)) (wm Z (gN Z (QV.fieldAddr A2q Z Z) (gn Z (fun b=>Cm pl4 Z b (Aq 0 Z Z)) (gn Z (fun b=>QV.move Z b) (gpC Z (fun b=>QV.move Z Z) (gpC Z (fun b=>QV.gtr Z b Z Z) (gn Z (fun b=>A8 Z b Z (fun h=>Aw1 b h)) (gn Z (fun b=>QV.move Z b) (gpC Z (fun b=>QV.move Z Z) (gpC Z (fun b=>QV.fieldAddr Att Z Z) (gpC Z (fun b=>Cm pl3 Z b (Aq 0 Z Z)) (gpC Z (fun b=>QV.leq Z b Z b) (gn Z (fun b=>A8 Z b Z (fun h=>Aw1 b h)) (wq Z (Be Z Z Z (fun h=>Fx h)) (nt ?_)))))))))))))))))))))));refine wc Z E (fun T X=>?_) (fun T Y=>?_)
  ·skip
   refine sr (wa Z (nt (Bc (kr (tr (tr (kr (tr (tr ?_)))))))));obtain rfl:=Dn X q;obtain rfl:=(Ad o).symm;exact Az Z Z fun w i=>kg i
  refine sk (Bd (Al (Bo (have ⟨R,a0⟩:=cs Y;wq Z (A6 Z Z Z Z R) (wm Z (Bm ?_))))));exact Dp (c+1) a4 (A4 a0 q) (Ck _) (sb Z) (pk [1])
 refine C1 (te (te (Am ?_)));exact El c (Bh a1 q) (sb Z) (pk [0])
theorem Aar {J:Addr}{c0 K L O N M:Ak}{P:List Stm}{t:List Int}{n g:Int}{Q u o:List Int}{a l:Int}{r:Bool} (w:Aj) (p:Lz P t n g Q u o a l=some r) (a7:Arr w K 9 (P.map Stm.cells)) (a8:Arr w L 1 (t.map Ar)) (b0:Arr w O 1 (Q.map Ar)) (a9:Arr w N 1 (u.map Ar)) (k:Arr w M 1 (o.map Ar)) (d:CellsAt w J [c0,K,L,.int .i64 n,.int .i64 g,O,N,M] 0):Calls Tryz.prog 119 #[.pointer (some J),.int .i64 a,.int .i64 l] w (fun e w'=>e=.returned (.bool r)∧Grow w w'):=by
 unfold Lz at p;refine have b:=D2 (w:=w);cw 88 Tryz.func119 Z (sr (wa Z (ns (wm Z (wm Z (Ab Z ?_)))))) (Aw b (D3 w));obtain⟨c1,b6,z⟩:=An p;refine(cq b en156 Z (Awm b6 a7 b0 d) Z (fun c2 a6 c=>wa Z (nt (Ax (dq 31 (zm 0 Z Z (wz 1 Z Z (QV.nilCheck Z Z) (zf 2 Mj Z Z (zl 3 Fg Z Z (co 7 (A1 0 Z b (d.le c)) Z) (zm 4 Z Z ?_))))))))));obtain⟨c5,F⟩:=cs z;obtain⟨c6,H⟩:=(k.le c).lenMap.ix (sz:=1) Ap c5;refine wz 5 Z Z (Ae Fy Z Z Z Z H) (zl 6 pl3 Z Z (cl 0 (Ah 0 Z b (k.le c)) H c5 Z) (zm 7 Z Z (wz 8 Z Z (QV.nilCheck Z Z) (zf 9 Mj Z Z (zl 10 Fg Z Z (co 7 (A1 0 Z b (d.le c)) Z) (zm 11 Z Z ?_))))));obtain⟨c9,x⟩:=cs F;obtain⟨c4,G⟩:=(k.le c).lenMap.ix (sz:=1) Ap c9;refine wz 12 Z Z (Ae Fy Z Z Z Z G) (zl 13 pl3 Z Z (cl 0 (Ah 0 Z b (k.le c)) G c9 Z) ?_);obtain⟨R,S,T,U,c21,V,W,X,y⟩:=cs8 x;refine wz 14 Z Z (Du Z Z Z Z R) (zm 15 Z Z (wz 16 Z Z (QV.nilCheck Z Z) (zf 17 O6 Z Z (zl 18 pl3 Z Z (co 4 (A1 0 Z b (d.le c)) Z) (wz 19 Z Z (QV.rem Z Z Z Z S) (zm 20 Z Z (wz 21 Z Z (QV.nilCheck Z Z) (zf 22 O6 Z Z (zl 23 pl3 Z Z (co 4 (A1 0 Z b (d.le c)) Z) (wz 24 Z Z (A6 Z Z Z Z T) (zm 25 Z Z (wz 26 Z Z (QV.nilCheck Z Z) (zf 27 O6 Z Z (zl 28 pl3 Z Z (co 4 (A1 0 Z b (d.le c)) Z) (wz 29 Z Z (QV.rem Z Z Z Z U) (wz 30 Z Z (QV.assign Z Z) (Em Ag (Al (sr (wm Z (wq Z (QV.nilCheck Z Z) (wf Ae6 Z (wl pl3 Z (co 3 (A1 0 Z b (d.le c)) Z) (wq Z (QV.quo Z Z Z Z c21 V) (wq Z (A6 Z Z Z Z W) (wa Z (nt (Ax (Ax (dq 15 (zm 0 Z Z (zm 1 Z Z ?_))))))))))))))))))))))))))))))));refine zm 2 Z Z (wz 3 Z Z (QV.nilCheck Z Z) (zf 4 O6 Z Z (zl 5 pl3 Z Z (co 4 (A1 0 Z b (d.le c)) Z) ?_)));obtain⟨Y,a0,a1,a2,A⟩:=cs4 y;refine wz 6 Z Z (QV.quo Z Z Z Z X Y) (wz 7 Z Z (A6 Z Z Z Z a0) (zm 8 Z Z (wz 9 Z Z (QV.nilCheck Z Z) (zf 10 O6 Z Z (zl 11 pl3 Z Z (co 4 (A1 0 Z b (d.le c)) Z) (wz 12 Z Z (QV.mul Z Z Z Z a1) (wz 13 Z Z (Du Z Z Z Z a2) (wz 14 Z Z (QV.assign Z Z) (Em Ag (Al ?_))))))))));obtain⟨I,B,b9,b5⟩:=bl A;refine Dq (dt [0,1,2,7,9] [0] Z) (fun (f:Int)=>[(10,(true,i_ f))]) (fun f=>[]) (fun f m=>Cp (Ox t n g u a l c1) m f=some I) (fun f=>I=.go f) ((Int.tmod ((Int.tmod ((ele o a) - (ele o l)) g)+g) g) - (((Int.tdiv ((Int.tdiv 4000 n)+1) g)+2) * g)) b9 b5 (sb Z) (pk [0]) ?_ ?_
 ·skip
  rintro f rfl;refine Al (sr (wa Z (nt (Bc ?_))));obtain rfl:=(Ad B).symm;exact Az Z Z fun w j=>kg j
 rintro f c3 v;obtain⟨b8,c7,rfl,q,s⟩:=A2 v;unfold Ox at q;refine Ax (sr (wm Z (wm Z (wq Z (QV.leq Z Z Z Z) (nt ?_)))));refine wc Z q (fun a4 C=>?_) (fun a4 b4=>?_)
 ·skip
  refine sk (Al (Ax (Cr (sr (wm Z (wm Z (wq Z (QV.neq Z Z Z Z) (wm Z (gN Z (QV.move Z Z) (gn Z (fun i=>QV.neq Z i Z Z) (wq Z (Be Z Z Z (fun h=>Fx h)) (wm Z (gP Z (QV.move Z Z) (gP Z (QV.move Z Z) (gP Z (QV.move Z Z) (gP Z (QV.move Z Z) (gP Z (QV.move Z Z) ?_)))))))))))))))));obtain⟨c8,b7,E⟩:=C5 C;refine gp Z (fun i=>QV.call en157 (C3 Z i (C3 Z i (C3 Z i (C3 Z i (C3 Z i eN))))) (fun w j=>have h:=A0u w (b7 i) ((Ah 0 Z b (a8.le c)) w j) ((Ah 0 Z b (a9.le c)) w j) (A1 0 Z b (d.le c) w j) ((Ah 0 Z b a6) w j);h)) ?_;refine wq Z (A8 Z Z Z (fun h=>h)) (nt ?_);refine wc Z E (fun a5 b1=>?_) (fun a5 b2=>?_)
  ·skip
   refine sr (wa Z (nt (Bc (kr (tr (tr (kr (tr (tr ?_)))))))));obtain rfl:=Dn b1 s;obtain rfl:=(Ad B).symm;exact Az Z Z fun w j=>kg j
  refine sk (Bd (Al (Bo (wm Z (wm Z (wq Z (QV.nilCheck Z Z) (wf O6 Z (wl pl3 Z (co 4 (A1 0 Z b (d.le c)) Z) (have ⟨a3,b3⟩:=cs b2;wq Z (A6 Z Z Z Z a3) (wa Z (Bm ?_)))))))))));exact Dp (f+g) b8 (A4 b3 s) (Ck _) (sb Z) (pk [0])
 refine C1 (te (te (Am ?_)));exact El f (Bh b4 s) (sb Z) (pk [0])
theorem Aeq {Q:Addr}{T S U c6 c5 V R:Ak}{x:List Int}{v:List Stm}{y:List Int}{W c:Int}{j l:List Int}{r:Bool} (w:Aj) (s:L9 x v y W c j l=some r) (a9:Arr w T 1 (x.map Ar)) (a8:Arr w S 9 (v.map Stm.cells)) (b0:Arr w U 1 (y.map Ar)) (C:Arr w V 1 (j.map Ar)) (n:CellsAt w Q [T,S,U,.int .i64 W,.int .i64 c,c6,c5,V] 0) (q:Arr w R 1 (l.map Ar)):Calls Tryz.prog 120 #[.pointer (some Q),R] w (fun e w'=>e=.returned (.bool r)∧Grow w w'):=by
 unfold L9 at s;refine have d:=D2 (w:=w);cw 58 Tryz.func120 Z (sr (wa Z (ns (Ab Z ((Ang (ke:=kI) (ve:=bv) Ai (fun b1=>wa Z (nt (Ax (sr (wm Z (wq Z (A5 Tryz.underlying34 Z Z q.lenMap) (wm Z (nt ?_)))))))))))))) (Aw d (D3 w));obtain⟨O,K,c4,b9⟩:=bl s;refine Cj (dt [0,5,11,12] [1] Z) (fun (g:List (Int×Bool)) (a:Int)=>[(13,(true,i_ a))]) (fun g a=>[Wn b1 kI bv g]) (fun g a m=>Cp (Mx x v y c j l) m (g,a)=some O) (fun g a=>O=.go (g,a)) ([]:List (Int×Bool)) 0 c4 b9 (sb Z) (pk [0,1]) ?_ ?_
 ·skip
  rintro g a rfl;refine Al (sr (wa Z (nt (Bc ?_))));obtain rfl:=(Ad K).symm;exact Az Z Z fun w i=>kg i
 rintro g a c9 B;obtain⟨c2,d2,rfl,o,t⟩:=A2 B;unfold Mx at o;simp only at o;refine sr (wq Z (QV.lss Z Z Z Z) (nt (Ax ?_)));refine wc Z o (fun a5 E=>?_) (fun a5 b7=>?_)
 ·skip
  refine sk (Al (Ax (Cr (sr ?_))));obtain⟨z,F⟩:=cs E;obtain⟨d0,M⟩:=q.lenMap.ix (sz:=1) Ap z;refine wq Z (Ae Fy Z Z Z Z M) (wl pl3 Z (cl 0 (Ah 1 Z d q) M z Z) (wa Z (ns (wm Z (wq Z (QV.nilCheck Z Z) (wf Yl Z (wq Z (Af Fz Z Z Z (fun w i=>CellsAt.sub 0 3 ((A1 1 Z d n) w i) Z)) (wm Z ?_))))))));obtain⟨c7,c0,G⟩:=An F;refine wq Z (QV.call en75 (ea Z) (fun w i=>have h:=Aht w c0 ((Ah 1 Z d a9) w i) ((Ah 1 Z d a8) w i) ((Ah 1 Z d b0) w i);h)) ?_;refine wm Z (nt ?_);obtain⟨P,H,c3,b8⟩:=bl G;refine Cj (dt [0,5,7,11,12,13,22] [1] Z) (fun (f:List (Int×Bool)) (b:Int)=>[(23,(true,i_ b))]) (fun f b=>[Wn b1 kI bv f]) (fun f b m=>Cp (Jm c j l a c7) m (f,b)=some P) (fun f b=>P=.go (f,b)) g 0 c3 b8 (sb Z) (pk [0,1]) ?_ ?_
  ·skip
   rintro f b rfl;refine Bd (Al (Bo (have ⟨X,b2⟩:=cs H;wq Z (A6 Z Z Z Z X) (wm Z (Bm ?_)))));exact B1 f (a+1) c2 (A4 b2 t) (Ck _) (sb Z) (pk [0,1])
  rintro f b c8 A;obtain⟨c1,d3,rfl,p,u⟩:=A2 A;unfold Jm at p;simp only at p;refine sr (wq Z (QV.lss Z Z Z Z) (nt (Ax ?_)));refine wc Z p (fun a6 I=>?_) (fun a6 b6=>?_)
  ·skip
   refine sk (Al (Ax (Cr (sr (wm Z (wa Z (nt (Ax (dp 26 [1,0] Z (zm 0 Z Z (wz 1 Z Z (QV.nilCheck Z Z) (zf 2 Mj Z Z (zl 3 Fg Z Z (co 7 (A1 0 Z d n) Z) (zm 4 Z Z ?_))))))))))))));obtain⟨c37,J⟩:=cs I;obtain⟨d1,N⟩:=C.lenMap.ix (sz:=1) Ap c37;refine wz 5 Z Z (Ae Fy Z Z Z Z N) (zl 6 pl3 Z Z (cl 0 (Ah 0 Z d C) N c37 Z) (zm 7 Z Z ?_));obtain⟨Y,a0,a1,a2,a3,L⟩:=cs5 J;refine wz 8 Z Z (Du Z Z Z Z Y) (wz 9 Z Z (Du Z Z Z Z a0) (zm 10 Z Z (wz 11 Z Z (QV.nilCheck Z Z) (zf 12 O6 Z Z (zl 13 pl3 Z Z (co 4 (A1 0 Z d n) Z) (wz 14 Z Z (QV.rem Z Z Z Z a1) (zm 15 Z Z (wz 16 Z Z (QV.nilCheck Z Z) (zf 17 O6 Z Z (zl 18 pl3 Z Z (co 4 (A1 0 Z d n) Z) (wz 19 Z Z (A6 Z Z Z Z a2) (zm 20 Z Z (wz 21 Z Z (QV.nilCheck Z Z) (zf 22 O6 Z Z (zl 23 pl3 Z Z (co 4 (A1 0 Z d n) Z) (wz 24 Z Z (QV.rem Z Z Z Z a3) (wz 25 Z Z (QV.assign Z Z) (Em Ag (Al (Ax (sr (wm Z (wm Z (wq Z (QV.lookup (k:=(Int.tmod ((Int.tmod (((ele j (ele l a)) - b) - 1) c)+c) c)) 0 Ay Asw kt3 A3j Z Z Z Z Z) (nt ?_)))))))))))))))))))))))));refine wc Z L (fun a7 b3=>?_) (fun a7 b4=>?_)
   ·skip
    refine sr (wa Z (nt (Bc (tr (kr (tr (tr (kr (tr (kr (tr (tr (kr (tr (tr ?_)))))))))))))));obtain rfl:=Dn b3 u;obtain rfl:=Dn H t;obtain rfl:=(Ad K).symm;exact Az Z Z fun w i=>kg i
   refine sk (Al (Bo (wm Z (wm Z (Ab Z ((EV.mapUpdate (ke:=kI) (ve:=bv) (Int.tmod ((Int.tmod (((ele j (ele l a)) - b) - 1) c)+c) c) 0 true Asw kt3 Z Z Z Z Z Z Z (Bm (Bd (Al (Bo (have ⟨a4,b5⟩:=cs b4;wq Z (A6 Z Z Z Z a4) (wm Z (Bm ?_))))))))))))));exact B1 (N4 f (Int.tmod ((Int.tmod (((ele j (ele l a)) - b) - 1) c)+c) c) true) (b+1) c1 (A4 b5 u) (Ck _) (sb Z) (pk [0,1])
  refine C1 (te (te (Am ?_)));exact Ct f b (Bh b6 u) (sb Z) (pk [0,1])
 refine C1 (te (te (Am ?_)));exact Ct g a (Bh b7 t) (sb Z) (pk [0,1])
end Go.Proofs.YtaimbkndebaaiaaGreatDoor
end
section
namespace Go.Proofs.YtaimbkndebaaiaaGreatDoor
open Go.Rd
open TLib TLibR TLibA TSay TNum0 TNum TLoop TPar TStable TMach TMach2 TKern TClone TNbr TSeq TKRun TKeep
namespace TOrd
theorem A4f:Go.Rd.Enters Tryz.prog 108:=eT Tryz.func108
theorem en62:Go.Rd.Enters Tryz.prog 62:=eT Tryz.func62
theorem A04:Go.Rd.Enters Tryz.prog 63:=eT Tryz.func63
theorem Xf:B8 Tryz.prog 87 0 0:=fT 0 Tryz.underlying87
theorem Aaf:B8 Tryz.prog 87 1 1:=fT 0 Tryz.underlying87
theorem Ac6:B8 Tryz.prog 87 2 2:=fT 0 Tryz.underlying87
theorem Ac5:B8 Tryz.prog 87 3 3:=fT 0 Tryz.underlying87
end TOrd
open TOrd
theorem Um {x:Int}{r:Bool} (w:Aj) (a:J8 x=some r) :Calls Tryz.prog 108 #[.int .i64 x] w (fun e w'=>e=.returned (.bool r)∧Grow w w'):=by
 unfold J8 at a;refine have b:=D2 (w:=w);cw 6 Tryz.func108 Z (sr (wa Z (ns (wm Z (wm Z (wq Z (QV.neq Z Z Z Z) (wa Z (nt (Bc ?_))))))))) (Aw b (D3 w));obtain rfl:=(Ad a).symm;exact Az Z Z fun w c=>kg c
theorem Kp {x y r:Int} (w:Aj) (b:Et x y=some r) :Calls Tryz.prog 63 #[.int .i64 x,.int .i64 y] w (fun e w'=>e=.returned (.int .i64 r)∧Grow w w'):=by
 unfold Et at b;refine have p:=D2 (w:=w);cw 20 Tryz.func63 Z (sr (wa Z (ns (wm Z ?_)))) (Aw p (D3 w));obtain⟨C,A,g⟩:=An b;refine wq Z (QV.call A4f (ea Z) (fun w a=>have h:=Um w A ;h)) ?_;refine wa Z (ns (wm Z ?_));obtain⟨E,B,i⟩:=An g;refine wq Z (QV.call A4f (ea Z) (fun w a=>have h:=Um w B ;h)) ?_;refine wa Z (nt (Ax (sr (wm Z (nt ?_)))));refine wc Z i (fun n j=>?_) (fun n c=>?_)
 ·skip
  refine Ax (sr (wm Z (nt ?_)));refine wc Z j (fun o q=>?_) (fun o s=>?_)
  ·skip
   refine sr (wa Z (nt (Bc (tr (tr ?_)))));obtain rfl:=(Ad q).symm;exact Az Z Z fun w a=>kg a
  refine sk (Al (sr (wa Z (nt (Bc (tr ?_))))));obtain rfl:=(Ad s).symm;exact Az Z Z fun w a=>kg a
 refine sk (Al (Ax (sr (wm Z (nt ?_)))));refine wc Z c (fun k t=>?_) (fun k d=>?_)
 ·skip
  refine sr (wa Z (nt (Bc (tr ?_))));obtain rfl:=(Ad t).symm;exact Az Z Z fun w a=>kg a
 refine sk (Al (Ax (sr (wm Z (wm Z (wq Z (QV.lss Z Z Z Z) (nt ?_)))))));refine wc Z d (fun l u=>?_) (fun l f=>?_)
 ·skip
  refine sr (wa Z (nt (Bc (tr ?_))));obtain rfl:=(Ad u).symm;exact Az Z Z fun w a=>kg a
 refine sk (Al (Ax (sr (wm Z (wm Z (wq Z (QV.gtr Z Z Z Z) (nt ?_)))))));refine wc Z f (fun m v=>?_) (fun m z=>?_)
 ·skip
  refine sr (wa Z (nt (Bc (tr ?_))));obtain rfl:=(Ad v).symm;exact Az Z Z fun w a=>kg a
 refine sk (Al (sr (wa Z (nt (Bc ?_)))));obtain rfl:=(Ad z).symm;exact Az Z Z fun w a=>kg a
theorem Aij {s:Ak}{h:List Int}{r:Int} (w:Aj) (c:Ny h=some r) (b:Arr w s 1 (h.map Ar)):Calls Tryz.prog 62 #[s] w (fun e w'=>e=.returned (.int .i64 r)∧Grow w w'):=by
 unfold Ny at c;refine have k:=D2 (w:=w);cw 18 Tryz.func62 Z (sr (wa Z (ns (wa Z (nt (Ax (sr (wm Z (wq Z (A5 Tryz.underlying34 Z Z b.lenMap) (wm Z (nt ?_))))))))))) (Aw k (D3 w));obtain⟨q,o,C,A⟩:=bl c;refine Dq (dt [3,6,7] [0] Z) (fun (a:Int)=>[(8,(true,i_ a))]) (fun a=>[]) (fun a m=>Cp (Es h) m a=some q) (fun a=>q=.go a) 0 C A (sb Z) (pk [0]) ?_ ?_
 ·skip
  rintro a rfl;refine Al (sr (wm Z (wa Z (nt (Bc ?_)))));obtain rfl:=(Ad o).symm;exact Az Z Z fun w g=>kg g
 rintro a E j;obtain⟨B,G,rfl,d,f⟩:=A2 j;unfold Es at d;refine sr (wq Z (QV.lss Z Z Z Z) (nt (Ax ?_)));refine wc Z d (fun t l=>?_) (fun t z=>?_)
 ·skip
  refine sk (Al (Ax (Cr (sr ?_))));obtain⟨i,n⟩:=cs l;obtain⟨F,p⟩:=b.lenMap.ix (sz:=1) Ap i;refine wq Z (Ae Fy Z Z Z Z p) (wl pl3 Z (cl 0 (Ah 0 Z k b) p i Z) (wa Z (ns (wm Z (wm Z (wq Z (QV.neq Z Z Z Z) (nt ?_)))))));refine wc Z n (fun u v=>?_) (fun u x=>?_)
  ·skip
   refine sr (wm Z (wa Z (nt (Bc (kr (tr (tr (kr (tr (tr ?_))))))))));obtain rfl:=Dn v f;obtain rfl:=(Ad o).symm;exact Az Z Z fun w g=>kg g
  refine sk (Bd (Al (Bo (have ⟨c21,y⟩:=cs x;wq Z (A6 Z Z Z Z c21) (wm Z (Bm ?_))))));exact Dp (a+1) B (A4 y f) (Ck _) (sb Z) (pk [0])
 refine C1 (te (te (Am ?_)));exact El a (Bh z f) (sb Z) (pk [0])
theorem Apu {a b:Edg}{r:Int} (w:Aj) (d:S3 a b=some r) :Calls Tryz.prog 32 #[.agg #[.int .i64 a.fr,.int .i64 a.tO,.int .i64 a.bk,.int .i64 a.wt],.agg #[.int .i64 b.fr,.int .i64 b.tO,.int .i64 b.bk,.int .i64 b.wt]] w (fun e w'=>e=.returned (.int .i64 r)∧Grow w w'):=by
 unfold S3 at d;refine have o:=D2 (w:=w);cw 27 Tryz.func32 Z (sr (Ab Z ((A3 Ai Z Z (fun b1=>Ab Z ((A3 Ai Z Z (fun b2=>wa Z (nt (Ax (dp 23 [2,0,1] Z (zf 0 Xf Z Z (zl 1 pl3 Z Z (Aq 2 Z Z) (zf 2 Xf Z Z (zl 3 pl3 Z Z (Aq 1 Z Z) ?_))))))))))))))) (Aw o (D3 w));obtain⟨l,u,i⟩:=An d;refine wz 4 Z Z (QV.call A04 (ea Z) (fun w c=>have h:=Kp w u ;h)) ?_;refine zf 5 Aaf Z Z (zl 6 pl3 Z Z (Aq 2 Z Z) (zf 7 Aaf Z Z (zl 8 pl3 Z Z (Aq 1 Z Z) ?_)));obtain⟨m,v,j⟩:=An i;refine wz 9 Z Z (QV.call A04 (ea Z) (fun w c=>have h:=Kp w v ;h)) ?_;refine zf 10 Ac6 Z Z (zl 11 pl3 Z Z (Aq 2 Z Z) (zf 12 Ac6 Z Z (zl 13 pl3 Z Z (Aq 1 Z Z) ?_)));obtain⟨n,q,f⟩:=An j;refine wz 14 Z Z (QV.call A04 (ea Z) (fun w c=>have h:=Kp w q ;h)) ?_;refine zf 15 Ac5 Z Z (zl 16 pl3 Z Z (Aq 2 Z Z) (zf 17 Ac5 Z Z (zl 18 pl3 Z Z (Aq 1 Z Z) ?_)));obtain⟨k,s,g⟩:=An f;refine wz 19 Z Z (QV.call A04 (ea Z) (fun w c=>have h:=Kp w s ;h)) ?_;refine Dd 20 Z Ag Z ((D4 Ai M6 Ai Ai (ps:=[(0,.tmp 9),(1,.tmp 14),(2,.tmp 19),(3,.tmp 24)]) (cells:=[i_ l,i_ m,i_ n,i_ k]) (ea Z) Ag (fun x=>bp [3,0,1,2] Z (pk [0,2,3]) ?_)));obtain⟨y,t,p⟩:=An g;refine wz 21 Z Z (QV.call en62 (ea Z) (fun w c=>have h:=Aij w t ((Bi 1 (rows:=[l,m,n,k].map Ar) Z Z (B3 Bf)) w c);h)) ?_;refine wz 22 Z Z (QV.assign Z Z) (Em Ag (Al (Bc ?_)));obtain rfl:=(Ad p).symm;exact Az Z Z fun w c=>kg c
end Go.Proofs.YtaimbkndebaaiaaGreatDoor
end
section
namespace Go.Rd
open Go.RowKit Go.Sort Go.Shelf Go.Lib Go.Proofs
section
variable {α : Type} [Inhabited α] {enc : α → List Ak} {k : Nat}
theorem Ahv (a:∀ x,(enc x).length=k) (l:0<k) (xs:List α):(flatK enc k xs.toArray).toList=(xs.map enc).flatten:=by
 apply Wx;intro j
 have b:∀ r∈xs.map enc,r.length=k:=fun r n=>by obtain⟨u,_,rfl⟩:=Iv.1 n;exact a u
 have c:=C9 b;rw[Ge] at c;by_cases d:j<xs.length * k
 ·have g:j / k<xs.length:=Ak4 (by rwa [Qu] at d)
  have f:j % k<k:=Nat.mod_lt _ l;have m:=Ji (sz:=k) (rows:=xs.map enc) (i:=j / k) (r:=enc xs[j / k]) b (by simp[g])
  have h:(xs.map enc).flatten[j]?=(enc xs[j / k])[j % k]?:=by
   have:(enc xs[j / k])[j % k]?=(((xs.map enc).flatten.drop (j / k * k)).take (enc xs[j / k]).length)[j % k]?:=by rw[m]
   rw[this,Rv,a,Bg f,Xb,Qu,Af1]
  have e:j % k<(enc xs[j / k]).length:=by rw[a];exact f
  rw[h,E3 e];simp[flatK,d,g,e]
 ·rw[Qi (by rw[Z6,size_flatK,Aqg];omega),Qi (by rw[c];omega)]
variable {M : Nat → Prop} {w w0 : Aj} {H : List Res} {E : TypeId} {b n cap : Nat} {xs ys : List α}
theorem Ahi (r:∀ x,(enc x).length=k) (o:0<k) (h:(vec (.slice (some ⟨b,0,none⟩) n cap) E k (xs.map enc)).holds w):HoldsK enc k w b 0 xs.toArray∧n=xs.length∧b<w.heap.size:=by
 obtain⟨⟨f,a⟩,u⟩:=h;rcases a with ⟨h,_⟩ | ⟨g,t,d,m,_,e,i,_,p,l⟩
 ·cases h
 ·simp only[I3,Gf,O1,Ge] at m
  obtain⟨⟨rfl,_⟩,rfl,rfl⟩:=m;refine⟨fun j c=>?_,rfl,(Q5.1 e).1⟩;rw[size_flatK,Aqg] at c;rw[Ge] at i l
  have v:j<d.size:=by rw[p];exact Aa3 c (Zd _ i)
  have s:=Ahv r o xs
  have q:d[j]?=some (id (flatK enc k xs.toArray)[j]!):=by
   have f:(flatK enc k xs.toArray)[j]?=some (flatK enc k xs.toArray)[j]!:=by
    have:j<(flatK enc k xs.toArray).size:=by simpa using c
    rw[getElem!_pos (flatK enc k xs.toArray) j this,Ac1 this]
   have a:(flatK enc k xs.toArray).toList[j]?=d.toList[j]?:=by
    rw[s,←l,Rv,Bg c]
   rw[Ad0,Ad0] at a;rw[←a,f];rfl
  rw[Sq];refine⟨?_,by simp[World.frozen?,e]⟩;simp only[World.cell?,e];exact q
theorem Zp {m:Nat}{os:Array Obj}:((sortWorldK enc k w b 0 m ys.toArray os).os=w.os∧(sortWorldK enc k w b 0 m ys.toArray os).tape=w.tape∧((sortWorldK enc k w b 0 m ys.toArray os).output=w.output∧w.drawn≤(sortWorldK enc k w b 0 m ys.toArray os).drawn)∧w.heap.size≤(sortWorldK enc k w b 0 m ys.toArray os).heap.size) ∧
  (∀ j,j<w.heap.size→j≠b→(sortWorldK enc k w b 0 m ys.toArray os).heap[j]?=w.heap[j]?) ∧
  (∀ a t,w.heap[b]?=some (.cells a t (0,0))→(sortWorldK enc k w b 0 m ys.toArray os).heap[b]?=some (.cells (putCells id 0 (flatK enc k ys.toArray) a) t (0,0))):=by
 refine⟨⟨rfl,rfl,⟨rfl,Nat.le_add_right _ _⟩,?_⟩,fun j c e=>?_,fun a t d=>?_⟩
 ·show w.heap.size≤(w.heap.modify b _++os).size
  simp
 ·show (w.heap.modify b (onCells (putCells id 0 (flatK enc k ys.toArray)))++os)[j]?=_
  rw[Ald (by simpa using c),Ad1,Bb (Ne.symm e)]
 ·have c:=(Q5.1 d).1
  show (w.heap.modify b (onCells (putCells id 0 (flatK enc k ys.toArray)))++os)[b]?=_;rw[Ald (by simpa using c),Ad1,Bg rfl,d];rfl
theorem Ard (i:∀ x,(enc x).length=k) (p:0<k) (h:(vec (.slice (some ⟨b,0,none⟩) n cap) E k (xs.map enc)).holds w) (C:ys.length=xs.length) (m:Nat) (os:Array Obj) :
  (vec (.slice (some ⟨b,0,none⟩) n cap) E k (ys.map enc)).holds (sortWorldK enc k w b 0 m ys.toArray os):=by
 obtain⟨⟨J,q⟩,K⟩:=h;rcases q with ⟨h,_⟩ | ⟨g,I,c,o,y,z,l,t,f,L⟩
 ·cases h
 ·simp only[I3,Gf,O1] at o
  obtain⟨⟨rfl,_⟩,rfl,rfl⟩:=o
  have e:∀ r∈ys.map enc,r.length=k:=fun r G=>by obtain⟨u,_,rfl⟩:=Iv.1 G;exact i u
  have v:=C9 e;have s:=(Zp (enc:=enc) (k:=k) (w:=w) (b:=b) (ys:=ys) (m:=m) (os:=os)).2.2 c E z
  have d:(ys.map enc).length=(xs.map enc).length:=by simp[C]
  refine⟨⟨v,.inr ⟨b,cap,putCells id 0 (flatK enc k ys.toArray) c,by rw[d],y,s,by rw[d];exact l,t,by simp[putCells,f],?_⟩⟩,e⟩;rw[←Ahv i p ys];apply Wx;intro j;rw[Rv];have hs:(flatK enc k ys.toArray).size=(ys.map enc).length * k:=Ba;by_cases a:j<(ys.map enc).length * k
  ·have F:j<c.size:=by rw[f];rw[d] at a;exact Aa3 a (Zd _ l)
   have B:j<(flatK enc k ys.toArray).size:=by rw[hs];exact a
   rw[Bg a,Ad0,Ad0];rw[Ac1 B]
   have A:j<ys.length * k:=by rw[Ge] at a;exact a
   simp[putCells,F,A]
  ·rw[Bb a,Qi (by rw[Z6,hs];omega)]
theorem Asm {c:Aj} (q:Base M c w) (h:∀ x,(enc x).length=k) (f:0<k) (d:Own M w [vec (.slice (some ⟨b,0,none⟩) n cap) E k (xs.map enc)] w) (r:ys.length=xs.length) (m:Nat) (os:Array Obj) :
  Own M w (kn M w.heap.size c c::[vec (.slice (some ⟨b,0,none⟩) n cap) E k (ys.map enc)]) (sortWorldK enc k w b 0 m ys.toArray os):=by
 have hs:=Aw q d;obtain⟨⟨i,l,o,f4⟩,p,f6⟩:=Zp (enc:=enc) (k:=k) (w:=w) (b:=b) (ys:=ys) (m:=m) (os:=os);refine hs.upd 1 rfl i l o f4 (fun j a s=>p j a fun e=>s (by subst e;exact⟨_,_,rfl⟩)) (Ard h f d.head r m os) fun j a=>?_;refine⟨.inl a,?_⟩;obtain⟨t,c2,g⟩:=a;simp only[I3,Gf,O1] at g;obtain⟨⟨rfl,_⟩,_⟩:=g;have:=(Ahi h f d.head).2.2;omega
theorem A2m {w w':Aj} (h:Grow w w'):∃ q g,w'=grow (w.drewN q) g:=by
 obtain⟨c,d,⟨e,i⟩,l,f⟩:=h;refine⟨w'.drawn - w.drawn,w'.heap.extract w.heap.size w'.heap.size,?_⟩
 cases w'
 simp only[grow,World.drewN] at *;subst c d e;congr 1
 ·apply Ak3
  intro j;by_cases a:j<w.heap.size
  ·rw[Ald a];exact f j a
  ·rw[Array.getElem?_append_right Aa,Array.getElem?_extract]
   split
   ·congr 1;omega
   ·rw[Ad2 Aa]
 ·omega
end
end Go.Rd
end
section
namespace Go.Rd
open Go.Sort Go.Shelf Go.Lib Go.Proofs
theorem A11:SWO (ltOf Aeu) where
 irrefl x:=by unfold ltOf;simp[Aeu]
 trans x y z h1 h2:=by
  unfold ltOf at *;simp only[H4,Ep] at *;omega
 ntrans x y z h1 h2:=by
  unfold ltOf at *;simp only[H5,Ep] at *;omega
theorem Avl (x y:Edg) (a:ltOf Aeu x y=Ay) (b:ltOf Aeu y x=Ay):x=y:=by
 unfold ltOf at *;simp only[H5,Ep] at *
 cases x;cases y
 simp only[Edg.mk.injEq] at *;omega
end Go.Rd
end
section
namespace Go.Proofs.YtaimbkndebaaiaaGreatDoor
open Go.Rd
open TLib TLibR TLibA TSay TNum0 TNum TLoop TPar TStable TMach TMach2 TKern TClone TNbr TSeq TKRun TKeep TOrd
namespace TCpt
theorem Ack:Rs Tryz.prog 87 4:=⟨_,Tryz.underlying87,rfl,Ag⟩
theorem eq87:EqT Tryz.prog 87 4:=⟨Ag,⟨_,Tryz.underlying87⟩,Ag,Ag⟩
theorem Aaw:I1 Tryz.prog 53 87 4:=⟨Tryz.underlying53,Ag⟩
theorem Akf:Dg Tryz.prog 87 4:=by unfold Dg;kernel_rfl
theorem Ap3:ZeroT Tryz.prog 87 [.int .i64 0,.int .i64 0,.int .i64 0,.int .i64 0]:=by unfold ZeroT;kernel_rfl
end TCpt
open TCpt
theorem M4 {j:Ak}{s r:List Edg}{y:Aj} (t:Cz s=some r) (J:SliceLen j s.length) (M:Nat→Prop) (w:Aj) (o:Base M y w) (e2:Own M w [vec j 87 4 (List.map Edg.cells s)] w):Calls Tryz.prog 33 #[j] w (fun e w'=>∃ X:Ak×Aj,e=.returned (X.1)∧Own M w (kn M w.heap.size y X.2::[]) w'∧Arr X.2 X.1 4 (r.map Edg.cells)):=by
 unfold Cz at t;refine cw 61 Tryz.func33 Z (sr (wa Z (nt (Ax (sr (wm Z (wq Z (A5 Tryz.underlying53 Z Z J) (wq Z (QV.lss Z Z Z Z) (nt ?_))))))))) (Aw o e2);refine wc Z t (fun a7 c0=>?_) (fun a7 N=>?_)
 ·skip
  refine sr (wm Z (wa Z (nt (Bc (tr ?_)))));obtain rfl:=(Ad c0).symm;refine Gc o (fun e4 f0 e0=>have b3:=Cn e0;Az Z Z (fun w l=>?_));exact⟨(j,e4),Z,l.pick [0] Ai,b3⟩
 refine sk (Al (Ax (sr (wa Z (nt ?_)))));obtain⟨a1,Q,e8,d8⟩:=bl N;refine Cj (dt [0] [0] Z) (fun (a:List Edg) (b:Int)=>[(3,(true,i_ b))]) (fun a b=>[vec j 87 4 (List.map Edg.cells a)]) (fun a b m=>Cp (Bt) m (a,b)=some a1∧SliceLen j a.length) (fun a b=>a1=.go (a,b)∧SliceLen j a.length) s 1 e8 ⟨d8,J⟩ (sb Z) (pk [1,0]) ?_ ?_
 ·skip
  rintro a b ⟨rfl,n⟩;refine Al (sr (wm Z (wa Z (nt (Bc ?_)))));obtain rfl:=(Ad Q).symm;refine kp [1,0] Z (Gc o (fun e3 e9 d9=>have b2:=Cn d9;Az Z Z (fun w l=>?_)));exact⟨(j,e3),Z,l.pick [0] Ai,b2⟩
 rintro a b f2 ⟨H,n⟩;obtain⟨e6,g0,rfl,p,v⟩:=A2 H;unfold Bt at p;simp only at p;refine Ax (sr (wm Z (wm Z (wq Z (A5 Tryz.underlying53 Z Z n) (wq Z (QV.lss Z Z Z Z) (nt ?_))))));refine wc Z p (fun a8 b9=>?_) (fun a8 d6=>?_)
 ·skip
  refine sk (Al (Ax (Cr (Ax (dp 10 [1,0] Z (zm 0 Z Z (zm 1 Z Z (have ⟨z,c1⟩:=cs b9;have ⟨f4,R⟩:=n.ix (sz:=4) Ap z;wz 2 Z Z (Ae Aaw Z Z Z Z R) (wz 3 Z Z (Af Ack Z Z Z (el (Df 1 Z) R z)) (zm 4 Z Z (zm 5 Z Z (have ⟨a2,A,K⟩:=cs2 c1;wz 6 Z Z (Du Z Z Z Z a2) (have ⟨f5,S⟩:=n.ix (sz:=4) Ap A;wz 7 Z Z (Ae Aaw Z Z Z Z S) (wz 8 Z Z (Af Ack Z Z Z (el (Df 1 Z) S A)) (wz 9 Z Z (Sy eq87 (ns:=[(ele a b).fr,(ele a b).tO,(ele a b).bk,(ele a b).wt]) (ms:=[(ele a (b - 1)).fr,(ele a (b - 1)).tO,(ele a (b - 1)).bk,(ele a (b - 1)).wt]) Z Z Z Z Z Z) (Em Ag (Al ?_)))))))))))))))));refine wc Z K (fun a9 c2=>?_) (fun a9 d4=>?_)
  ·skip
   refine sr (wm Z (wm Z (have ⟨a3,L⟩:=cs c2;wq Z (Od Aaw Z Z n Z Z a3) (wa Z (nt (Ax (sr (wa Z (nt ?_)))))))));obtain⟨a0,c3,e7,d7⟩:=bl L;refine F9 (dt [0,4] [1] Z) (fun (f:List Edg) (i:Int) (g:Int)=>[(3,(true,i_ i)),(5,(true,i_ g))]) (fun f i g=>[vec j 87 4 (List.map Edg.cells f)]) (fun f i g m=>Cp (Bs a b) m (f,i,g)=some a0∧SliceLen j f.length) (fun f i g=>a0=.go (f,i,g)∧SliceLen j f.length) a b 1 e7 ⟨d7,n⟩ (sb Z) (pk [0,1]) ?_ ?_
   ·skip
    rintro f i g ⟨rfl,k⟩;refine Al (sr (wm Z (wm Z (have ⟨q,B,c4⟩:=cs2 c3;wq Z (Od Aaw Z Z k Z Z q) (Ab Z ((EV.clear (enc:=Edg.cells) (d:=none) (dd:=0) 0 (Edg.mk 0 0 0 0) Aaw Ap3 Ady Ai (fun c b6=>Asp [_] _ (Gx.2 Z) c b6) Z Z Z q Z (.inr Z) ?_ (fun _ h=>(by cases h)))))))));have b7:SliceLen j (clr f i (Edg.mk 0 0 0 0)).length:=(Amq q.2.1).symm▸k;refine ns (wm Z (wm Z (wq Z (P6 Aaw Z Z b7 Z Z B) (wa Z (nt (Bc (kr (tr (tr (kr (tr (tr ?_))))))))))));obtain rfl:=Dn c4 v;obtain rfl:=(Ad Q).symm;refine kp [1,0] Z (Gc o (fun e5 f1 e1=>have b4:=Cn e1;have b5:=I7 b4 B;Az Z Z (fun w l=>?_)));exact⟨((Ng j 4 (Int.toNat 0) (Int.toNat i)),e5),Z,l.pick [0] Ai,b5⟩
   rintro f i g f3 ⟨I,k⟩;obtain⟨Y,g1,rfl,u,x⟩:=A2 I;unfold Bs at u;simp only at u;refine Ax (sr (wm Z (wm Z (have ⟨c51,O⟩:=cs u;wq Z (A5 Tryz.underlying53 Z Z (Uc (sz:=4) k c51)) (wq Z (QV.lss Z Z Z Z) (nt ?_))))));refine wc Z O (fun b0 c5=>?_) (fun b0 d3=>?_)
   ·skip
    refine sk (Al (Ax (Cr (Ax (dp 10 [1,0] Z (zm 0 Z Z (zm 1 Z Z (have ⟨C,c6⟩:=cs c5;have ⟨f6,T⟩:=(Uc (sz:=4) k c51).ix (sz:=4) Ap C;wz 2 Z Z (Ae Aaw Z Z Z Z T) (wz 3 Z Z (Af Ack Z Z Z (el (fun w l=>I7 ((Df 1 Z) w l) c51) T C)) (zm 4 Z Z (zm 5 Z Z (have ⟨a4,E,P⟩:=cs2 c6;wz 6 Z Z (Du Z Z Z Z a4) (have ⟨f7,U⟩:=(Uc (sz:=4) k c51).ix (sz:=4) Ap E;wz 7 Z Z (Ae Aaw Z Z Z Z U) (wz 8 Z Z (Af Ack Z Z Z (el (fun w l=>I7 ((Df 1 Z) w l) c51) U E)) (wz 9 Z Z (Auc eq87 (ns:=[(ele (sub f b (ln a)) g).fr,(ele (sub f b (ln a)) g).tO,(ele (sub f b (ln a)) g).bk,(ele (sub f b (ln a)) g).wt]) (ms:=[(ele (sub f b (ln a)) (g - 1)).fr,(ele (sub f b (ln a)) (g - 1)).tO,(ele (sub f b (ln a)) (g - 1)).bk,(ele (sub f b (ln a)) (g - 1)).wt]) Z Z Z Z Z Z) (Em Ag (Al ?_)))))))))))))))));refine wc Z P (fun b1 c7=>?_) (fun b1 d1=>?_)
    ·skip
     refine sr (wm Z (wm Z (wm Z (wm Z (have ⟨F,c8⟩:=cs c7;have ⟨f8,V⟩:=(Uc (sz:=4) k c51).ix (sz:=4) Ap F;wq Z (Ae Aaw Z Z Z Z V) (wq Z (Af Ack Z Z Z (el (fun w l=>I7 ((Df 0 Z) w l) c51) V F)) (have ⟨G,c9⟩:=cs c8;have ⟨f9,W⟩:=k.ix (sz:=4) Ap G;wq Z (Ae Aaw Z Z Z Z W) (Ab Z ((Awp (enc:=Edg.cells) (off:=0) (vs:=(Edg.cells (ele (sub f b (ln a)) g))) 0 (ele (sub f b (ln a)) g) rfl rfl rfl rfl rfl W G (by first | rfl | exact Mn _) (show Ee _=List.toArray _ from rfl) Akf (nl rfl) (oz rfl) rfl ?_))))))))));have b8:SliceLen j (upd f i (ele (sub f b (ln a)) g)).length:=H9 k;refine nr (wm Z (have ⟨c76,a5,d0⟩:=cs2 c9;wq Z (A6 Z Z Z Z c76) (wa Z (Bm (Bd (Al (Bo (wm Z (wq Z (A6 Z Z Z Z a5) (wa Z (Bm ?_)))))))))));exact Ed (upd f i (ele (sub f b (ln a)) g)) (i+1) (g+1) Y ⟨A4 d0 x,b8⟩ (Ck _) (sb Z) (pk [0,1])
    refine sk (Bd (Al (Bo (wm Z (have ⟨a6,d2⟩:=cs d1;wq Z (A6 Z Z Z Z a6) (wa Z (Bm ?_)))))));exact Ed f i (g+1) Y ⟨A4 d2 x,k⟩ (Ck _) (sb Z) (pk [0,1])
   refine C1 (te (te (Am ?_)));exact J2 f i g ⟨Bh d3 x,k⟩ (sb Z) (pk [0,1])
  refine sk (Bd (Al (Bo (wm Z (have ⟨c85,d5⟩:=cs d4;wq Z (A6 Z Z Z Z c85) (wa Z (Bm ?_)))))));exact B1 a (b+1) e6 ⟨A4 d5 v,n⟩ (Ck _) (sb Z) (pk [0,1])
 refine C1 (te (te (Am ?_)));exact Ct a b ⟨Bh d6 v,n⟩ (sb Z) (pk [0,1])
def A1w:Go.Shelf.Ren:=⟨fun n=>match n with | 6=>31 | 14=>60 | 15=>61 | 20=>98 | 21=>99 | 22=>100 | 23=>101 | 24=>102 | 25=>103 | 26=>104 | 27=>105 | 28=>106 | 29=>107 | 46=>146 | 47=>147 | 48=>148 | 49=>149 | 50=>150 | 57=>172 | n=>n,fun n=>match n with | 22=>53 | 24=>87 | 25=>91 | 39=>131 | 45=>184 | 46=>185 | 50=>35 | 53=>191 | 55=>193 | 66=>229 | 70=>176 | 76=>259 | 77=>260 | n=>n,fun n=>match n with  | n=>n⟩
theorem A3s:Go.Proofs.SlLaysF0.n6 Tryz.prog A1w where
  mixed:=Ag
  f6:=⟨Tryz.f31.name,Ag,Tryz.func31.trans (congrArg some Ag)⟩
  f14:=⟨Tryz.f60.name,Ag,Tryz.func60.trans (congrArg some Ag)⟩
  f15:=Tryz.func61.trans (congrArg some Ag)
  f20:=⟨Tryz.f98.name,Ag,Tryz.func98.trans (congrArg some Ag)⟩
  f21:=⟨Tryz.f99.name,Ag,Tryz.func99.trans (congrArg some Ag)⟩
  f22:=⟨Tryz.f100.name,Ag,Tryz.func100.trans (congrArg some Ag)⟩
  f23:=⟨Tryz.f101.name,Ag,Tryz.func101.trans (congrArg some Ag)⟩
  f24:=⟨Tryz.f102.name,Ag,Tryz.func102.trans (congrArg some Ag)⟩
  f25:=⟨Tryz.f103.name,Ag,Tryz.func103.trans (congrArg some Ag)⟩
  f26:=⟨Tryz.f104.name,Ag,Tryz.func104.trans (congrArg some Ag)⟩
  f27:=⟨Tryz.f105.name,Ag,Tryz.func105.trans (congrArg some Ag)⟩
  f28:=Tryz.func106.trans (congrArg some Ag)
  f29:=Tryz.func107.trans (congrArg some Ag)
  f46:=⟨Tryz.f146.name,Ag,Tryz.func146.trans (congrArg some Ag)⟩
  f47:=Tryz.func147.trans (congrArg some Ag)
  f48:=Tryz.func148.trans (congrArg some Ag)
  f49:=⟨Tryz.f149.name,Ag,Tryz.func149.trans (congrArg some Ag)⟩
  f50:=⟨Tryz.f150.name,Ag,Tryz.func150.trans (congrArg some Ag)⟩
  f57:=⟨Tryz.f172.name,Ag,Tryz.func172.trans (congrArg some Ag)⟩
  t0:=Tryz.underlying0
  a0:=Tryz.isAgg0
  z0:=Tryz.sizeOf0
  v0:=Tryz.zeroValue0
  t3:=Tryz.underlying3
  a3:=Tryz.isAgg3
  z3:=Tryz.sizeOf3
  v3:=Tryz.zeroValue3
  t4:=Tryz.underlying4
  a4:=Tryz.isAgg4
  z4:=Tryz.sizeOf4
  v4:=Tryz.zeroValue4
  t5:=Tryz.underlying5
  a5:=Tryz.isAgg5
  z5:=Tryz.sizeOf5
  v5:=Tryz.zeroValue5
  t9:=Tryz.underlying9
  a9:=Tryz.isAgg9
  z9:=Tryz.sizeOf9
  v9:=Tryz.zeroValue9
  t22:=Tryz.underlying53
  a22:=Tryz.isAgg53
  z22:=Tryz.sizeOf53
  v22:=Tryz.zeroValue53
  t25:=Tryz.underlying91
  a25:=Tryz.isAgg91
  z25:=Tryz.sizeOf91
  v25:=Tryz.zeroValue91
  t39:=Tryz.underlying131
  a39:=Tryz.isAgg131
  z39:=Tryz.sizeOf131
  v39:=Tryz.zeroValue131
  t45:=Tryz.underlying184
  a45:=Tryz.isAgg184
  z45:=Tryz.sizeOf184
  v45:=Tryz.zeroValue184
  t46:=Tryz.underlying185
  a46:=Tryz.isAgg185
  z46:=Tryz.sizeOf185
  v46:=Tryz.zeroValue185
  t50:=Tryz.underlying35
  a50:=Tryz.isAgg35
  z50:=Tryz.sizeOf35
  v50:=Tryz.zeroValue35
  t53:=Tryz.underlying191
  a53:=Tryz.isAgg191
  z53:=Tryz.sizeOf191
  v53:=Tryz.zeroValue191
  t55:=Tryz.underlying193
  a55:=Tryz.isAgg193
  z55:=Tryz.sizeOf193
  v55:=Tryz.zeroValue193
  t66:=Tryz.underlying229
  a66:=Tryz.isAgg229
  z66:=Tryz.sizeOf229
  v66:=Tryz.zeroValue229
  t70:=Tryz.underlying176
  a70:=Tryz.isAgg176
  z70:=Tryz.sizeOf176
  v70:=Tryz.zeroValue176
  t76:=Tryz.underlying259
  a76:=Tryz.isAgg259
  z76:=Tryz.sizeOf259
  v76:=Tryz.zeroValue259
  t77:=Tryz.underlying260
  a77:=Tryz.isAgg260
  z77:=Tryz.sizeOf260
  v77:=Tryz.zeroValue260
theorem Au6:Afl []=[]:=by simp[Afl]
theorem Asi {f:Ak}{x r:List Edg}{i:Aj} (E:Aam x=some r) (y:SliceLen f x.length) (M:Nat→Prop) (w:Aj) (o:Base M i w) (k:Own M w [vec f 87 4 (List.map Edg.cells x)] w):Calls Tryz.prog 31 #[f,.func (.func 32) #[] #[]] w (fun e w'=>∃ X:Aj,e=.returned (.tuple #[])∧Own M w (kn M w.heap.size i X::[vec f 87 4 (List.map Edg.cells r)]) w'∧SliceLen f (r).length):=by
  obtain⟨C,s⟩:=Qb E;obtain rfl:=Ad s;have p:(Afl x).length=x.length:=List.length_mergeSort ..;obtain⟨a,c,rfl,j,n⟩:=y;by_cases l:x=[]
  · subst l
    refine(Go.Proofs.AnyF.slices_SortFunc_none { A3s with } a c (.func (.func 32) #[] #[]) w).mono ?_;rintro e w' ⟨rfl,rfl⟩;rw[Au6];exact⟨i,rfl,Aw o k,⟨a,c,rfl,j,n⟩⟩
  · obtain⟨q,rfl⟩:=Age.1 (j (by cases x with | nil=>exact absurd rfl l | cons _ _=>simp))
    have d:=k.head
    have F:∃ b,q=⟨b,0,none⟩:=by
      rcases d.1.2 with ⟨h,_⟩ | ⟨g,cap,G,d,_⟩
      · cases h
      · simp only[I3,Gf] at d;exact⟨g,d.1⟩
    obtain⟨b,rfl⟩:=F;obtain⟨t,_,z⟩:=Ahi Ady Ai d;refine(Go.Proofs.AnyQ.slices_SortFunc_total A3s 4 Tryz.isAgg87 Tryz.sizeOf87 Edg.cells Ady (fun u v d=>Asp [u] u (Gx.2 rfl) v d) Aeu A11 32 #[] b 0 c x.toArray w (enters_of Tryz.func32 Ag rfl) ?_ t z (by simpa using C) Avl).mono ?_
    · intro m os H I u v
      exact(Apu _ (A10 u v)).mono fun e w' ⟨A,B⟩=>⟨A,A2m B⟩
    · rintro e w' ⟨rfl,m,os,rfl⟩
      exact⟨i,rfl,Asm o Ady Ai k p m os,by rw[p];exact⟨_,c,rfl,j,n⟩⟩
end Go.Proofs.YtaimbkndebaaiaaGreatDoor
end
section
namespace Go.Proofs.YtaimbkndebaaiaaGreatDoor
open Go.Rd
open TLib TLibR TLibA TSay TNum0 TNum TLoop TPar TStable TMach TMach2 TKern TClone TNbr TSeq TKRun TKeep TOrd TCpt
namespace TDep
theorem Awy:Go.Rd.Enters Tryz.prog 29:=eT Tryz.func29
theorem en30:Go.Rd.Enters Tryz.prog 30:=eT Tryz.func30
theorem en31:Go.Rd.Enters Tryz.prog 31:=eT Tryz.func31
theorem en33:Go.Rd.Enters Tryz.prog 33:=eT Tryz.func33
theorem en58:Go.Rd.Enters Tryz.prog 58:=eT Tryz.func58
theorem en59:Go.Rd.Enters Tryz.prog 59:=eT Tryz.func59
theorem A3p:O4 Tryz.prog 53 87 4 [.int .i64 0,.int .i64 0,.int .i64 0,.int .i64 0]:=⟨Tryz.underlying53,Ag⟩
theorem ve53:Ws Tryz.prog 53 87 4 32:=⟨Tryz.underlying53,Ag,Ai⟩
end TDep
open TDep
theorem Asc {a b:Stm}{back size:Int}{r:Bool} (w:Aj) (d:P4 a b back size=some r) :Calls Tryz.prog 59 #[.agg #[.int .i64 a.op,.int .i64 a.a.st,.int .i64 a.a.bk,.int .i64 a.b.st,.int .i64 a.b.bk,.int .i64 a.ar,.int .i64 a.sp,.int .i64 a.pl,.int .i64 a.n],.agg #[.int .i64 b.op,.int .i64 b.a.st,.int .i64 b.a.bk,.int .i64 b.b.st,.int .i64 b.b.bk,.int .i64 b.ar,.int .i64 b.sp,.int .i64 b.pl,.int .i64 b.n],.int .i64 back,.int .i64 size] w (fun e w'=>e=.returned (.bool r)∧Grow w w'):=by
 unfold P4 at d;refine have z:=D2 (w:=w);cw 36 Tryz.func59 Z (sr (Ab Z ((A3 Ai Z Z (fun b1=>Ab Z ((A3 Ai Z Z (fun b2=>wa Z (nt (Ax (sr (wm Z (wm Z (nt ?_)))))))))))))) (Aw z (D3 w));obtain⟨l,k,n6,G⟩:=bl d;refine Dq (dt [2,3,4,5,10] [0,1,2] Z) (fun (c:Int)=>[(11,(true,i_ c))]) (fun c=>[]) (fun c m=>Cp (Jb a b back size) m c=some l) (fun c=>l=.go c) 0 n6 G (sb Z) (pk [0,1,2]) ?_ ?_
 ·skip
  rintro c rfl;refine Al (sr (wa Z (nt (Bc ?_))));obtain rfl:=(Ad k).symm;exact Az Z Z fun w h=>kg h
 rintro c I i;obtain⟨H,J,rfl,f,g⟩:=A2 i;unfold Jb at f;refine sr (wq Z (QV.lss Z Z Z Z) (nt (Ax ?_)));refine wc Z f (fun x A=>?_) (fun x F=>?_)
 ·skip
  refine sk (Al (Ax (Cr (sr (wm Z (wa Z (ns (wf Xh Z (wl pl3 Z (Aq 1 Z Z) (wm Z (have ⟨o,p,c20,q,s,t,u,j⟩:=cs7 A;wq Z (QV.mul Z Z Z Z o) (wf Xg Z (wl pl3 Z (Aq 1 Z Z) (wq Z (A6 Z Z Z Z p) (wf Xh Z (wl pl3 Z (Aq 0 Z Z) (wm Z (wm Z (wq Z (A6 Z Z Z Z c20) (wq Z (QV.mul Z Z Z Z q) (wq Z (Du Z Z Z Z s) (wf Xg Z (wl pl3 Z (Aq 0 Z Z) (wq Z (Du Z Z Z Z t) (wm Z (wq Z (Du Z Z Z Z u) (wq Z (Afb Z Z Z Z) (wq Z (QV.eql Z Z Z Z) (nt ?_)))))))))))))))))))))))))))));refine wc Z j (fun y B=>?_) (fun y C=>?_)
  ·skip
   refine sr (wa Z (nt (Bc (kr (tr (tr (kr (tr (tr ?_)))))))));obtain rfl:=Dn B g;obtain rfl:=(Ad k).symm;exact Az Z Z fun w h=>kg h
  refine sk (Bd (Al (Bo (have ⟨v,E⟩:=cs C;wq Z (A6 Z Z Z Z v) (wm Z (Bm ?_))))));exact Dp (c+1) H (A4 E g) (Ck _) (sb Z) (pk [0,1,2])
 refine C1 (te (te (Am ?_)));exact El c (Bh F g) (sb Z) (pk [0,1,2])
theorem Aem {s:Stm}{r:Bool} (w:Aj) (d:Qp s=some r) :Calls Tryz.prog 58 #[.agg #[.int .i64 s.op,.int .i64 s.a.st,.int .i64 s.a.bk,.int .i64 s.b.st,.int .i64 s.b.bk,.int .i64 s.ar,.int .i64 s.sp,.int .i64 s.pl,.int .i64 s.n]] w (fun e w'=>e=.returned (.bool r)∧Grow w w'):=by
 unfold Qp at d;refine have f:=D2 (w:=w);cw 11 Tryz.func58 Z (sr (Ab Z ((A3 Ai Z Z (fun b1=>wa Z (ns (wf I0 Z (wl pl3 Z (Aq 0 Z Z) (wq Z (QV.eql Z Z Z Z) (wm Z (gN Z (QV.fieldAddr I0 Z Z) (gn Z (fun c=>Cm pl3 Z c (Aq 0 Z Z)) (gn Z (fun c=>QV.eql Z c Z Z) (wq Z (Be Z Z Z (fun h=>Fx h)) (wa Z (nt (Bc ?_))))))))))))))))) (Aw f (D3 w));obtain rfl:=(Ad d).symm;exact Az Z Z fun w g=>kg g
theorem Am8 {x v y:Ak}{l:Lp}{c tO:Int}{r:Edg×Bool} (w:Aj) (C:Pf l c tO=some r) (B:Arr w x 1 (l.logs.map Ar)) (k:Arr w v 9 (l.body.map Stm.cells)) (c2:Arr w y 1 (l.outs.map Ar)):Calls Tryz.prog 30 #[.agg #[x,v,y],.int .i64 c,.int .i64 tO] w (fun e w'=>e=.returned (.tuple #[.agg #[.int .i64 r.1.fr,.int .i64 r.1.tO,.int .i64 r.1.bk,.int .i64 r.1.wt],.bool r.2])∧Grow w w'):=by
 unfold Pf at C;refine have p:=D2 (w:=w);cw 80 Tryz.func30 Z (sr (Ab Z ((A3 Ai Z Z (fun b1=>Ab Z ((Ci Ai Ap3 (fun b2=>wa Z (nt (Ax (dp 14 [2,0,1] Z (Ac9 0 Ag (zq 0 0 1 Z (QV.fieldAddr Dj Z Z) (zq 1 1 3 Z (Cm J1 Z Z (Aq 2 Z Z)) (zq 2 3 7 Z (QV.move Z Z) (have ⟨c3,a3⟩:=cs C;have ⟨c6,Q⟩:=k.lenMap.ix (sz:=9) Ap c3;zq 3 7 15 Z (Ae Wq Z Z Z Z Q) (zq 4 15 31 Z (Af N5 Z Z Z (el (Ah 0 Z p k) Q c3)) (zq 5 31 63 Z (QV.fieldAddr Dj Z Z) (zq 6 63 127 Z (Cm J1 Z Z (Aq 2 Z Z)) (zq 7 127 255 Z (QV.move Z Z) (have ⟨c7,N⟩:=cs a3;have ⟨c8,O⟩:=k.lenMap.ix (sz:=9) Ap c7;zq 8 255 511 Z (Ae Wq Z Z Z Z O) (zq 9 511 1023 Z (Af N5 Z Z Z (el (Ah 0 Z p k) O c7)) ?_)))))))))))))))))))))) (Aw p (D3 w));refine Aua (fun (i:Nat) (j:Nat)=>[(1,(true,i_ c)),(2,(true,i_ tO)),(3,(true,.pointer (some (⟨b1,0,none⟩)))),(6,(true,.pointer (some (⟨b2,0,none⟩)))),(8,(true,.pointer (some (⟨i,0,none⟩)))),(9,(true,.pointer (some (⟨j,0,none⟩))))]) (fun (i:Nat) (j:Nat)=>Own noM w [blk j (Stm.cells (ele l.body tO)) 82,blk i (Stm.cells (ele l.body c)) 82,blk b2 [i_ 0,i_ 0,i_ 0,i_ 0] 87,blk b1 [x,v,y] 47,kn noM w.heap.size w w]) ?_ ?_
 ·skip
  rintro i j;refine Al (Ax (sr (wq Z (Af N5 Z Z Z (Ac 1 Z)) ?_)));obtain⟨d0,b5,E⟩:=An N;refine wq Z (QV.call en58 (ea Z) (fun w d=>have h:=Aem w b5 ;h)) ?_;refine wq Z (QV.not Z Z) (wm Z (gN Z (Af N5 Z Z Z (Ac 0 Z)) ?_));obtain⟨d1,b6,F⟩:=C5 E;refine gn Z (fun a=>QV.call en58 (C3 Z a eN) (fun w d=>have h:=Aem w (b6 a) ;h)) ?_;refine gn Z (fun a=>QV.not Z a) (wq Z (Be Z Z Z (fun h=>Fx h)) (wm Z (gN Z (QV.fieldAddr R5 Z Z) (gn Z (fun a=>Cm pl3 Z a (Aq 1 Z Z)) (gN Z (QV.fieldAddr R5 Z Z) (gn Z (fun a=>Cm pl3 Z a (Aq 0 Z Z)) (gn Z (fun a=>QV.neq Z a Z a) (wq Z (Be Z Z Z (fun h=>Fx h)) (wm Z (gN Z (QV.fieldAddr I0 Z Z) (gn Z (fun a=>Cm pl3 Z a (Aq 1 Z Z)) (gn Z (fun a=>QV.eql Z a Z Z) (gn Z (fun a=>QV.move Z a) (gpC Z (fun a=>QV.fieldAddr I0 Z Z) (gpC Z (fun a=>Cm pl3 Z a (Aq 0 Z Z)) (gpC Z (fun a=>QV.eql Z a Z Z) (gn Z (fun a=>A8 Z a Z (fun h=>Aw1 a h)) (wq Z (Be Z Z Z (fun h=>Fx h)) (nt ?_)))))))))))))))))));refine wc Z F (fun X a1=>?_) (fun X G=>?_)
  ·skip
   refine sr (wq Z (QV.build (ps:=[]) (cells:=[i_ 0,i_ 0,i_ 0,i_ 0]) eN Ag) (Ab Z ((ew 2 [i_ 0,i_ 0,i_ 0,i_ 0] Akf Z (wa Z (nt (Bc (tr ?_))))))));obtain rfl:=(Ad a1).symm;exact Db Z Ack Z Z Z (Ac 2 Z) fun w d=>kg d
  refine sk (Al (sr (wa Z (wa Z (nt (Ax (sr (wm Z (wm Z (wq Z (QV.geq Z Z Z Z) (nt ?_)))))))))));obtain⟨c0,n,H⟩:=An G;refine Aj6 (dt [1,2,3,6,8,9,11] [0,1,2,3,4] Z) (fun (g:Int)=>[(10,(true,i_ g))]) (fun g=>[]) (fun g=>c0=.go g) (sb Z) (pk [0,1,2,3,4]) ?_ ?_
  ·skip
   rintro g rfl;refine Ax (sr (wf I0 Z (wl pl3 Z (Aq 1 Z Z) (wq Z (QV.eql Z Z Z Z) (nt ?_)))));obtain⟨c1,o,I⟩:=An H;refine Aj6 (dt [1,2,3,6,8,9,10] [0,1,2,3,4] Z) (fun (f:Int)=>[(11,(true,i_ f))]) (fun f=>[]) (fun f=>c1=.go f) (sb Z) (pk [0,1,2,3,4]) ?_ ?_
   ·skip
    rintro f rfl;refine sr (wf Qx Z (wl Fg Z (Aq 3 Z Z) (wf R5 Z (wl pl3 Z (Aq 1 Z Z) ?_))));obtain⟨z,a2⟩:=cs I;obtain⟨c5,P⟩:=B.lenMap.ix (sz:=1) Ap z;refine wq Z (Ae Fy Z Z Z Z P) (wl pl3 Z (cl 0 (Ah 4 Z p B) P z Z) (have ⟨W,J⟩:=cs a2;wq Z (QV.shlD Z Z Z Z W) (wa Z (nt (Ax (sr (wm Z (wa Z (nt ?_)))))))));obtain⟨R,K,b9,b4⟩:=bl J;refine Dq (dt [1,2,6,8,9,11,12] [0,1,2,3,4] Z) (fun (b:Int)=>[(13,(true,i_ b))]) (fun b=>[]) (fun b m=>Cp (Gt l c tO f) m b=some R) (fun b=>R=.go b) g b9 b4 (sb Z) (pk [0,1,2,3,4]) ?_ ?_
    ·skip
     rintro b rfl;refine Al (sr (wq Z (QV.build (ps:=[]) (cells:=[i_ 0,i_ 0,i_ 0,i_ 0]) eN Ag) (Ab Z ((ew 2 [i_ 0,i_ 0,i_ 0,i_ 0] Akf Z (wa Z (nt (Bc ?_))))))));obtain rfl:=(Ad K).symm;exact Db Z Ack Z Z Z (Ac 2 Z) fun w d=>kg d
    rintro b c4 A;obtain⟨b8,c9,rfl,t,u⟩:=A2 A;unfold Gt at t;refine Ax (sr (wm Z (wm Z (wq Z (QV.leq Z Z Z Z) (nt ?_)))));refine wc Z t (fun Y L=>?_) (fun Y a7=>?_)
    ·skip
     refine sk (Al (Ax (Cr (sr (wq Z (Af N5 Z Z Z (Ac 1 Z)) (wq Z (Af N5 Z Z Z (Ac 0 Z)) (wm Z (wm Z ?_))))))));obtain⟨d2,b7,M⟩:=An L;refine wq Z (QV.call en59 (ea Z) (fun w d=>have h:=Asc w b7 ;h)) ?_;refine nt ?_;refine wc Z M (fun a0 a4=>?_) (fun a0 a5=>?_)
     ·skip
      refine sr (wm Z (wm Z (wm Z (wm Z (wq Z (QV.build (ps:=[(0,.tmp 74),(1,.tmp 75),(2,.tmp 76),(3,.tmp 77)]) (cells:=[i_ c,i_ tO,i_ b,i_ f]) (ea Z) Ag) (Ab Z ((ew 2 [i_ c,i_ tO,i_ b,i_ f] Akf Z (wa Z (nt (Bc (kr (tr (tr (kr (tr (tr ?_)))))))))))))))));obtain rfl:=Dn a4 u;obtain rfl:=(Ad K).symm;exact Db Z Ack Z Z Z (Ac 2 Z) fun w d=>kg d
     refine sk (Bd (Al (Bo (wm Z (have ⟨c53,a6⟩:=cs a5;wq Z (A6 Z Z Z Z c53) (wa Z (Bm ?_)))))));exact Dp (b+1) b8 (A4 a6 u) (Ck _) (sb Z) (pk [0,1,2,3,4])
    refine C1 (te (te (Am ?_)));exact El b (Bh a7 u) (sb Z) (pk [0,1,2,3,4])
   refine Aes Z (fun q=>?_) (fun q=>?_)
   ·skip
    have a8:=Akj q o;clear o;refine Bo (wa Z (Bm ?_));exact El 1 (Ad a8) (sb Z) (pk [0,1,2,3,4])
   have a9:=Akk q o;clear o;refine sk ?_;exact El 0 (Ad a9) (sb Z) (pk [0,1,2,3,4])
  refine Aes Z (fun s=>?_) (fun s=>?_)
  ·skip
   have b0:=Akj s n;clear n;refine Bo (wa Z (Bm ?_));exact El 1 (Ad b0) (sb Z) (pk [0,1,2,3,4])
  have b3:=Akk s n;clear n;refine sk ?_;exact El 0 (Ad b3) (sb Z) (pk [0,1,2,3,4])
 refine WD.two 10 11 1023 2047 3071 Ag Z Z Z Z Ag Ag ?_ ?_
 ·skip
  refine(Ci Ai S8 (fun S=>bp [3,1,2] Z sm (Lh 11 2047 4095 Z Ag Z ((Ci Ai S8 (fun T=>bp [4,2,3] Z sm (Lh 12 4095 8191 Z Ag Z ((ew 1 (Stm.cells (ele l.body c)) S9 Z (bp [4,2,3] Z sm (Lh 13 8191 16383 Z Ag Z ((ew 0 (Stm.cells (ele l.body tO)) S9 Z (bp [4,2,3] Z sm (Abf Ag ?_)))))))))))))));exact Vx S T (sb Z) (pk [0,1,2,3,4])
 refine(Ci Ai S8 (fun U=>bp [3,1,2] Z sm (Lh 10 3071 4095 Z Ag Z ((Ci Ai S8 (fun V=>bp [4,2,3] Z sm (Lh 12 4095 8191 Z Ag Z ((ew 0 (Stm.cells (ele l.body c)) S9 Z (bp [4,2,3] Z sm (Lh 13 8191 16383 Z Ag Z ((ew 1 (Stm.cells (ele l.body tO)) S9 Z (bp [4,2,3] Z sm (Abf Ag ?_)))))))))))))));exact Vx V U (sb Z) (pk [1,0,2,3,4])
theorem Qq {c7 c6 c8:Ak}{l:Lp}{t:Tgt}{r:List Edg×Int}{s:Aj} (K:Fa l t=some r) (W:Arr s c7 1 (l.logs.map Ar)) (v:Arr s c6 9 (l.body.map Stm.cells)) (Y:Arr s c8 1 (l.outs.map Ar)) (M:Nat→Prop) (w:Aj) (i:Base M s w) (f7:Own M w [] w):Calls Tryz.prog 16 #[.agg #[c7,c6,c8],.agg #[.int .i64 t.u0,.int .i64 t.u1,.int .i64 t.u2,.int .i64 t.w0,.int .i64 t.w1,.int .i64 t.w2,.int .i64 t.regs]] w (fun e w'=>∃ X:Ak×Aj,e=.returned (.tuple #[X.1,.int .i64 r.2])∧Own M w (kn M w.heap.size s X.2::[]) w'∧Arr X.2 X.1 4 (r.1.map Edg.cells)):=by
 unfold Fa at K;refine cw 80 Tryz.func16 Z (sr (Ab Z ((A3 Ai Z Z (fun b1=>Ab Z ((A3 Ai Z Z (fun b2=>wa Z (wa Z (nt (Ax (sr (wq Z (Af Fz Z Z Z (Ac 1 Z)) ?_))))))))))))) (Aw i f7);obtain⟨j1,g0,a7⟩:=An K;refine wq Z (QV.call Auq (ea Z) (fun w d=>have h:=P0 w g0 ((Ah 2 Z i W) w d) ((Ah 2 Z i v) w d) ((Ah 2 Z i Y) w d);h)) ?_;refine wq Z (QV.not Z Z) (wm Z (gN Z (Af Hv Z Z Z (Ac 0 Z)) ?_));obtain⟨j2,g3,b0⟩:=C5 a7;refine gn Z (fun A=>QV.call Aw0 (C3 Z A eN) (fun w d=>have h:=Pc w (g3 A) ;h)) ?_;refine gn Z (fun A=>QV.not Z A) (wq Z (Be Z Z Z (fun h=>Fx h)) (nt ?_));refine wc Z b0 (fun d7 e0=>?_) (fun d7 a0=>?_)
 ·skip
  refine sr (wa Z (wa Z (nt (Bc (tr ?_)))));obtain rfl:=(Ad e0).symm;refine Ei Z Z Z (fun w d=>?_);exact⟨(.slice none 0 0,s),Z,d.pick [2] Ai,Gd⟩
 refine sk (Al (sr (wa Z (nt (Ax (sr (wf Dj Z (wl J1 Z (Aq 1 Z Z) (wq Z (A5 Tryz.underlying45 Z Z v.lenMap) (wm Z (nt (Gk (fun w d=>d.vecNil (E:=87) (sz:=4) (enc:=Edg.cells)) ?_))))))))))));obtain⟨c3,a1,g7,f2⟩:=bl a0;refine K1 (dt [2,3,23,24] [1,2] Z) (fun (k:List Edg) (b:Int) (o:Ak) (u:Aj)=>[(6,(true,o)),(25,(true,i_ b))]) (fun k b o u=>[vec o 87 4 (List.map Edg.cells k),kn M w.heap.size s u]) (fun k b o u m=>Cp (Mw l t) m (k,b)=some c3∧SliceLen o k.length∧Le s u) (fun k b o u=>c3=.go (k,b)∧SliceLen o k.length∧Le s u) [] 0 (.slice none 0 0) s g7 ⟨f2,Hg,(Jy _)⟩ (sb Z) (pk [0,3,1,2]) ?_ ?_
 ·skip
  rintro k b o u ⟨rfl,B,n⟩;refine Al (sr (wm Z (Ab Z ?_)));obtain⟨i9,f8,a2⟩:=An a1;refine(cr [1,0,2,3] i en31 Z (Asi f8 B) Z (fun h2 d8 h8=>ns (wm Z (Ab Z ?_))));obtain⟨j0,f9,e4⟩:=An a2;refine(cq i en33 Z (M4 f9 d8) Z (fun N d9 h9=>wa Z (wa Z (nt (Bc ?_)))));obtain rfl:=(Ad e4).symm;refine Ei Z Z Z (fun w d=>?_);exact⟨(N.1,N.2),Z,d.pick [0] Ai,d9⟩
 rintro k b o u i0 ⟨T,B,n⟩;obtain⟨g5,i6,rfl,F,b7⟩:=A2 T;unfold Mw at F;simp only at F;refine sr (wq Z (QV.lss Z Z Z Z) (nt (Ax ?_)));refine wc Z F (fun d3 a3=>?_) (fun d3 e3=>?_)
 ·skip
  refine sk (Al (Ax (Cr (sr (wm Z ?_)))));obtain⟨P,a4⟩:=cs a3;obtain⟨i3,b9⟩:=(v.le n).lenMap.ix (sz:=9) Ap P;refine wq Z (Ae Wq Z Z Z Z b9) (wq Z (Af N5 Z Z Z (el (Ah 1 Z i (v.le n)) b9 P)) (Ab Z ((Ci Ai S8 (fun h4=>wa Z (Ab Z ((ew 0 (Stm.cells (ele l.body b)) S9 Z (nt (Ax (sr (wq Z (Af N5 Z Z Z (Ac 0 Z)) (Ab Z ?_)))))))))))));obtain⟨g,g1,a5⟩:=An a4;refine(cr [2,0,1,3,4] i Aqb Z (L4 g1) Z (fun c9 I x=>wq Z (A5 Tryz.underlying83 Z Z I.lenMap) (wm Z (nt ?_))));obtain⟨c4,a6,g8,f3⟩:=bl a5;refine F9 (dt [2,3,7,23,24,25,31,32] [0,1,3,4] Z) (fun (f:List Edg) (a:Int) (p:Ak)=>[(6,(true,p)),(33,(true,i_ a))]) (fun f a p=>[vec p 87 4 (List.map Edg.cells f)]) (fun f a p m=>Cp (Mv l t b g) m (f,a)=some c4∧SliceLen p f.length) (fun f a p=>c4=.go (f,a)∧SliceLen p f.length) k 0 o g8 ⟨f3,B⟩ (sb Z) (pk [2,0,1,3,4]) ?_ ?_
  ·skip
   rintro f a p ⟨rfl,J⟩;refine Al (sr (wf Dj Z (wl J1 Z (Aq 4 Z Z) (wq Z (A5 Tryz.underlying45 Z Z (v.le (n.trans x)).lenMap) (wm Z (nt ?_))))));obtain⟨c5,e5,g9,f4⟩:=bl a6;refine F9 (dt [2,3,7,23,24,25,58] [1,2,3,4] Z) (fun (c:List Edg) (q:Int) (j:Ak)=>[(6,(true,j)),(59,(true,i_ q))]) (fun c q j=>[vec j 87 4 (List.map Edg.cells c)]) (fun c q j m=>Cp (Mu l b) m (c,q)=some c5∧SliceLen j c.length) (fun c q j=>c5=.go (c,q)∧SliceLen j c.length) f 0 p g9 ⟨f4,J⟩ (sb Z) (pk [0,1,2,3,4]) ?_ ?_
   ·skip
    rintro c q j ⟨rfl,C⟩;refine Bd (Al (Bo (have ⟨c53,e6⟩:=cs e5;wq Z (A6 Z Z Z Z c53) (wm Z (Bm ?_)))));exact Gh c (b+1) j c9.2 g5 ⟨A4 e6 b7,C,(n.trans x)⟩ (Ck _) (sb Z) (pk [0,1,3,4])
   rintro c q j i1 ⟨U,C⟩;obtain⟨c2,i7,rfl,G,L⟩:=A2 U;unfold Mu at G;simp only at G;refine sr (wq Z (QV.lss Z Z Z Z) (nt (Ax ?_)));refine wc Z G (fun d4 a8=>?_) (fun d4 f1=>?_)
   ·skip
    refine sk (Al (Ax (Cr (sr (wm Z (wa Z (ns (wq Z (Af Fz Z Z Z (Ac 4 Z)) (wm Z (wm Z ?_))))))))));obtain⟨y,g2,a9⟩:=An a8;refine wq Z (QV.call en30 (ea Z) (fun w d=>have h:=Am8 w g2 ((Ah 1 Z i (W.le (n.trans x))) w d) ((Ah 1 Z i (v.le (n.trans x))) w d) ((Ah 1 Z i (Y.le (n.trans x))) w d);h)) ?_;refine wm Z (wq Z (Bp Z Z Z) (wq Z (Bp Z Z Z) (Ab Z ((Ci Ai Ap3 (fun h5=>Ab Z ((ew 0 (Edg.cells y.1) Akf Z (wa Z (ns (wm Z (nt ?_))))))))))));refine wc Z a9 (fun d5 e7=>?_) (fun d5 e9=>?_)
    ·skip
     refine Bo (wm Z (wq Z (Af Ack Z Z Z (Ac 0 Z)) (Ab Z ((D4 Ai A3p Ai Ai (ps:=[(0,.tmp 71)]) (cells:=(Edg.cells y.1)) (ea Z) Ag (fun h6=>Ab Z (have ⟨Q,d1,e8⟩:=cs2 e7;(B0 (enc:=Edg.cells) (xs:=c) (ys:=[y.1]) ((c++[y.1])) 2 Ai ve53 Z Z Z Z Z (Bi 0 (rows:=[y.1].map Edg.cells) Z Z (B3 Ady)) Ady (Asp _) Z Q.1 Q.2 (fun h1 f6=>wa Z (Bm (Bd (Al (Bo (wq Z (A6 Z Z Z Z d1) (wm Z (Bm ?_))))))))))))))));exact Ed (c++[y.1]) (q+1) h1 c2 ⟨A4 e8 L,f6⟩ (Ck _) (sb Z) (pk [2,3,4,5,6])
    refine sk (Bd (Al (Bo (have ⟨d2,f0⟩:=cs e9;wq Z (A6 Z Z Z Z d2) (wm Z (Bm ?_))))));exact Ed c (q+1) j c2 ⟨A4 f0 L,C⟩ (Ck _) (sb Z) (pk [1,2,3,4,5])
   refine C1 (te (te (Am ?_)));exact J2 c q j ⟨Bh f1 L,C⟩ (sb Z) (pk [0,1,2,3,4])
  rintro f a p i2 ⟨V,J⟩;obtain⟨g6,i8,rfl,H,b8⟩:=A2 V;unfold Mv at H;simp only at H;refine sr (wq Z (QV.lss Z Z Z Z) (nt (Ax ?_)));refine wc Z H (fun d6 b3=>?_) (fun d6 e2=>?_)
  ·skip
   refine sk (Al (Ax (Cr (sr ?_))));obtain⟨R,b4⟩:=cs b3;obtain⟨i4,c0⟩:=I.lenMap.ix (sz:=2) Ap R;refine wq Z (Ae Auj Z Z Z Z c0) (wq Z (Af N6 Z Z Z (el (Ah 1 Z i I) c0 R)) (Ab Z ((Ci Ai Ake (fun h7=>Ab Z ((ew 0 [i_ ((ele g a).st),i_ ((ele g a).bk)] Zw Z (nt (dp 19 [2,0,3,4,5] Z (zm 0 Z Z (zf 1 R6 Z Z (zl 2 pl3 Z Z (Aq 1 Z Z) (zm 3 Z Z (zf 4 Qw Z Z (zl 5 pl3 Z Z (Aq 1 Z Z) (wz 6 Z Z (Af Hv Z Z Z (Ac 3 Z)) (zf 7 Dj Z Z (zl 8 J1 Z Z (Aq 4 Z Z) (zf 9 R6 Z Z (zl 10 pl3 Z Z (Aq 1 Z Z) ?_))))))))))))))))))));obtain⟨S,b5⟩:=cs b4;obtain⟨i5,c1⟩:=(v.le (n.trans x)).lenMap.ix (sz:=9) Ap S;refine wz 11 Z Z (Ae Wq Z Z Z Z c1) (zf 12 I0 Z Z (zl 13 pl3 Z Z (cl 0 (Ah 0 Z i (v.le (n.trans x))) c1 S Z) ?_));obtain⟨z,g4,b6⟩:=An b5;refine wz 14 Z Z (QV.call Awy (ea Z) (fun w d=>have h:=Nt w g4 ;h)) ?_;refine wz 15 Z Z (QV.build (ps:=[(0,.tmp 39),(1,.tmp 40),(2,.tmp 42),(3,.tmp 51)]) (cells:=[i_ ((ele g a).st),i_ b,i_ ((ele g a).bk),i_ z]) (ea Z) Ag) (Dd 16 Z Ag Z ((D4 Ai A3p Ai Ai (ps:=[(0,.tmp 52)]) (cells:=[i_ ((ele g a).st),i_ b,i_ ((ele g a).bk),i_ z]) (ea Z) Ag (fun h3=>bp [3,0,1,4,5,6] Z (pk [0,2,3,4,5]) (Dd 17 Z Ag Z ?_)))));obtain⟨O,d0,e1⟩:=cs2 b6;refine(B0 (enc:=Edg.cells) (xs:=f) (ys:=[(Edg.mk ((ele g a).st) b ((ele g a).bk) z)]) ((f++[(Edg.mk ((ele g a).st) b ((ele g a).bk) z)])) 2 Ai ve53 Z Z Z Z Z (Bi 0 (rows:=[(Edg.mk ((ele g a).st) b ((ele g a).bk) z)].map Edg.cells) Z Z (B3 Ady)) Ady (Asp _) Z O.1 O.2 (fun h0 f5=>bp [3,0,1,2,4,5,6] Z (pk [0,1,2,4,5,6]) (wz 18 Z Z (QV.assign Z Z) (Em Ag (Bd (Al (Bo (wq Z (A6 Z Z Z Z d0) (wm Z (Bm ?_))))))))));exact Ed (f++[(Edg.mk ((ele g a).st) b ((ele g a).bk) z)]) (a+1) h0 g6 ⟨A4 e1 b8,f5⟩ (Ck _) (sb Z) (pk [2,3,4,5,6])
  refine C1 (te (te (Am ?_)));exact J2 f a p ⟨Bh e2 b8,J⟩ (sb Z) (pk [0,1,2,3,4])
 refine C1 (te (te (Am ?_)));exact N2 k b o u ⟨Bh e3 b7,B,n⟩ (sb Z) (pk [0,1,2,3])
end Go.Proofs.YtaimbkndebaaiaaGreatDoor
end
section
namespace Go.Proofs.YtaimbkndebaaiaaGreatDoor
open Go.Rd
open TLib TLibR TLibA TSay TNum0 TNum TLoop TPar TStable TMach TMach2 TKern TClone TNbr TSeq TKRun TKeep TOrd TCpt TDep
namespace TSched1
theorem Tb:Rs Tryz.prog 96 2:=⟨_,Tryz.underlying96,rfl,Ag⟩
theorem Awz:Go.Rd.Enters Tryz.prog 16:=eT Tryz.func16
theorem en66:Go.Rd.Enters Tryz.prog 66:=eT Tryz.func66
theorem N9:B8 Tryz.prog 96 0 0:=fT 0 Tryz.underlying96
theorem Nc:B8 Tryz.prog 96 1 1:=fT 0 Tryz.underlying96
end TSched1
open TSched1
theorem Ab8 {x v y z a9:Ak}{l:Lp}{t:Tgt}{p:Pln}{o:List Edg}{r:Bool} (w:Aj) (C:Kk l t p o=some r) (e4:Arr w x 1 (l.logs.map Ar)) (P:Arr w v 9 (l.body.map Stm.cells)) (e5:Arr w y 1 (l.outs.map Ar)) (j:Arr w z 1 (p.times.map Ar)) (B:Arr w a9 4 (o.map Edg.cells)):Calls Tryz.prog 66 #[.agg #[x,v,y],.agg #[.int .i64 t.u0,.int .i64 t.u1,.int .i64 t.u2,.int .i64 t.w0,.int .i64 t.w1,.int .i64 t.w2,.int .i64 t.regs],.agg #[.int .i64 p.pace,z],a9] w (fun e w'=>e=.returned (.bool r)∧Grow w w'):=by
 unfold Kk at C;refine have n:=D2 (w:=w);cw 87 Tryz.func66 Z (sr (Ab Z ((A3 Ai Z Z (fun b1=>Ab Z ((A3 Ai Z Z (fun b2=>Ab Z ((A3 Ai Z Z (fun G=>wa Z (ns (Ab Z ((Ang (ke:=kP) (ve:=Dz) Ai (fun A=>wa Z (nt (Ax (sr (wf Nc Z (wl Fg Z (Aq 1 Z Z) (wq Z (A5 Tryz.underlying34 Z Z j.lenMap) (wm Z (nt ?_)))))))))))))))))))))))) (Aw n (D3 w));obtain⟨a8,s,e1,d7⟩:=bl C;refine Cj (dt [3,4,5,6,9,17,18] [1,2,3,4] Z) (fun (c:List ((Int×Int)×Int)) (a:Int)=>[(19,(true,i_ a))]) (fun c a=>[Wn A kP Dz c]) (fun c a m=>Cp (Jr l t p) m (c,a)=some a8) (fun c a=>a8=.go (c,a)) ([]:List ((Int×Int)×Int)) 0 e1 d7 (sb Z) (pk [0,1,2,3,4]) ?_ ?_
 ·skip
  rintro c a rfl;refine Al (Ax (sr (wm Z (wq Z (A5 Tryz.underlying53 Z Z B.lenMap) (wm Z (nt ?_))))));obtain⟨a7,Q,e0,d6⟩:=bl s;refine Dq (dt [6,58,59] [0,1,2,3,4] Z) (fun (g:Int)=>[(60,(true,i_ g))]) (fun g=>[]) (fun g m=>Cp (Jq p o) m g=some a7) (fun g=>a7=.go g) 0 e0 d6 (sb Z) (pk [0,1,2,3,4]) ?_ ?_
  ·skip
   rintro g rfl;refine Al (sr (wa Z (nt (Bc ?_))));obtain rfl:=(Ad Q).symm;exact Az Z Z fun w d=>kg d
  rintro g m15 N;obtain⟨m17,f2,rfl,E,F⟩:=A2 N;unfold Jq at E;refine sr (wq Z (QV.lss Z Z Z Z) (nt (Ax ?_)));refine wc Z E (fun b9 R=>?_) (fun b9 c9=>?_)
  ·skip
   refine sk (Al (Ax (Cr (sr ?_))));obtain⟨I,T⟩:=cs R;obtain⟨e7,a2⟩:=B.lenMap.ix (sz:=4) Ap I;refine wq Z (Ae Aaw Z Z Z Z a2) (wq Z (Af Ack Z Z Z (el (Ah 4 Z n B) a2 I)) (Ab Z ((Ci Ai Ap3 (fun e3=>Ab Z ((ew 0 (Edg.cells (ele o g)) Akf Z (nt (Ax (dp 22 [5,0,1,2,3,4] Z (zf 0 Nc Z Z (zl 1 Fg Z Z (Aq 3 Z Z) (zf 2 Aaf Z Z (zl 3 pl3 Z Z (Aq 1 Z Z) ?_))))))))))))));obtain⟨J,U⟩:=cs T;obtain⟨e8,a3⟩:=j.lenMap.ix (sz:=1) Ap J;refine wz 4 Z Z (Ae Fy Z Z Z Z a3) (zl 5 pl3 Z Z (cl 0 (Ah 0 Z n j) a3 J Z) (zf 6 Ac6 Z Z (zl 7 pl3 Z Z (Aq 1 Z Z) (zf 8 N9 Z Z (zl 9 pl3 Z Z (Aq 3 Z Z) ?_)))));obtain⟨b0,b3,K,c5⟩:=cs3 U;refine wz 10 Z Z (QV.mul Z Z Z Z b0) (wz 11 Z Z (A6 Z Z Z Z b3) (zf 12 Nc Z Z (zl 13 Fg Z Z (Aq 3 Z Z) (zf 14 Xf Z Z (zl 15 pl3 Z Z (Aq 1 Z Z) ?_)))));obtain⟨e9,a4⟩:=j.lenMap.ix (sz:=1) Ap K;refine wz 16 Z Z (Ae Fy Z Z Z Z a4) (zl 17 pl3 Z Z (cl 0 (Ah 0 Z n j) a4 K Z) (zf 18 Ac5 Z Z (zl 19 pl3 Z Z (Aq 1 Z Z) (have ⟨b4,V⟩:=cs c5;wz 20 Z Z (A6 Z Z Z Z b4) (wz 21 Z Z (QV.lss Z Z Z Z) (Em Ag (Al ?_)))))));refine wc Z V (fun c0 c6=>?_) (fun c0 c7=>?_)
   ·skip
    refine sr (wa Z (nt (Bc (kr (tr (tr (kr (tr (tr ?_)))))))));obtain rfl:=Dn c6 F;obtain rfl:=(Ad Q).symm;exact Az Z Z fun w d=>kg d
   refine sk (Bd (Al (Bo (have ⟨b5,c8⟩:=cs c7;wq Z (A6 Z Z Z Z b5) (wm Z (Bm ?_))))));exact Dp (g+1) m17 (A4 c8 F) (Ck _) (sb Z) (pk [1,2,3,4,5])
  refine C1 (te (te (Am ?_)));exact El g (Bh c9 F) (sb Z) (pk [0,1,2,3,4])
 rintro c a e6 O;obtain⟨d9,f3,rfl,q,u⟩:=A2 O;unfold Jr at q;simp only at q;refine sr (wq Z (QV.lss Z Z Z Z) (nt (Ax ?_)));refine wc Z q (fun c1 W=>?_) (fun c1 d5=>?_)
 ·skip
  refine sk (Al (Ax (Cr (sr (wm Z ?_)))));obtain⟨L,X⟩:=cs W;obtain⟨f0,a5⟩:=j.lenMap.ix (sz:=1) Ap L;refine wq Z (Ae Fy Z Z Z Z a5) (wl pl3 Z (cl 0 (Ah 4 Z n j) a5 L Z) (wa Z (wa Z (nt (Ax (sr (wm Z (wq Z (QV.lss Z Z Z Z) (wm Z (gN Z (QV.move Z Z) (gn Z (fun c4=>QV.gtr Z c4 Z Z) (wq Z (Be Z Z Z (fun h=>Fx h)) (nt ?_)))))))))))));refine wc Z X (fun c2 d0=>?_) (fun c2 Y=>?_)
  ·skip
   refine sr (wa Z (nt (Bc (tr (kr (tr (tr (kr (tr (tr ?_))))))))));obtain rfl:=Dn d0 u;obtain rfl:=(Ad s).symm;exact Az Z Z fun w d=>kg d
  refine sk (Al (Ax (dp 14 [4,0,1,2,3] Z (zm 0 Z Z (zf 1 N9 Z Z (zl 2 pl3 Z Z (Aq 2 Z Z) ?_))))));obtain⟨b6,M,a0⟩:=cs2 Y;refine wz 3 Z Z (QV.rem Z Z Z Z b6) (zf 4 Dj Z Z (zl 5 J1 Z Z (Aq 4 Z Z) (zm 6 Z Z ?_)));obtain⟨f1,a6⟩:=P.lenMap.ix (sz:=9) Ap M;refine wz 7 Z Z (Ae Wq Z Z Z Z a6) (zf 8 I0 Z Z (zl 9 pl3 Z Z (cl 0 (Ah 0 Z n P) a6 M Z) ?_));obtain⟨f,d8,d1⟩:=An a0;refine wz 10 Z Z (QV.call Ah8 (ea Z) (fun w d=>have h:=Ho w d8 ;h)) ?_;refine wz 11 Z Z (QV.build (ps:=[(0,.tmp 33),(1,.tmp 40)]) (cells:=[i_ (Int.tmod (ele p.times a) p.pace),i_ f]) (ea Z) Ag) (Dd 12 Z Ag Z ((Ci Ai A3l (fun H=>bp [5,0,1,2,3,4] Z (pk [0,2,3,4,5]) (WD.l 13 Z Ag Z ((ew 0 [i_ (Int.tmod (ele p.times a) p.pace),i_ f] A3q Z (Al (Ax (Anz (m:=7) (S:=Own noM w [kn noM w.heap.size w w,blk H [i_ (Int.tmod (ele p.times a) p.pace),i_ f] 196,Akh A kP Dz 0 c,blk G [i_ p.pace,z] 96,blk b2 t.cells 27,blk b1 [x,v,y] 47]) Ag Ag (fun w d=>Yb 2 0 Z (d.pick [5,0,1,2,3,4] Ai)) (zm 0 Z Z (wz 1 Z Z (Af Asz Z Z Z (Ac 1 Z)) (wz 2 Z Z (Aap (k:=((Int.tmod (ele p.times a) p.pace),f)) 2 0 Abb Abc Rc Z Z Z Z Z) (have ⟨b7,c76,a1⟩:=cs2 d1;wz 3 Z Z (A6 Z Z Z Z b7) (Dd 4 Z Ag Z ((EV.mapEntry Ai ((Int.tmod (ele p.times a) p.pace),f) 1 0 Abb Abc Rc Z Z Z Z Z (fun e2=>WD.b (H':=[kn noM w.heap.size w w,blk H [i_ (Int.tmod (ele p.times a) p.pace),i_ f] 196,Akh A kP Dz 0 c,blk G [i_ p.pace,z] 96,blk b2 t.cells 27,blk b1 [x,v,y] 47]) (fun w d=>Ya 2 Z (d.pick [5,0,1,2,3,4] Ai)) (pk [0,1,2,3,4,5]) (wz 5 Z Z (Bp Z Z Z) (WD.l 6 Z Ag Z ((EV.entryStore (ke:=kP) (ve:=Dz) ((Int.tmod (ele p.times a) p.pace),f) 1 ((Fp c ((Int.tmod (ele p.times a) p.pace),f) 0)+1) e2 Z Z Z Z Z Z Z (Al (Ax (dp 9 [5,0,1,2,3,4] Z (zm 0 Z Z (wz 1 Z Z (Af Asz Z Z Z (Ac 1 Z)) (wz 2 Z Z (QV.lookup (k:=((Int.tmod (ele p.times a) p.pace),f)) 2 0 Abb Abc Rc Z Z Z Z Z) (wz 3 Z Z (Cu A4j Z Z Z Z Ai Ai) (zl 4 pl3 Z Z (Aq 1 Z Z) (zf 5 Aah Z Z (wz 6 Z Z (Cu Up Z Z Z Z c76.1 c76.2) (zl 7 pl3 Z Z (Er 4 Z (Ia (off:=0) (i:=f) c76.1 c76.2 Z Z Z) (Hi _ _ _)) (wz 8 Z Z (QV.gtr Z Z Z Z) ?_))))))))))))))))))))))))))))))))));refine Em Ag (Al ?_);refine wc Z a1 (fun c3 d2=>?_) (fun c3 d3=>?_)
  ·skip
   refine sr (wa Z (nt (Bc (kr (tr (tr (kr (tr (tr ?_)))))))));obtain rfl:=Dn d2 u;obtain rfl:=(Ad s).symm;exact Az Z Z fun w d=>kg d
  refine sk (Bd (Al (Bo (have ⟨b8,d4⟩:=cs d3;wq Z (A6 Z Z Z Z b8) (wm Z (Bm ?_))))));exact B1 (N4 c ((Int.tmod (ele p.times a) p.pace),f) ((Fp c ((Int.tmod (ele p.times a) p.pace),f) 0)+1)) (a+1) d9 (A4 d4 u) (Ck _) (sb Z) (pk [1,2,3,4,5])
 refine C1 (te (te (Am ?_)));exact Ct c a (Bh d5 u) (sb Z) (pk [0,1,2,3,4])
theorem Zq {o n q s:Ak}{l:Lp}{t:Tgt}{p:Pln}{r:Bool} (w:Aj) (g:K3 l t p=some r) (i:Arr w o 1 (l.logs.map Ar)) (f:Arr w n 9 (l.body.map Stm.cells)) (j:Arr w q 1 (l.outs.map Ar)) (k:Arr w s 1 (p.times.map Ar)):Calls Tryz.prog 109 #[.agg #[o,n,q],.agg #[.int .i64 t.u0,.int .i64 t.u1,.int .i64 t.u2,.int .i64 t.w0,.int .i64 t.w1,.int .i64 t.w2,.int .i64 t.regs],.agg #[.int .i64 p.pace,s]] w (fun e w'=>e=.returned (.bool r)∧Grow w w'):=by
 unfold K3 at g;refine have b:=D2 (w:=w);cw 43 Tryz.func109 Z (sr (Ab Z ((A3 Ai Z Z (fun b1=>Ab Z ((A3 Ai Z Z (fun b2=>Ab Z ((A3 Ai Z Z (fun A=>wa Z (ns (wq Z (Af Fz Z Z Z (Ac 2 Z)) (wq Z (Af Hv Z Z Z (Ac 1 Z)) (Ab Z ?_))))))))))))))) (Aw b (D3 w));obtain⟨B,x,m⟩:=An g;refine(cr [3,0,1,2] b Awz Z (Qq x i f j) Z (fun z u d=>wm Z (wq Z (Bp Z Z Z) (wq Z (Bp Z Z Z) (wa Z (wa Z (ns (wm Z (wq Z (QV.eql Z Z Z Z) (wm Z (gP Z (QV.fieldAddr N9 Z Z) (gp Z (fun a=>Cm pl3 Z a (Aq 1 Z Z)) (gp Z (fun a=>QV.geq Z a Z Z) (wq Z (A8 Z Z Z (fun h=>h)) (wm Z (gP Z (QV.fieldAddr N9 Z Z) (gp Z (fun a=>Cm pl3 Z a (Aq 1 Z Z)) (gp Z (fun a=>QV.leq Z a Z Z) (wq Z (A8 Z Z Z (fun h=>h)) (wm Z (gP Z (QV.fieldAddr Nc Z Z) (gp Z (fun a=>Cm Fg Z a (Aq 1 Z Z)) (gp Z (fun a=>A5 Tryz.underlying34 Z a (k.le d).lenMap) (gP Z (QV.fieldAddr Dj Z Z) (gp Z (fun a=>Cm J1 Z a (Aq 3 Z Z)) (gp Z (fun a=>A5 Tryz.underlying45 Z a (f.le d).lenMap) (gp Z (fun a=>QV.eql Z a Z a) (wq Z (A8 Z Z Z (fun h=>h)) (wm Z (gP Z (Af Fz Z Z Z (Ac 3 Z)) ?_))))))))))))))))))))))))))))));refine gP Z (Af Hv Z Z Z (Ac 2 Z)) (gP Z (Af Tb Z Z Z (Ac 1 Z)) (gP Z (QV.move Z Z) ?_));obtain⟨C,y,v⟩:=C5 m;refine gp Z (fun a=>QV.call en66 (C3 Z a (C3 Z a (C3 Z a (C3 Z a eN)))) (fun w c=>have h:=Ab8 w (y a) ((Ah 0 Z b (i.le d)) w c) ((Ah 0 Z b (f.le d)) w c) ((Ah 0 Z b (j.le d)) w c) ((Ah 0 Z b (k.le d)) w c) ((Ah 0 Z b u) w c);h)) ?_;refine wq Z (A8 Z Z Z (fun h=>h)) (wa Z (nt (Bc ?_)));obtain rfl:=(Ad v).symm;exact Az Z Z fun w c=>kg c
end Go.Proofs.YtaimbkndebaaiaaGreatDoor
end