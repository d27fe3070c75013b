/- Texts for the law, 7. -/
import Derived.Test.YtaimbkndebaaiaaGreatDoorZLdriveTells6
import Derived.Test.YtaimbkndebaaiaaGreatDoorProg
import Derived.KernelRfl
import Derived.Shelf.SlSortCmp.NoneTotal
set_option linter.unusedVariables false
set_option linter.unusedSimpArgs false
set_option maxRecDepth 8000
set_option linter.defProp false
open Go renaming World→Ak,Value→Al
open Decidable renaming decide→Ap
open Bool renaming false→Az
open Go.Value renaming cells→Ea
section
namespace Go.Proofs.YtaimbkndebaaiaaGreatDoor
open Go.Rd
open TLib TLibR TLibA TSay TNum0 TNum TLoop TPar TStable TMach
namespace TMach2
theorem Abr:Sg Tryz.prog 64 10:=⟨_,Tryz.underlying64,rfl,Ag⟩
theorem Ax9:Go.Rd.Enters Tryz.prog 114:=eT Tryz.func114
theorem A4z:Go.Rd.Enters Tryz.prog 116:=eT Tryz.func116
theorem Agn:Go.Rd.Enters Tryz.prog 122:=eT Tryz.func122
theorem A4x:Go.Rd.Enters Tryz.prog 123:=eT Tryz.func123
theorem en124:Go.Rd.Enters Tryz.prog 124:=eT Tryz.func124
theorem en81:Go.Rd.Enters Tryz.prog 81:=eT Tryz.func81
theorem Aui:Cb Tryz.prog 163 1 7:=fT 2 Tryz.underlying163
theorem Anb:Cb Tryz.prog 163 3 11:=fT 0 Tryz.underlying163
theorem A3f:Cb Tryz.prog 163 4 12:=fT 0 Tryz.underlying163
theorem Uf:Cb Tryz.prog 60 0 0:=fT 0 Tryz.underlying60
theorem Oq:Cb Tryz.prog 60 2 2:=fT 0 Tryz.underlying60
theorem Aa8:Cb Tryz.prog 64 0 0:=fT 0 Tryz.underlying64
theorem Ue:Cb Tryz.prog 64 1 1:=fT 0 Tryz.underlying64
theorem Ud:Cb Tryz.prog 64 2 2:=fT 0 Tryz.underlying64
theorem Uc:Cb Tryz.prog 64 3 3:=fT 0 Tryz.underlying64
theorem Ami:Cb Tryz.prog 64 4 4:=fT 0 Tryz.underlying64
theorem Amh:Cb Tryz.prog 64 5 5:=fT 0 Tryz.underlying64
theorem Ay7:Cb Tryz.prog 64 6 6:=fT 0 Tryz.underlying64
theorem Ay6:Cb Tryz.prog 64 7 7:=fT 0 Tryz.underlying64
theorem Ay5:Cb Tryz.prog 64 8 8:=fT 0 Tryz.underlying64
theorem Ay4:Cb Tryz.prog 64 9 9:=fT 0 Tryz.underlying64
theorem pl1:N3 Tryz.prog 1:=⟨_,Tryz.underlying1,rfl⟩
theorem Ja:N3 Tryz.prog 159:=⟨_,Tryz.underlying159,rfl⟩
theorem Abp:N3 Tryz.prog 58:=⟨_,Tryz.underlying58,rfl⟩
theorem sl209:Je Tryz.prog 209 1 1:=⟨Tryz.underlying209,Ag⟩
theorem An0:Je Tryz.prog 58 64 10:=⟨Tryz.underlying58,Ag⟩
theorem Aqt:Dt Tryz.prog 64 10:=by unfold Dt;kernel_rfl
theorem Ahe:Nx Tryz.prog 161 213 3 [.int .i64 0,.int .i64 0,.int .i64 0]:=⟨Tryz.underlying161,Ag⟩
theorem A5t:Nx Tryz.prog 209 1 1 [.nilFunc]:=⟨Tryz.underlying209,Ag⟩
theorem An9:Xj Tryz.prog 161 213 3 24:=⟨Tryz.underlying161,Ag,Ah⟩
theorem ve209:Xj Tryz.prog 209 1 1 8:=⟨Tryz.underlying209,Ag,Ah⟩
theorem ze3:ZeroT Tryz.prog 3 [.int .i64 0]:=by unfold ZeroT;kernel_rfl
theorem Aqs:ZeroT Tryz.prog 64 [.int .i64 0,.int .i64 0,.int .i64 0,.int .i64 0,.int .i64 0,.int .i64 0,.int .i64 0,.int .i64 0,.int .i64 0,.int .i64 0]:=by unfold ZeroT;kernel_rfl
end TMach2
open TMach2
theorem P8 {v i f:Al}{k:List Al}{g:Al}{p:Nat}{c:Tgt}{s t:Int}{F:List Opr}{m:List Int}{d:List (List Int)}{u:Int}{l:List Due}{o:Opr}{G:Int}{r:(Int×Int)}{j:Ak} (z:Es c s t F m d u l o G=some r) (R:Arr j v 10 (F.map Opr.cells)) (T:SliceLen i m.length) (H:SliceLen f d.length) (y:GL k d) (S:SliceLen g l.length) (M:Nat→Prop) (w:Ak) (I:Base M j w) (N:Own M w [blk p [.int .i64 c.u0,.int .i64 c.u1,.int .i64 c.u2,.int .i64 c.w0,.int .i64 c.w1,.int .i64 c.w2,.int .i64 c.regs,.int .i64 s,.int .i64 t,v,i,f,.int .i64 u,g] 163,vec i 2 1 (List.map Ar m),Jb f k 43 2 d,Fy g 213 3 (List.map Due.cells l)] w):Calls Tryz.prog 123 #[.pointer (some (⟨p,0,none⟩)),.agg #[.int .i64 o.slot,.int .i64 o.stage,.int .i64 o.op,.int .i64 o.dest,.int .i64 o.a,.int .i64 o.b,.int .i64 o.ar,.int .i64 o.sp,.int .i64 o.pl,.int .i64 o.n],.int .i64 G] w (fun e w'=>∃ X:Addr×Ak,e=.returned (.pointer (some X.1))∧Own M w (kn M w.heap.size j X.2::[blk p [.int .i64 c.u0,.int .i64 c.u1,.int .i64 c.u2,.int .i64 c.w0,.int .i64 c.w1,.int .i64 c.w2,.int .i64 c.regs,.int .i64 s,.int .i64 t,v,i,f,.int .i64 u,g] 163,vec i 2 1 (List.map Ar m),Jb f k 43 2 d,Fy g 213 3 (List.map Due.cells l)]) w'∧IX r.1 (ln d)∧Lw (hat k r.1) r.2 1 X.1∧IX r.2 (ln (ele d r.1))):=by
 unfold Es at z;refine cw 29 Tryz.func123 Z (sr (Ab Z ((A4 Ah Z Z (fun b1=>wa Z (nt (Au (dp 9 [1,0,2,3,4,5] Z (zm 0 Z Z (wz 1 Z Z (QV.nilCheck Z Z) (zf 2 Anb Z Z (zl 3 Ko Z Z (Aq 2 Z Z) (zf 4 Ay7 Z Z (zl 5 pl3 Z Z (Aq 1 Z Z) (have ⟨c2,B⟩:=cs z;have ⟨U,E⟩:=H.ix (sz:=1) Ao c2;wz 6 Z Z (Ae Ti Z Z Z Z E) (zl 7 Ty Z Z (Fj 4 Z E c2) (wz 8 Z Z (QV.assign Z Z) (Eh Ag (Aj (Au (dp 14 [1,0,2,3,4,5] Z (zm 0 Z Z (zf 1 Ay6 Z Z (zl 2 pl3 Z Z (Aq 1 Z Z) (zf 3 Ay5 Z Z (zl 4 pl3 Z Z (Aq 1 Z Z) (zm 5 Z Z (zm 6 Z Z (wz 7 Z Z (A5 Tryz.underlying43 Z Z (y.ix o.ar)) (wz 8 Z Z (Rj Tryz.underlying131 Tryz.underlying3 Z Z) ?_)))))))))))))))))))))))))))))) (Av I N);obtain⟨W,P,L⟩:=An B;refine wz 9 Z Z (QV.call en61 (ea Z) (fun w q=>have h:=Xg w P ;h)) ?_;refine have ⟨c9,A⟩:=cs L;wz 10 Z Z (D2 Z Z Z Z c9) ?_;obtain⟨V,O,J⟩:=An A;refine wz 11 Z Z (QV.call Ax9 (ea Z) (fun w q=>have h:=Yx w O ;h)) ?_;refine have ⟨x,K⟩:=cs J;have ⟨Q,C⟩:=(y.ix o.ar).ix (sz:=1) Ao x;wz 12 Z Z (Ae Xl Z Z Z Z C) (wz 13 Z Z (QV.assign Z Z) (Eh Ag (Aj (A9 ?_))));obtain rfl:=(Ad K).symm;refine Aw Z Z (fun w q=>?_);exact⟨(Q,j),Z,q.pick [1,2,3,4,5] Ah,c2,C,x⟩
theorem Te {E:Addr}{y j h:Al}{s:List Al}{i:Al}{p:Nat}{F G H:Addr}{a:Int}{c:Tgt}{u v:Int}{C:List Opr}{l:List Int}{g:List (List Int)}{x:Int}{k:List Due}{o:Opr}{I:Int}{r:List (List Int)}{d:Ak} (q:Gp a c u v C l g x k o I=some r) (S:CellsAt d E [.int .i64 a] 0) (K:Arr d y 10 (C.map Opr.cells)) (N:SliceLen j l.length) (A:SliceLen h g.length) (B:GL s g) (L:SliceLen i k.length) (T:CellsAt d F [.pointer (some (⟨p,0,none⟩))] 0) (U:CellsAt d G [.int .i64 o.slot,.int .i64 o.stage,.int .i64 o.op,.int .i64 o.dest,.int .i64 o.a,.int .i64 o.b,.int .i64 o.ar,.int .i64 o.sp,.int .i64 o.pl,.int .i64 o.n] 0) (V:CellsAt d H [.int .i64 I] 0) (M:Nat→Prop) (w:Ak) (f:Base M d w) (W:Own M w [blk p [.int .i64 c.u0,.int .i64 c.u1,.int .i64 c.u2,.int .i64 c.w0,.int .i64 c.w1,.int .i64 c.w2,.int .i64 c.regs,.int .i64 u,.int .i64 v,y,j,h,.int .i64 x,i] 163,vec j 2 1 (List.map Ar l),Jb h s 43 2 g,Fy i 213 3 (List.map Due.cells k)] w):Calls Tryz.prog 124 #[.pointer (some E),.pointer (some F),.pointer (some G),.pointer (some H)] w (fun e w'=>∃ X:Al×(List Al)×Ak,e=.returned (.tuple #[])∧Own M w (kn M w.heap.size d X.2.2::[blk p [.int .i64 c.u0,.int .i64 c.u1,.int .i64 c.u2,.int .i64 c.w0,.int .i64 c.w1,.int .i64 c.w2,.int .i64 c.regs,.int .i64 u,.int .i64 v,y,j,X.1,.int .i64 x,i] 163,vec j 2 1 (List.map Ar l),Fy i 213 3 (List.map Due.cells k),Jb X.1 X.2.1 43 2 r]) w'∧SliceLen X.1 (r).length∧GL X.2.1 r):=by
 unfold Gp at q;refine cw 10 Tryz.func124 Z (dq 7 (zl 0 Ja Z Z (co 0 (A2 0 Z f T) Z) (wz 1 Z Z (Af Abr Z Z Z (A2 0 Z f U)) (zl 2 pl3 Z Z (co 0 (A2 0 Z f V) Z) (Yk 7 Ag (zq 4 7 23 Z (Cs pl2 Z Z (co 0 (A2 0 Z f S) Z)) (Hz 3 23 31 Z Ag Z ?_))))))) (Av f W);obtain⟨m,Y,R⟩:=An q;refine(cq f A4x Z (P8 Y K N A B L) Z (fun J z Q=>bp [0,1,2,3,4] Z (fun w t=>C8 Q (Ih _) (t.pick [0,1,2,3,4] Ah)) (zq 5 31 63 Z (QV.nilCheck Z Z) (WD.lL 6 63 127 Z Ag Z ((Vi 3 a Z Z Z Z Z z.1 z.2.1 sz2 ?_))))));have O:=B.updG m.1 m.2 a;have P:SliceLen h (updG g m.1 m.2 a).length:=U9 A;obtain rfl:=(Ad R).symm;refine Jk Z (fun w t=>?_);exact⟨(h,s,J.2),Z,t.pick [0,1,2,4,3] Ah,P,O⟩
theorem W4 {Y f1 c4:Al}{e2:List Al}{f0:Al}{U:Nat}{a:Tgt}{f O:Int}{g:List Opr}{e9:List Int}{A:List (List Int)}{P:Int}{e8:List Due}{pace slot:Int}{r:List Int×List (List Int)×List Due}{c0:Ak} (e1:Gg a f O g e9 A P e8 pace slot=some r) (a6:Arr c0 Y 10 (g.map Opr.cells)) (o2:SliceLen f1 e9.length) (d8:SliceLen c4 A.length) (e0:GL e2 A) (o1:SliceLen f0 e8.length) (M:Nat→Prop) (w:Ak) (c:Base M c0 w) (r0:Own M w [blk U [.int .i64 a.u0,.int .i64 a.u1,.int .i64 a.u2,.int .i64 a.w0,.int .i64 a.w1,.int .i64 a.w2,.int .i64 a.regs,.int .i64 f,.int .i64 O,Y,f1,c4,.int .i64 P,f0] 163,vec f1 2 1 (List.map Ar e9),Jb c4 e2 43 2 A,Fy f0 213 3 (List.map Due.cells e8)] w):Calls Tryz.prog 80 #[.pointer (some (⟨U,0,none⟩)),.int .i64 pace,.int .i64 slot] w (fun e w'=>∃ X:Al×Al×(List Al)×Al×Ak,e=.returned (.tuple #[])∧Own M w (kn M w.heap.size c0 X.2.2.2.2::[blk U [.int .i64 a.u0,.int .i64 a.u1,.int .i64 a.u2,.int .i64 a.w0,.int .i64 a.w1,.int .i64 a.w2,.int .i64 a.regs,.int .i64 f,.int .i64 O,Y,X.1,X.2.1,.int .i64 P,X.2.2.2.1] 163,vec X.1 2 1 (List.map Ar r.1),Jb X.2.1 X.2.2.1 43 2 r.2.1,Fy X.2.2.2.1 213 3 (List.map Due.cells r.2.2)]) w'∧SliceLen X.1 (r.1).length∧SliceLen X.2.1 (r.2.1).length∧GL X.2.2.1 r.2.1∧SliceLen X.2.2.2.1 (r.2.2).length):=by
 unfold Gg at e1;refine cw 147 Tryz.func80 Z (sr (Ab Z ((A34 Ah Z Z Z (fun b1=>kp [1,0,2,3,4,5] Z (Gk c (fun t9 a9 q8=>have k:=Qg q8;ns (wm Z (wl Ja Z (co 0 (A2 0 Z c k) Z) (wq Z (QV.nilCheck Z Z) (wf Aui Z (wf Uf Z (wl pl3 Z (Aq 1 Z Z) ?_))))))))))))) (Av c r0);obtain⟨c3,c5,j1⟩:=cs2 e1;refine wq Z (QV.mul Z Z Z Z c3) (wm Z (wq Z (A6 Z Z Z Z c5) (wa Z (ns (wl Ja Z (co 0 (A2 0 Z c k) Z) (wm Z (Ab Z ?_)))))));obtain⟨s,s4,k1⟩:=An j1;refine(cq c en81 Z (P9 s4 (a6.le a9) o2 d8 e0 o1) Z (fun C a5 j=>ns (wa Z (nt (Au (sr (wl Ja Z (co 0 (A2 0 Z c (k.le j)) Z) (wq Z (QV.nilCheck Z Z) (wf Aui Z (wf Oq Z (wl Abp Z (Aq 1 Z Z) (wq Z (A5 Tryz.underlying58 Z Z (a6.le (a9.trans j)).lenMap) (wm Z (nt (F7 (fun w o=>o.vecNil (E:=1) (sz:=1) (enc:=Ab4)) ?_)))))))))))))));obtain⟨l0,h4,s8,q3⟩:=bl k1;refine Ak4 (dt [1,2,3,6,32,33] [3,4] Z) (fun (l:List Due) (q:List (Opr×Int×Int)) (b:Int) (u:Al) (v:Al) (p:List (Al×Opr×Int×Int)) (t:Ak)=>[(7,(true,v)),(34,(true,i_ b))]) (fun l q b u v p t=>[vec v 1 1 (List.map Ab4 p),kn M w.heap.size c0 t,blk U [i_ a.u0,i_ a.u1,i_ a.u2,i_ a.w0,i_ a.w1,i_ a.w2,i_ a.regs,i_ f,i_ O,Y,C.1,c4,i_ P,u] 163,Fy u 213 3 (List.map Due.cells l)]) (fun l q b u v p t m=>Cp (C5 a f O g A P pace slot s) m (l,q,b)=some l0∧SliceLen u l.length∧SliceLen v q.length∧p.map (·.2)=q∧ClosK 124 (.pointer (some (⟨b1,0,none⟩))) t p∧Le C.2.2 t) (fun l q b u v p t=>l0=.go (l,q,b)∧SliceLen u l.length∧SliceLen v q.length∧p.map (·.2)=q∧ClosK 124 (.pointer (some (⟨b1,0,none⟩))) t p∧Le C.2.2 t) s.2 ([]:List (Opr×Int×Int)) 0 C.2.1 (.slice none 0 0) ([]:List (Al×Opr×Int×Int)) C.2.2 s8 ⟨q3,a5.2,Gq,Z,ClosK.nil,(Ih _)⟩ (sb Z) (pk [0,1,2,5,3,4]) ?_ ?_
 ·skip
  rintro l q b u v p t ⟨rfl,b2,N,K,L,d⟩;refine Aj (sr (wm Z (wq Z (A5 Tryz.underlying209 Z Z N) (wm Z (nt ?_)))));obtain⟨l1,p4,s9,q4⟩:=bl h4;refine O6 (dt [138,139] [0,3,5] Z) (fun (y:List (List Int)) (J:Int) (z:Al) (F:List Al) (I:Ak)=>[(140,(true,i_ J))]) (fun y J z F I=>[kn M w.heap.size c0 I,blk U [i_ a.u0,i_ a.u1,i_ a.u2,i_ a.w0,i_ a.w1,i_ a.w2,i_ a.regs,i_ f,i_ O,Y,C.1,z,i_ P,u] 163,Jb z F 43 2 y]) (fun y J z F I m=>Cp (Ee a f O g P s l q) m (y,J)=some l1∧SliceLen z y.length∧GL F y∧Le t I) (fun y J z F I=>l1=.go (y,J)∧SliceLen z y.length∧GL F y∧Le t I) A 0 c4 e2 t s9 ⟨q4,d8,e0,(Ih _)⟩ (sb Z) (pk [1,2,4,0,3,5]) ?_ ?_
  ·skip
   rintro y J z F I ⟨rfl,d2,d1,b0⟩;obtain rfl:=(Ad p4).symm;refine Jk Z (fun w o=>?_);exact⟨(C.1,z,F,u,I),Z,o.pick [0,1,5,2,4] Ah,a5.1,d2,d1,b2⟩
  rintro y J z F I u3 ⟨g3,d2,d1,b0⟩;obtain⟨s7,v2,rfl,d3,k4⟩:=A0 g3;unfold Ee at d3;simp only at d3;refine sr (wq Z (QV.lss Z Z Z Z) (nt (Au ?_)));refine wc Z d3 (fun n4 i6=>?_) (fun n4 p9=>?_)
  ·skip
   refine sk (Aj (Au (Cq (sr ?_))));obtain⟨f7,i7⟩:=cs i6;obtain⟨u5,k5⟩:=N.ix (sz:=1) Ao f7;obtain⟨u9,v0,v1,n9,o5,o6,o7⟩:=ClosK.ix (L.le b0) K f7;refine wq Z (Ae sl209 Z Z Z Z k5) (wl pl1 Z (fun w o=>CellsAt.one 0 (n9 w _ ((Cz 3 Z) w o) _ k5) Z) (wa Z (nr (wm Z (Ab Z ?_)))));obtain⟨d5,s1,p7⟩:=An i7;refine ep [0,1,5,2,4,3] Z ?_;refine(Axi (X:=Al×(List Al)×Ak) (R:=[blk U [i_ a.u0,i_ a.u1,i_ a.u2,i_ a.w0,i_ a.w1,i_ a.w2,i_ a.regs,i_ f,i_ O,Y,C.1,z,i_ P,u] 163,vec C.1 2 1 (List.map Ar s.1),Jb z F 43 2 y,Fy u 213 3 (List.map Due.cells l)]) (fun X=>.tuple #[]) (fun X=>[blk U [i_ a.u0,i_ a.u1,i_ a.u2,i_ a.w0,i_ a.w1,i_ a.w2,i_ a.regs,i_ f,i_ O,Y,C.1,X.1,i_ P,u] 163,vec C.1 2 1 (List.map Ar s.1),Fy u 213 3 (List.map Due.cells l),Jb X.1 X.2.1 43 2 d5]) (fun X=>X.2.2) (fun X=>SliceLen X.1 (d5).length∧GL X.2.1 d5) c (fun _ h=>by cases h;decide) en124 Z Z eN (fun M w n0 n3=>have h:=Te s1 o5 (a6.le (((a9.trans j).trans d).trans b0)) a5.1 d2 d1 b2 (k.le ((j.trans d).trans b0)) o6 o7 M w n0 n3;h) (fun d6 g2 o9=>?_));refine Bk (Ba (Aj (Bn (have ⟨m6,p8⟩:=cs p7;wq Z (A6 Z Z Z Z m6) (wm Z (Bk ?_))))));exact O5 d5 (J+1) d6.1 d6.2.1 d6.2.2 s7 ⟨A3 p8 k4,g2.1,g2.2,(b0.trans o9)⟩ (Cc _) (sb Z) (pk [0,1,4,5,3,2])
  refine Cw (te (te (Am ?_)));exact Tm y J z F I ⟨Bh p9 k4,d2,d1,b0⟩ (sb Z) (pk [0,1,2,3,4,5])
 rintro l q b u v p t u4 ⟨g4,b2,N,K,L,d⟩;obtain⟨b3,v3,rfl,d4,W⟩:=A0 g4;unfold C5 at d4;simp only at d4;refine sr (wq Z (QV.lss Z Z Z Z) (nt (Au ?_)));refine wc Z d4 (fun n5 i8=>?_) (fun n5 p6=>?_)
 ·skip
  refine sk (Aj (Au (Cq (sr ?_))));obtain⟨f8,i9⟩:=cs i8;obtain⟨u6,k6⟩:=(a6.le ((a9.trans j).trans d)).lenMap.ix (sz:=10) Ao f8;refine wq Z (Ae An0 Z Z Z Z k6) (wq Z (Af Abr Z Z Z (el (Ai 1 Z c (a6.le ((a9.trans j).trans d))) k6 f8)) (Ab Z ((B9 Ah Aqs (fun Q=>Ab Z ((ew 0 (Opr.cells (ele g b)) Aqt Z (ns (wm Z (wf Ue Z (wl pl3 Z (Aq 0 Z Z) ?_)))))))))));obtain⟨m7,j0⟩:=cs i9;refine wq Z (D2 Z Z Z Z m7) (Ab Z ((B9 Ah ze3 (fun S=>Ab Z ((ew 0 [i_ (pace - (ele g b).stage)] sz3 Z (nt (Au (Au (dp 16 [3,0,1,2,4,5,6,7] Z (zf 0 Aa8 Z Z (zl 1 pl3 Z Z (Aq 2 Z Z) (zm 2 Z Z (wz 3 Z Z (QV.neq Z Z Z Z) (zm 4 Z Z (zN 5 Z Z (Cs pl3 Z Z (Aq 1 Z Z)) (zn 6 Z Z (fun G=>QV.lss Z G Z Z) (wz 7 Z Z (Bc Z Z Z (fun h=>Fm h)) (zm 8 Z Z (zN 9 Z Z (Cs pl3 Z Z (Aq 1 Z Z)) (zN 10 Z Z (Cs Ja Z Z (co 0 (A2 0 Z c (k.le (j.trans d))) Z)) (zn 11 Z Z (fun G=>QV.nilCheck Z G) (zn 12 Z Z (fun G=>QV.fieldAddr A3f Z G) (zn 13 Z Z (fun G=>Cs pl3 Z G (Aq 4 Z Z)) (zn 14 Z Z (fun G=>QV.geq Z G Z G) (wz 15 Z Z (Bc Z Z Z (fun h=>Fm h)) (Eh Ag (Aj ?_))))))))))))))))))))))))))));refine wc Z j0 (fun n6 q0=>?_) (fun n6 j2=>?_)
  ·skip
   refine Cw (te (Am (Aj (Bn (have ⟨m8,q1⟩:=cs q0;wq Z (A6 Z Z Z Z m8) (wm Z (Bk ?_)))))));exact Qh l q (b+1) u v p t b3 ⟨A3 q1 W,b2,N,K,L,d⟩ (Cc _) (sb Z) (pk [2,3,4,5,6,7])
  refine sk (Aj (Au (dp 25 [3,0,1,2,4,5,6,7] Z (zl 0 Ja Z Z (co 0 (A2 0 Z c (k.le (j.trans d))) Z) (wz 1 Z Z (QV.nilCheck Z Z) (zf 2 Ab9 Z Z (zl 3 Ty Z Z (Aq 4 Z Z) (zl 4 Ja Z Z (co 0 (A2 0 Z c (k.le (j.trans d))) Z) (zf 5 Ami Z Z (zl 6 pl3 Z Z (Aq 2 Z Z) (zm 7 Z Z ?_)))))))))));obtain⟨x,s2,j3⟩:=An j2;refine wz 8 Z Z (QV.call Agn (ea Z) (fun w o=>have h:=E4 w s2 (Ac 4 Z w o);h)) ?_;obtain⟨f9,j4⟩:=cs j3;obtain⟨u7,k7⟩:=a5.1.ix (sz:=1) Ao f9;refine wz 9 Z Z (Ae Xl Z Z Z Z k7) (zl 10 pl2 Z Z (cl 0 (Cz 7 Z) k7 f9 Z) (zl 11 Ja Z Z (co 0 (A2 0 Z c (k.le (j.trans d))) Z) (wz 12 Z Z (QV.nilCheck Z Z) (zf 13 Ab9 Z Z (zl 14 Ty Z Z (Aq 4 Z Z) (zl 15 Ja Z Z (co 0 (A2 0 Z c (k.le (j.trans d))) Z) (zf 16 Amh Z Z (zl 17 pl3 Z Z (Aq 2 Z Z) (zm 18 Z Z ?_)))))))));obtain⟨v4,s3,j5⟩:=An j4;refine wz 19 Z Z (QV.call Agn (ea Z) (fun w o=>have h:=E4 w s3 (Ac 4 Z w o);h)) ?_;obtain⟨g0,j6⟩:=cs j5;obtain⟨u8,k8⟩:=a5.1.ix (sz:=1) Ao g0;refine wz 20 Z Z (Ae Xl Z Z Z Z k8) (zl 21 pl2 Z Z (cl 0 (Cz 7 Z) k8 g0 Z) (Cx 22 Z Ag Z ((B9 Ah ze2 (fun T=>bp [4,1,2,3,5,6,7,8] Z (pk [0,1,2,3,4,5,6,7]) (Cx 23 Z Ag Z ((ew 0 [i_ (ele s.1 x)] sz2 Z (bp [4,0,1,2,3,5,6,7,8] Z (pk [0,2,3,4,5,6,7,8]) (wz 24 Z Z (QV.assign Z Z) (Eh Ag (Aj (sr (wa Z (nt (Au (sr (wf Ud Z (wl pl3 Z (Aq 2 Z Z) (nt (Cq (sr (wq Z (QV.eql Z Z Z Z) (wa Z (nt ?_)))))))))))))))))))))))));refine wc Z j6 (fun n7 j7=>?_) (fun n7 k2=>?_)
  ·skip
   refine Bn (wf Ay4 Z (wl pl2 Z (Aq 2 Z Z) (wa Z (Bk (Ba (Aj (dp 28 [4,0,1,2,3,5,7,8] Z (zl 0 Ja Z Z (co 0 (A2 0 Z c (k.le (j.trans d))) Z) (zl 1 Ja Z Z (co 0 (A2 0 Z c (k.le (j.trans d))) Z) (wz 2 Z Z (QV.nilCheck Z Z) (zf 3 Ji Z Z (zl 4 Xw Z Z (Aq 5 Z Z) (zm 5 Z Z (zl 6 Ja Z Z (co 0 (A2 0 Z c (k.le (j.trans d))) Z) (zf 7 Ud Z Z (zl 8 pl3 Z Z (Aq 3 Z Z) ?_))))))))))))))));obtain⟨a4,s5,j8⟩:=An j7;refine wz 9 Z Z (QV.call Ai5 (ea Z) (fun w o=>have h:=H3 w s5 ;h)) ?_;refine wz 10 Z Z (QV.nilCheck Z Z) (zf 11 Zd Z Z (zf 12 V6 Z Z ?_));obtain⟨c9,c85,j9⟩:=cs2 j8;refine wz 13 Z Z (Cr Tz Z Z Z Z c9.1 c9.2) (zl 14 pl3 Z Z (Ez 5 Z (Ir (off:=3) (i:=a4) c9.1 c9.2 Z Z Z) (Hu _ _ _)) (wz 15 Z Z (A6 Z Z Z Z c85) (zl 16 Ja Z Z (co 0 (A2 0 Z c (k.le (j.trans d))) Z) (zf 17 Uc Z Z (zl 18 pl3 Z Z (Aq 3 Z Z) (zm 19 Z Z ?_))))));obtain⟨b9,s6,k0⟩:=An j9;refine wz 20 Z Z (QV.call Agn (ea Z) (fun w o=>have h:=E4 w s6 (Ac 5 Z w o);h)) ?_;refine zm 21 Z Z (wz 22 Z Z (QV.build (ps:=[(0,.tmp 125),(1,.tmp 130),(2,.tmp 131)]) (cells:=[i_ (((pace * f)+slot)+(Cv a.w0 a.w1 a.w2 a4)),i_ b9,i_ ((ele g b).n)]) (ea Z) Ag) (Cx 23 Z Ag Z ((Di Ah Ahe Ah Ah (ps:=[(0,.tmp 132)]) (cells:=[i_ (((pace * f)+slot)+(Cv a.w0 a.w1 a.w2 a4)),i_ b9,i_ ((ele g b).n)]) (ea Z) Ag (fun t6=>bp [5,0,1,2,3,4,6,8,9] Z (pk [0,2,3,4,5,6,7,8]) (Cx 24 Z Ag Z ?_))))));obtain⟨g1,m9,q2⟩:=cs2 k0;refine(S9 (enc:=Due.cells) (xs:=l) (ys:=[(Due.mk (((pace * f)+slot)+(Cv a.w0 a.w1 a.w2 a4)) b9 ((ele g b).n))]) ((l++[(Due.mk (((pace * f)+slot)+(Cv a.w0 a.w1 a.w2 a4)) b9 ((ele g b).n))])) 7 Ah An9 Z Z Z Z Z (Bb 0 (rows:=[(Due.mk (((pace * f)+slot)+(Cv a.w0 a.w1 a.w2 a4)) b9 ((ele g b).n))].map Due.cells) Z Z (Bq Zy)) Zy (An6 _) Z g1.1 g1.2 (fun l6 e7=>bp [5,0,1,2,3,4,6,7,8,9] Z (pk [0,1,2,3,4,5,6,8,9]) (wz 25 Z Z (QV.nilCheck Z Z) (zf 26 Ji Z Z (Ig 27 Z Ag Z ((ex 6 [l6] (Hr e7) Ajp (oc (Cy e7) B3) Z (Ba (Aj (Bn (wq Z (A6 Z Z Z Z m9) (wm Z (Bk ?_)))))))))))));exact Qh (l++[(Due.mk (((pace * f)+slot)+(Cv a.w0 a.w1 a.w2 a4)) b9 ((ele g b).n))]) q (b+1) l6 v p t b3 ⟨A3 q2 W,e7,N,K,L,d⟩ (Cc _) (sb Z) (pk [4,5,6,7,8,9])
  refine sr (wq Z (QV.eql Z Z Z Z) (wa Z (nt ?_)));refine wc Z k2 (fun n8 k3=>?_) (fun n8 g8=>?_)
  ·skip
   refine Bn (wl pl3 Z (Aq 1 Z Z) (wa Z (Bk (Ba (Aj (dp 28 [4,0,1,2,3,5,7,8] Z (zl 0 Ja Z Z (co 0 (A2 0 Z c (k.le (j.trans d))) Z) (zl 1 Ja Z Z (co 0 (A2 0 Z c (k.le (j.trans d))) Z) (wz 2 Z Z (QV.nilCheck Z Z) (zf 3 Ji Z Z (zl 4 Xw Z Z (Aq 5 Z Z) (zm 5 Z Z (zl 6 Ja Z Z (co 0 (A2 0 Z c (k.le (j.trans d))) Z) (zf 7 Ud Z Z (zl 8 pl3 Z Z (Aq 3 Z Z) ?_)))))))))))))));obtain⟨a0,r1,g5⟩:=An k3;refine wz 9 Z Z (QV.call Ai5 (ea Z) (fun w o=>have h:=H3 w r1 ;h)) ?_;refine wz 10 Z Z (QV.nilCheck Z Z) (zf 11 Zd Z Z (zf 12 V6 Z Z ?_));obtain⟨c6,l8,g6⟩:=cs2 g5;refine wz 13 Z Z (Cr Tz Z Z Z Z c6.1 c6.2) (zl 14 pl3 Z Z (Ez 5 Z (Ir (off:=3) (i:=a0) c6.1 c6.2 Z Z Z) (Hu _ _ _)) (wz 15 Z Z (A6 Z Z Z Z l8) (zl 16 Ja Z Z (co 0 (A2 0 Z c (k.le (j.trans d))) Z) (zf 17 Uc Z Z (zl 18 pl3 Z Z (Aq 3 Z Z) (zm 19 Z Z ?_))))));obtain⟨b4,r2,g7⟩:=An g6;refine wz 20 Z Z (QV.call Agn (ea Z) (fun w o=>have h:=E4 w r2 (Ac 5 Z w o);h)) ?_;refine zm 21 Z Z (wz 22 Z Z (QV.build (ps:=[(0,.tmp 125),(1,.tmp 130),(2,.tmp 131)]) (cells:=[i_ (((pace * f)+slot)+(Cv a.w0 a.w1 a.w2 a0)),i_ b4,i_ (pace - (ele g b).stage)]) (ea Z) Ag) (Cx 23 Z Ag Z ((Di Ah Ahe Ah Ah (ps:=[(0,.tmp 132)]) (cells:=[i_ (((pace * f)+slot)+(Cv a.w0 a.w1 a.w2 a0)),i_ b4,i_ (pace - (ele g b).stage)]) (ea Z) Ag (fun t1=>bp [5,0,1,2,3,4,6,8,9] Z (pk [0,2,3,4,5,6,7,8]) (Cx 24 Z Ag Z ?_))))));obtain⟨f2,l9,p0⟩:=cs2 g7;refine(S9 (enc:=Due.cells) (xs:=l) (ys:=[(Due.mk (((pace * f)+slot)+(Cv a.w0 a.w1 a.w2 a0)) b4 (pace - (ele g b).stage))]) ((l++[(Due.mk (((pace * f)+slot)+(Cv a.w0 a.w1 a.w2 a0)) b4 (pace - (ele g b).stage))])) 7 Ah An9 Z Z Z Z Z (Bb 0 (rows:=[(Due.mk (((pace * f)+slot)+(Cv a.w0 a.w1 a.w2 a0)) b4 (pace - (ele g b).stage))].map Due.cells) Z Z (Bq Zy)) Zy (An6 _) Z f2.1 f2.2 (fun l2 e3=>bp [5,0,1,2,3,4,6,7,8,9] Z (pk [0,1,2,3,4,5,6,8,9]) (wz 25 Z Z (QV.nilCheck Z Z) (zf 26 Ji Z Z (Ig 27 Z Ag Z ((ex 6 [l2] (Hr e3) Ajp (oc (Cy e3) B3) Z (Ba (Aj (Bn (wq Z (A6 Z Z Z Z l9) (wm Z (Bk ?_)))))))))))));exact Qh (l++[(Due.mk (((pace * f)+slot)+(Cv a.w0 a.w1 a.w2 a0)) b4 (pace - (ele g b).stage))]) q (b+1) l2 v p t b3 ⟨A3 p0 W,e3,N,K,L,d⟩ (Cc _) (sb Z) (pk [4,5,6,7,8,9])
  refine sr (wq Z (QV.eql Z Z Z Z) (wa Z (nt ?_)));refine wc Z g8 (fun n1 g9=>?_) (fun n1 h5=>?_)
  ·skip
   refine Bn (wl Ja Z (co 0 (A2 4 Z c (k.le (j.trans d))) Z) (wq Z (Af Abr Z Z Z (Ac 2 Z)) (wl pl3 Z (Aq 1 Z Z) (Ab Z ?_))));obtain⟨B,r3,h0⟩:=An g9;refine(cr [4,5,8,7,6,0,1,2,3] c A4x Z (P8 r3 (a6.le ((a9.trans j).trans d)) a5.1 d8 e0 b2) Z (fun l7 d7 a7=>wq Z (QV.nilCheck Z Z) (wl pl2 Z (cl 0 (Jq 3 Z d7.1) d7.2.1 d7.2.2 Z) (wa Z (Bk (Ba (Aj (dp 28 [0,1,2,3,5,6,7,8] Z (zl 0 Ja Z Z (co 0 (A2 0 Z c (k.le ((j.trans d).trans a7))) Z) (zl 1 Ja Z Z (co 0 (A2 0 Z c (k.le ((j.trans d).trans a7))) Z) (wz 2 Z Z (QV.nilCheck Z Z) (zf 3 Ji Z Z (zl 4 Xw Z Z (Aq 1 Z Z) (zm 5 Z Z (zl 6 Ja Z Z (co 0 (A2 0 Z c (k.le ((j.trans d).trans a7))) Z) (zf 7 Ud Z Z (zl 8 pl3 Z Z (Aq 6 Z Z) ?_)))))))))))))))));obtain⟨a1,r4,h1⟩:=An h0;refine wz 9 Z Z (QV.call Ai5 (ea Z) (fun w o=>have h:=H3 w r4 ;h)) ?_;refine wz 10 Z Z (QV.nilCheck Z Z) (zf 11 Zd Z Z (zf 12 V6 Z Z ?_));obtain⟨c127,m0,h2⟩:=cs2 h1;refine wz 13 Z Z (Cr Tz Z Z Z Z c127.1 c127.2) (zl 14 pl3 Z Z (Ez 1 Z (Ir (off:=3) (i:=a1) c127.1 c127.2 Z Z Z) (Hu _ _ _)) (wz 15 Z Z (A6 Z Z Z Z m0) (zl 16 Ja Z Z (co 0 (A2 0 Z c (k.le ((j.trans d).trans a7))) Z) (zf 17 Uc Z Z (zl 18 pl3 Z Z (Aq 6 Z Z) (zm 19 Z Z ?_))))));obtain⟨b5,r5,h3⟩:=An h2;refine wz 20 Z Z (QV.call Agn (ea Z) (fun w o=>have h:=E4 w r5 (Ac 1 Z w o);h)) ?_;refine zm 21 Z Z (wz 22 Z Z (QV.build (ps:=[(0,.tmp 125),(1,.tmp 130),(2,.tmp 131)]) (cells:=[i_ (((pace * f)+slot)+(Cv a.w0 a.w1 a.w2 a1)),i_ b5,i_ (ele (ele A B.1) B.2)]) (ea Z) Ag) (Cx 23 Z Ag Z ((Di Ah Ahe Ah Ah (ps:=[(0,.tmp 132)]) (cells:=[i_ (((pace * f)+slot)+(Cv a.w0 a.w1 a.w2 a1)),i_ b5,i_ (ele (ele A B.1) B.2)]) (ea Z) Ag (fun t2=>bp [1,0,2,3,4,6,7,8,9] Z (pk [0,2,3,4,5,6,7,8]) (Cx 24 Z Ag Z ?_))))));obtain⟨f3,m1,p1⟩:=cs2 h3;refine(S9 (enc:=Due.cells) (xs:=l) (ys:=[(Due.mk (((pace * f)+slot)+(Cv a.w0 a.w1 a.w2 a1)) b5 (ele (ele A B.1) B.2))]) ((l++[(Due.mk (((pace * f)+slot)+(Cv a.w0 a.w1 a.w2 a1)) b5 (ele (ele A B.1) B.2))])) 5 Ah An9 Z Z Z Z Z (Bb 0 (rows:=[(Due.mk (((pace * f)+slot)+(Cv a.w0 a.w1 a.w2 a1)) b5 (ele (ele A B.1) B.2))].map Due.cells) Z Z (Bq Zy)) Zy (An6 _) Z f3.1 f3.2 (fun l3 e4=>bp [1,0,2,3,4,5,6,7,8,9] Z (pk [0,1,2,3,4,6,7,8,9]) (wz 25 Z Z (QV.nilCheck Z Z) (zf 26 Ji Z Z (Ig 27 Z Ag Z ((ex 2 [l3] (Hr e4) Ajp (oc (Cy e4) B3) Z (Ba (Aj (Bn (wq Z (A6 Z Z Z Z m1) (wm Z (Bk ?_)))))))))))));exact Qh (l++[(Due.mk (((pace * f)+slot)+(Cv a.w0 a.w1 a.w2 a1)) b5 (ele (ele A B.1) B.2))]) q (b+1) l3 v p l7.2 b3 ⟨A3 p1 W,e4,N,K,(L.le a7),(d.trans a7)⟩ (Cc _) (sb Z) (pk [9,1,2,5,4,3])
  refine sr (wq Z (QV.eql Z Z Z Z) (wa Z (nt ?_)));refine wc Z h5 (fun n2 h6=>?_) (fun n2 p3=>?_)
  ·skip
   refine sr (wl pl2 Z (Aq 0 Z Z) (wa Z (nr (wm Z (wq Z (QV.makeFunc (ea Z)) (Ab Z ((Di Ah A5t Ah Ah (ps:=[(0,.tmp 107)]) (cells:=[.func (.func 124) #[] #[.pointer (some (⟨T,0,none⟩)),.pointer (some (⟨b1,0,none⟩)),.pointer (some (⟨Q,0,none⟩)),.pointer (some (⟨S,0,none⟩))]]) (ea Z) Ag (fun t3=>Ab Z (ep [5,1,0,2,3,4,6,7,8,9] Z (Sh c (fun t7 a8 q5=>have o3:=Qg q5;ep [0,3,1,2,4,5,6,7,8] Z (Sh c (fun t8 V q6=>have d9:=Qg q6;ep [0,2,1,3,4,5,6,7] Z (Sh c (fun k9 H q7=>?_))))))))))))))));have o4:=Qg q7;obtain⟨f4,h7⟩:=cs h6;have o0:ClosK 124 (.pointer (some (⟨b1,0,none⟩))) k9 (p++([(.func (.func 124) #[] #[.pointer (some (⟨T,0,none⟩)),.pointer (some (⟨b1,0,none⟩)),.pointer (some (⟨Q,0,none⟩)),.pointer (some (⟨S,0,none⟩))],((ele g b),(pace - (ele g b).stage),(ele s.1 x)))]:List (Al×Opr×Int×Int))):=ClosK.snoc (L.le ((a8.trans V).trans H)) (o3.le (V.trans H)) (d9.le H) o4;have d0:((p++([(.func (.func 124) #[] #[.pointer (some (⟨T,0,none⟩)),.pointer (some (⟨b1,0,none⟩)),.pointer (some (⟨Q,0,none⟩)),.pointer (some (⟨S,0,none⟩))],((ele g b),(pace - (ele g b).stage),(ele s.1 x)))]:List (Al×Opr×Int×Int))):List (Al×Opr×Int×Int)).map (·.2)=(q++[((ele g b),(pace - (ele g b).stage),(ele s.1 x))]):=A04 K;refine(Bt (enc:=Ab4) (xs:=p) (ys:=([(.func (.func 124) #[] #[.pointer (some (⟨T,0,none⟩)),.pointer (some (⟨b1,0,none⟩)),.pointer (some (⟨Q,0,none⟩)),.pointer (some (⟨S,0,none⟩))],((ele g b),(pace - (ele g b).stage),(ele s.1 x)))]:List (Al×Opr×Int×Int))) (p++([(.func (.func 124) #[] #[.pointer (some (⟨T,0,none⟩)),.pointer (some (⟨b1,0,none⟩)),.pointer (some (⟨Q,0,none⟩)),.pointer (some (⟨S,0,none⟩))],((ele g b),(pace - (ele g b).stage),(ele s.1 x)))]:List (Al×Opr×Int×Int))) 2 Ah ve209 Z Z Z Z Z (Bb 1 (rows:=([(.func (.func 124) #[] #[.pointer (some (⟨T,0,none⟩)),.pointer (some (⟨b1,0,none⟩)),.pointer (some (⟨Q,0,none⟩)),.pointer (some (⟨S,0,none⟩))],((ele g b),(pace - (ele g b).stage),(ele s.1 x)))]:List (Al×Opr×Int×Int)).map Ab4) Z Z (Bq Akr)) Akr (A3q Z) Z (AL.c1 d0 f4) (AL.c2 d0 f4) (fun t0 q9=>have o8:=Azx d0 q9;wa Z (Bk (Ba (Aj (dp 28 [0,1,2,3,5,6] Z (zl 0 Ja Z Z (co 0 (A2 0 Z c (k.le ((((j.trans d).trans a8).trans V).trans H))) Z) (zl 1 Ja Z Z (co 0 (A2 0 Z c (k.le ((((j.trans d).trans a8).trans V).trans H))) Z) (wz 2 Z Z (QV.nilCheck Z Z) (zf 3 Ji Z Z (zl 4 Xw Z Z (Aq 3 Z Z) (zm 5 Z Z (zl 6 Ja Z Z (co 0 (A2 0 Z c (k.le ((((j.trans d).trans a8).trans V).trans H))) Z) (zf 7 Ud Z Z (zl 8 pl3 Z Z (co 2 (A2 0 Z c (d9.le H)) Z) ?_)))))))))))))));obtain⟨a2,r6,h8⟩:=An h7;refine wz 9 Z Z (QV.call Ai5 (ea Z) (fun w o=>have h:=H3 w r6 ;h)) ?_;refine wz 10 Z Z (QV.nilCheck Z Z) (zf 11 Zd Z Z (zf 12 V6 Z Z ?_));obtain⟨c7,m2,h9⟩:=cs2 h8;refine wz 13 Z Z (Cr Tz Z Z Z Z c7.1 c7.2) (zl 14 pl3 Z Z (Ez 3 Z (Ir (off:=3) (i:=a2) c7.1 c7.2 Z Z Z) (Hu _ _ _)) (wz 15 Z Z (A6 Z Z Z Z m2) (zl 16 Ja Z Z (co 0 (A2 0 Z c (k.le ((((j.trans d).trans a8).trans V).trans H))) Z) (zf 17 Uc Z Z (zl 18 pl3 Z Z (co 3 (A2 0 Z c (d9.le H)) Z) (zm 19 Z Z ?_))))));obtain⟨b6,r7,i0⟩:=An h9;refine wz 20 Z Z (QV.call Agn (ea Z) (fun w o=>have h:=E4 w r7 (Ac 3 Z w o);h)) ?_;refine zm 21 Z Z (wz 22 Z Z (QV.build (ps:=[(0,.tmp 125),(1,.tmp 130),(2,.tmp 131)]) (cells:=[i_ (((pace * f)+slot)+(Cv a.w0 a.w1 a.w2 a2)),i_ b6,i_ (ele s.1 x)]) (ea Z) Ag) (Cx 23 Z Ag Z ((Di Ah Ahe Ah Ah (ps:=[(0,.tmp 132)]) (cells:=[i_ (((pace * f)+slot)+(Cv a.w0 a.w1 a.w2 a2)),i_ b6,i_ (ele s.1 x)]) (ea Z) Ag (fun t4=>bp [1,0,2,3,4,6,7] Z (pk [0,2,3,4,5,6]) (Cx 24 Z Ag Z ?_))))));obtain⟨f5,m3,p2⟩:=cs2 i0;refine(S9 (enc:=Due.cells) (xs:=l) (ys:=[(Due.mk (((pace * f)+slot)+(Cv a.w0 a.w1 a.w2 a2)) b6 (ele s.1 x))]) ((l++[(Due.mk (((pace * f)+slot)+(Cv a.w0 a.w1 a.w2 a2)) b6 (ele s.1 x))])) 5 Ah An9 Z Z Z Z Z (Bb 0 (rows:=[(Due.mk (((pace * f)+slot)+(Cv a.w0 a.w1 a.w2 a2)) b6 (ele s.1 x))].map Due.cells) Z Z (Bq Zy)) Zy (An6 _) Z f5.1 f5.2 (fun l4 e5=>bp [1,0,2,3,4,5,6,7] Z (pk [0,1,2,3,4,6,7]) (wz 25 Z Z (QV.nilCheck Z Z) (zf 26 Ji Z Z (Ig 27 Z Ag Z ((ex 4 [l4] (Hr e5) Ajp (oc (Cy e5) B3) Z (Ba (Aj (Bn (wq Z (A6 Z Z Z Z m3) (wm Z (Bk ?_)))))))))))))
   exact Qh (l++[(Due.mk (((pace * f)+slot)+(Cv a.w0 a.w1 a.w2 a2)) b6 (ele s.1 x))]) (q++[((ele g b),(pace - (ele g b).stage),(ele s.1 x))]) (b+1) l4 t0 (p++([(.func (.func 124) #[] #[.pointer (some (⟨T,0,none⟩)),.pointer (some (⟨b1,0,none⟩)),.pointer (some (⟨Q,0,none⟩)),.pointer (some (⟨S,0,none⟩))],((ele g b),(pace - (ele g b).stage),(ele s.1 x)))]:List (Al×Opr×Int×Int))) k9 b3 ⟨A3 p2 W,e5,o8,d0,o0,(((d.trans a8).trans V).trans H)⟩ (Cc _) (sb Z) (pk [3,1,4,5,6,7])
  refine Bn (wf Ud Z (wl pl3 Z (Aq 2 Z Z) (have ⟨c173,i1⟩:=cs p3;wq Z (D2 Z Z Z Z c173) (wl pl2 Z (Aq 0 Z Z) (wm Z ?_)))));obtain⟨b7,r8,i2⟩:=An i1;refine wq Z (QV.call A4z (ea Z) (fun w o=>have h:=Ao8 w r8 ;h)) ?_;refine wa Z (Bk (Ba (Aj (dp 28 [4,0,1,2,3,5,7,8] Z (zl 0 Ja Z Z (co 0 (A2 0 Z c (k.le (j.trans d))) Z) (zl 1 Ja Z Z (co 0 (A2 0 Z c (k.le (j.trans d))) Z) (wz 2 Z Z (QV.nilCheck Z Z) (zf 3 Ji Z Z (zl 4 Xw Z Z (Aq 5 Z Z) (zm 5 Z Z (zl 6 Ja Z Z (co 0 (A2 0 Z c (k.le (j.trans d))) Z) (zf 7 Ud Z Z (zl 8 pl3 Z Z (Aq 3 Z Z) ?_)))))))))))));obtain⟨a3,r9,i3⟩:=An i2;refine wz 9 Z Z (QV.call Ai5 (ea Z) (fun w o=>have h:=H3 w r9 ;h)) ?_;refine wz 10 Z Z (QV.nilCheck Z Z) (zf 11 Zd Z Z (zf 12 V6 Z Z ?_));obtain⟨c8,m4,i4⟩:=cs2 i3;refine wz 13 Z Z (Cr Tz Z Z Z Z c8.1 c8.2) (zl 14 pl3 Z Z (Ez 5 Z (Ir (off:=3) (i:=a3) c8.1 c8.2 Z Z Z) (Hu _ _ _)) (wz 15 Z Z (A6 Z Z Z Z m4) (zl 16 Ja Z Z (co 0 (A2 0 Z c (k.le (j.trans d))) Z) (zf 17 Uc Z Z (zl 18 pl3 Z Z (Aq 3 Z Z) (zm 19 Z Z ?_))))));obtain⟨b8,s0,i5⟩:=An i4;refine wz 20 Z Z (QV.call Agn (ea Z) (fun w o=>have h:=E4 w s0 (Ac 5 Z w o);h)) ?_;refine zm 21 Z Z (wz 22 Z Z (QV.build (ps:=[(0,.tmp 125),(1,.tmp 130),(2,.tmp 131)]) (cells:=[i_ (((pace * f)+slot)+(Cv a.w0 a.w1 a.w2 a3)),i_ b8,i_ b7]) (ea Z) Ag) (Cx 23 Z Ag Z ((Di Ah Ahe Ah Ah (ps:=[(0,.tmp 132)]) (cells:=[i_ (((pace * f)+slot)+(Cv a.w0 a.w1 a.w2 a3)),i_ b8,i_ b7]) (ea Z) Ag (fun t5=>bp [5,0,1,2,3,4,6,8,9] Z (pk [0,2,3,4,5,6,7,8]) (Cx 24 Z Ag Z ?_))))));obtain⟨f6,m5,p5⟩:=cs2 i5;refine(S9 (enc:=Due.cells) (xs:=l) (ys:=[(Due.mk (((pace * f)+slot)+(Cv a.w0 a.w1 a.w2 a3)) b8 b7)]) ((l++[(Due.mk (((pace * f)+slot)+(Cv a.w0 a.w1 a.w2 a3)) b8 b7)])) 7 Ah An9 Z Z Z Z Z (Bb 0 (rows:=[(Due.mk (((pace * f)+slot)+(Cv a.w0 a.w1 a.w2 a3)) b8 b7)].map Due.cells) Z Z (Bq Zy)) Zy (An6 _) Z f6.1 f6.2 (fun l5 e6=>bp [5,0,1,2,3,4,6,7,8,9] Z (pk [0,1,2,3,4,5,6,8,9]) (wz 25 Z Z (QV.nilCheck Z Z) (zf 26 Ji Z Z (Ig 27 Z Ag Z ((ex 6 [l5] (Hr e6) Ajp (oc (Cy e6) B3) Z (Ba (Aj (Bn (wq Z (A6 Z Z Z Z m5) (wm Z (Bk ?_)))))))))))));exact Qh (l++[(Due.mk (((pace * f)+slot)+(Cv a.w0 a.w1 a.w2 a3)) b8 b7)]) q (b+1) l5 v p t b3 ⟨A3 p5 W,e6,N,K,L,d⟩ (Cc _) (sb Z) (pk [4,5,6,7,8,9])
 refine Cw (te (te (Am ?_)));exact Auw l q b u v p t ⟨Bh p6 W,b2,N,K,L,d⟩ (sb Z) (pk [0,1,2,3,4,5])
end Go.Proofs.YtaimbkndebaaiaaGreatDoor
end
section
namespace Go.Proofs.YtaimbkndebaaiaaGreatDoor
open Go.Rd
open TLib TLibR TLibA TSay TNum0 TNum TLoop TPar TStable TMach TMach2
namespace TKern
theorem Atn:Sg Tryz.prog 196 2:=⟨_,Tryz.underlying196,rfl,Ag⟩
theorem Ns:Sg Tryz.prog 60 3:=⟨_,Tryz.underlying60,rfl,Ag⟩
theorem A46:Amq Tryz.prog 196 2 1:=⟨_,Tryz.underlying196,Ag⟩
theorem en121:Go.Rd.Enters Tryz.prog 121:=eT Tryz.func121
theorem A4t:Go.Rd.Enters Tryz.prog 154:=eT Tryz.func154
theorem Ax6:Go.Rd.Enters Tryz.prog 155:=eT Tryz.func155
theorem A4s:Go.Rd.Enters Tryz.prog 158:=eT Tryz.func158
theorem Yf:Cb Tryz.prog 60 1 1:=fT 0 Tryz.underlying60
theorem Ab2:KeyT Tryz.prog 196 kP:=Axd Tryz.underlying196 Tryz.underlying3 Ag
theorem Ab1:Aq1 Tryz.prog 195 196 3:=Tryz.underlying195
theorem A4e:Dt Tryz.prog 196 2:=by unfold Dt;kernel_rfl
theorem A39:ZeroT Tryz.prog 196 [.int .i64 0,.int .i64 0]:=by unfold ZeroT;kernel_rfl
theorem R3:Ale Tryz.prog 3 (Dv 0):=by unfold Ale;kernel_rfl
end TKern
open TKern
theorem Aag {o:Opr}{r:Stm} (w:Ak) (c:Lk o=some r) :Calls Tryz.prog 154 #[.agg #[.int .i64 o.slot,.int .i64 o.stage,.int .i64 o.op,.int .i64 o.dest,.int .i64 o.a,.int .i64 o.b,.int .i64 o.ar,.int .i64 o.sp,.int .i64 o.pl,.int .i64 o.n]] w (fun e w'=>e=.returned (.agg #[.int .i64 r.op,.int .i64 r.a.st,.int .i64 r.a.bk,.int .i64 r.b.st,.int .i64 r.b.bk,.int .i64 r.ar,.int .i64 r.sp,.int .i64 r.pl,.int .i64 r.n])∧Grow w w'):=by
 unfold Lk at c;refine have d:=D0 (w:=w);cw 14 Tryz.func154 Z (sr (Ab Z ((A4 Ah Z Z (fun b1=>Ab Z ((B9 Ah Tv (fun b2=>ns (wf Ud Z (wl pl3 Z (Aq 1 Z Z) (wf Ay7 Z (wl pl3 Z (Aq 1 Z Z) (wf Ay6 Z (wl pl3 Z (Aq 1 Z Z) (wf Ay5 Z (wl pl3 Z (Aq 1 Z Z) (wf Ay4 Z (wl pl2 Z (Aq 1 Z Z) (wq Z (QV.build (ps:=[(0,.tmp 4),(3,.tmp 6),(4,.tmp 8),(5,.tmp 10),(6,.tmp 12)]) (cells:=[i_ o.op,i_ 0,i_ 0,i_ 0,i_ 0,i_ o.ar,i_ o.sp,i_ o.pl,i_ o.n]) (ea Z) Ag) (Ab Z ((ew 0 [i_ o.op,i_ 0,i_ 0,i_ 0,i_ 0,i_ o.ar,i_ o.sp,i_ o.pl,i_ o.n] Tw Z (nt (A9 ?_)))))))))))))))))))))))) (Av d (D3 w));obtain rfl:=(Ad c).symm;exact Wr Z Oj Z Z (Ac 0 Z) fun w f=>kg f
theorem Ug {f:Al}{c:Krn}{o:Opr}{r:Int} (w:Ak) (d:G2 c o=some r) (j:Arr w f 10 (c.ops.map Opr.cells)):Calls Tryz.prog 155 #[.agg #[.int .i64 c.pace,.int .i64 c.stages,f],.agg #[.int .i64 o.slot,.int .i64 o.stage,.int .i64 o.op,.int .i64 o.dest,.int .i64 o.a,.int .i64 o.b,.int .i64 o.ar,.int .i64 o.sp,.int .i64 o.pl,.int .i64 o.n]] w (fun e w'=>e=.returned (.int .i64 r)∧Grow w w'):=by
 unfold G2 at d;refine have g:=D0 (w:=w);cw 13 Tryz.func155 Z (sr (Ab Z ((A4 Ah Z Z (fun b1=>Ab Z ((A4 Ah Z Z (fun b2=>wa Z (ns (wf Ue Z (wl pl3 Z (Aq 0 Z Z) (wf Uf Z (wl pl3 Z (Aq 1 Z Z) (have ⟨c3,c5,h⟩:=cs2 d;wq Z (QV.mul Z Z Z Z c3) (wf Aa8 Z (wl pl3 Z (Aq 0 Z Z) (wq Z (A6 Z Z Z Z c5) (wa Z (nt (A9 ?_)))))))))))))))))))) (Av g (D3 w));obtain rfl:=(Ad h).symm;exact Aw Z Z fun w i=>kg i
theorem Y9 {f g:Addr}{i c n:Int}{t:Tgt}{r:Bool} (w:Ak) (d:Mq i c n t=some r) (j:CellsAt w f [.int .i64 n] 0) (k:CellsAt w g [.int .i64 t.u0,.int .i64 t.u1,.int .i64 t.u2,.int .i64 t.w0,.int .i64 t.w1,.int .i64 t.w2,.int .i64 t.regs] 0):Calls Tryz.prog 158 #[.int .i64 i,.int .i64 c,.pointer (some f),.pointer (some g)] w (fun e w'=>e=.returned (.bool r)∧Grow w w'):=by
 unfold Mq at d;refine have b:=D0 (w:=w);cw 24 Tryz.func158 Z (sr (wa Z (ns (wm Z (wq Z (QV.eql Z Z Z Z) (wm Z (gN Z (Cs pl3 Z Z (co 0 (A2 0 Z b j) Z)) (gN Z (QV.move Z Z) (gn Z (fun a=>QV.gtr Z a Z a) (gn Z (fun a=>QV.move Z a) (gpC Z (fun a=>QV.move Z Z) (gpC Z (fun a=>QV.gtr Z a Z Z) (gn Z (fun a=>A7 Z a Z (fun h=>Avh a h)) (gn Z (fun a=>QV.move Z a) (gpC Z (fun a=>QV.move Z Z) (gpC Z (fun a=>QV.fieldAddr Nw Z Z) (gpC Z (fun a=>Cs pl3 Z a (co 6 (A2 0 Z b k) Z)) (gpC Z (fun a=>QV.lss Z a Z a) (gn Z (fun a=>A7 Z a Z (fun h=>Avh a h)) (wq Z (Bc Z Z Z (fun h=>Fm h)) (wa Z (nt (A9 ?_))))))))))))))))))))))) (Av b (D3 w));obtain rfl:=(Ad d).symm;exact Aw Z Z fun w l=>kg l
theorem Aqf {G l:Al}{t:Tgt}{s:Krn}{o:Opr}{logs:List Int}{r:Bool} (w:Ak) (y:Q5 t s o logs=some r) (J:Arr w G 10 (s.ops.map Opr.cells)) (x:Arr w l 1 (logs.map Ar)):Calls Tryz.prog 121 #[.agg #[.int .i64 t.u0,.int .i64 t.u1,.int .i64 t.u2,.int .i64 t.w0,.int .i64 t.w1,.int .i64 t.w2,.int .i64 t.regs],.agg #[.int .i64 s.pace,.int .i64 s.stages,G],.agg #[.int .i64 o.slot,.int .i64 o.stage,.int .i64 o.op,.int .i64 o.dest,.int .i64 o.a,.int .i64 o.b,.int .i64 o.ar,.int .i64 o.sp,.int .i64 o.pl,.int .i64 o.n],l] w (fun e w'=>e=.returned (.bool r)∧Grow w w'):=by
 unfold Q5 at y;refine have p:=D0 (w:=w);cw 88 Tryz.func121 Z (sr (Ab Z ((A4 Ah Z Z (fun b1=>Ab Z ((A4 Ah Z Z (fun b2=>Ab Z ((A4 Ah Z Z (fun Y=>wa Z (ns (wq Z (Af Abr Z Z Z (Ac 0 Z)) ?_))))))))))))) (Av p (D3 w));obtain⟨d,R,F⟩:=An y;refine wq Z (QV.call A4t (ea Z) (fun w f=>have h:=Aag w R ;h)) ?_;refine Ab Z ((B9 Ah Tv (fun H=>Ab Z ((ew 0 d.cells Tw Z (ns (wq Z (Af Oj Z Z Z (Ac 0 Z)) (Ab Z ?_))))))));obtain⟨U,S,z⟩:=An F;refine(cr [4,0,1,2,3] p Aqz Z (Mh S) Z (fun V I q=>wq Z (A5 Tryz.underlying83 Z Z I.lenMap) (Ab Z ((B9 Ah ze3 (fun W=>Ab Z ((ew 0 [i_ (ln U)] sz3 Z (ns (wq Z (QV.makeFunc (ea Z)) (wa Z (nt (Au (sr (wl pl3 Z (Aq 0 Z Z) (wq Z (QV.gtr Z Z Z Z) (nt ?_)))))))))))))))));obtain⟨T,m,A⟩:=An z;refine Aw2 (dt [3,4,5,6,9,11] [0,1,3,4,5] Z) (fun (g:Int) (i:Int) (j:Int) (k:Int)=>[]) (fun g i j k=>[blk H [i_ d.op,i_ g,i_ i,i_ j,i_ k,i_ d.ar,i_ d.sp,i_ d.pl,i_ d.n] 82]) (fun g i j k=>T=.go (g,i,j,k)) (sb Z) (pk [0,1,3,4,5]) ?_ ?_
 ·skip
  rintro g i j k rfl;refine sr (wm Z (wq Z (QV.build (ps:=[(0,.const (i_ 1))]) (cells:=[i_ 1,i_ 0,i_ 0,i_ 0,i_ 0,i_ 0,i_ 0,i_ 0,i_ 0]) (ea Z) Ag) (wq Z (Af Oj Z Z Z (Ac 0 Z)) (Ab Z ((Di Ah Axs Ah Ah (ps:=[(0,.tmp 27),(1,.tmp 28)]) (cells:=[i_ 1,i_ 0,i_ 0,i_ 0,i_ 0,i_ 0,i_ 0,i_ 0,i_ 0,i_ d.op,i_ g,i_ i,i_ j,i_ k,i_ d.ar,i_ d.sp,i_ d.pl,i_ d.n]) (ea Z) Ag (fun u=>wq Z (Se (ps:=[(0,.tmp 26),(1,.tmp 29)]) (cells:=[l,(Fp u 2 2),.slice none 0 0]) (css:=[[l],[(Fp u 2 2)]]) (ea Z) (P3 (Hr (x.le q).lenMap) (P3 (Hr SliceLen.blk) Ajl)) Ag) (Ab Z ((B9 Ah A1l (fun X=>Ab Z ((ex 0 [l,(Fp u 2 2),.slice none 0 0] (show Ea _=List.toArray _ from Z) Au6 (oc (Cy (x.le q).lenMap) (oc (Cy SliceLen.blk) (oz Z))) Z (ns (wf Aa8 Z (wl pl3 Z (Aq 5 Z Z) (wq Z (QV.geq Z Z Z Z) (wm Z (gP Z (QV.fieldAddr Aa8 Z Z) (gp Z (fun c=>Cs pl3 Z c (Aq 5 Z Z)) (gP Z (QV.fieldAddr Uf Z Z) (gp Z (fun c=>Cs pl3 Z c (Aq 6 Z Z)) (gp Z (fun c=>QV.lss Z c Z c) (wq Z (A7 Z Z Z (fun h=>h)) (wm Z (gP Z (QV.fieldAddr Ue Z Z) (gp Z (fun c=>Cs pl3 Z c (Aq 5 Z Z)) (gp Z (fun c=>QV.geq Z c Z Z) (wq Z (A7 Z Z Z (fun h=>h)) (wm Z (gP Z (QV.fieldAddr Ue Z Z) (gp Z (fun c=>Cs pl3 Z c (Aq 5 Z Z)) ?_))))))))))))))))))))))))))))))));refine gP Z (QV.fieldAddr Yf Z Z) (gp Z (fun c=>Cs pl3 Z c (Aq 6 Z Z)) (gp Z (fun c=>QV.lss Z c Z c) (wq Z (A7 Z Z Z (fun h=>h)) (wm Z (gP Z (Af Ns Z Z Z (Ac 6 Z)) (gP Z (Af Abr Z Z Z (Ac 5 Z)) ?_))))));obtain⟨a0,N,B⟩:=Dg A;refine gp Z (fun c=>QV.call Ax6 (De Z c (De Z c eN)) (fun w f=>have h:=Ug w (N c) ((Ai 4 Z p (J.le q)) w f);h)) ?_;refine gp Z (fun c=>QV.leq Z c Z Z) (wq Z (A7 Z Z Z (fun h=>h)) (wa Z (ns (wm Z (wm Z (gP Z (Af Fc Z Z Z (Ac 0 Z)) ?_))))));obtain⟨a1,O,C⟩:=Dg B;refine gp Z (fun c=>QV.call Ave (De Z c eN) (fun w f=>have h:=Qm w (O c) ((Ai 4 Z p (x.le q)) w f) ((Bb 1 (rows:=[(Stm.mk 1 (Rf.mk 0 0) (Rf.mk 0 0) 0 0 0 0),(Stm.mk d.op (Rf.mk g i) (Rf.mk j k) d.ar d.sp d.pl d.n)].map Stm.cells) Z Z (Bq An5)) w f) Gr;h)) ?_;refine wq Z (A7 Z Z Z (fun h=>h)) (wm Z (gP Z (QV.fieldAddr Uc Z Z) (gp Z (fun c=>Cs pl3 Z c (Aq 5 Z Z)) (gp Z (fun c=>QV.geq Z c Z Z) (wq Z (A7 Z Z Z (fun h=>h)) (wm Z (gP Z (QV.fieldAddr Uc Z Z) (gp Z (fun c=>Cs pl3 Z c (Aq 5 Z Z)) (gP Z (QV.fieldAddr Nw Z Z) (gp Z (fun c=>Cs pl3 Z c (Aq 7 Z Z)) (gp Z (fun c=>QV.lss Z c Z c) (wq Z (A7 Z Z Z (fun h=>h)) (wm Z (gP Z (QV.move Z Z) (gP Z (QV.fieldAddr Ami Z Z) (gp Z (fun c=>Cs pl3 Z c (Aq 5 Z Z)) ?_))))))))))))))));obtain⟨a2,P,E⟩:=Dg C;refine gp Z (fun c=>N6 A4s Z c (De Z c (ea Z)) (fun w f=>have h:=Y9 w (P c) (Ac 3 Z w f) (Ac 7 Z w f);h)) ?_;refine wq Z (A7 Z Z Z (fun h=>h)) (wm Z (gP Z (QV.move Z Z) (gP Z (QV.fieldAddr Amh Z Z) (gp Z (fun c=>Cs pl3 Z c (Aq 5 Z Z)) ?_))));obtain⟨a3,Q,K⟩:=Dg E;refine gp Z (fun c=>N6 A4s Z c (De Z c (ea Z)) (fun w f=>have h:=Y9 w (Q c) (Ac 3 Z w f) (Ac 7 Z w f);h)) ?_;refine wq Z (A7 Z Z Z (fun h=>h)) (wa Z (nt (A9 ?_)));obtain rfl:=(Ad K).symm;exact Aw Z Z fun w f=>kg f
 refine Abm Z (fun v=>?_) (fun v=>?_)
 ·skip
  have L:=Aga v m;clear m;refine Bn (wq Z (QV.build (ps:=[]) (cells:=[i_ 0,i_ 0]) eN Ag) (wq Z (QV.build (ps:=[]) (cells:=[i_ 0,i_ 0]) eN Ag) (wf Ub Z (Ab Z ((ew 2 [i_ 0,i_ 0] Aan Z (wf V5 Z (Ab Z ((ew 2 [i_ 0,i_ 0] Aan Z (Bk ?_)))))))))));exact Mw 0 0 0 0 (Ad L) (sb Z) (pk [2,0,1,3,4,5])
 have M:=Agb v m;clear m;refine sk ?_;exact Mw d.a.st d.a.bk d.b.st d.b.bk (Ad M) (sb Z) (pk [2,0,1,3,4,5])
theorem Ac1 {s L:Al}{t:Tgt}{d:Krn}{logs:List Int}{r:Bool} (w:Ak) (v:K2 t d logs=some r) (l:Arr w s 10 (d.ops.map Opr.cells)) (R:Arr w L 1 (logs.map Ar)):Calls Tryz.prog 78 #[.agg #[.int .i64 t.u0,.int .i64 t.u1,.int .i64 t.u2,.int .i64 t.w0,.int .i64 t.w1,.int .i64 t.w2,.int .i64 t.regs],.agg #[.int .i64 d.pace,.int .i64 d.stages,s],L] w (fun e w'=>e=.returned (.bool r)∧Grow w w'):=by
 unfold K2 at v;refine have o:=D0 (w:=w);cw 82 Tryz.func78 Z (sr (Ab Z ((A4 Ah Z Z (fun b1=>Ab Z ((A4 Ah Z Z (fun b2=>wa Z (nt (Au (sr (wq Z (Af Gn Z Z Z (Ac 1 Z)) ?_)))))))))))) (Av o (D3 w));obtain⟨b3,a5,H⟩:=An v;refine wq Z (QV.call Avg (ea Z) (fun w f=>have h:=M6 w a5 ;h)) ?_;refine wq Z (QV.not Z Z) (wm Z (gN Z (QV.fieldAddr Uf Z Z) (gn Z (fun a=>Cs pl3 Z a (Aq 0 Z Z)) (gn Z (fun a=>QV.lss Z a Z Z) (wq Z (Bc Z Z Z (fun h=>Fm h)) (wm Z (gN Z (QV.fieldAddr Uf Z Z) (gn Z (fun a=>Cs pl3 Z a (Aq 0 Z Z)) (gn Z (fun a=>QV.gtr Z a Z Z) (wq Z (Bc Z Z Z (fun h=>Fm h)) (wm Z (gN Z (QV.fieldAddr Yf Z Z) (gn Z (fun a=>Cs pl3 Z a (Aq 0 Z Z)) (gn Z (fun a=>QV.lss Z a Z Z) (wq Z (Bc Z Z Z (fun h=>Fm h)) (wm Z (gN Z (QV.fieldAddr Yf Z Z) (gn Z (fun a=>Cs pl3 Z a (Aq 0 Z Z)) (gn Z (fun a=>QV.gtr Z a Z Z) (wq Z (Bc Z Z Z (fun h=>Fm h)) (wm Z (gN Z (QV.fieldAddr Oq Z Z) (gn Z (fun a=>Cs Abp Z a (Aq 0 Z Z)) (gn Z (fun a=>A5 Tryz.underlying58 Z a l.lenMap) (gn Z (fun a=>QV.lss Z a Z Z) (wq Z (Bc Z Z Z (fun h=>Fm h)) (wm Z (gN Z (QV.fieldAddr Oq Z Z) (gn Z (fun a=>Cs Abp Z a (Aq 0 Z Z)) ?_)))))))))))))))))))))))))))));refine gn Z (fun a=>A5 Tryz.underlying58 Z a l.lenMap) (gn Z (fun a=>QV.gtr Z a Z Z) (wq Z (Bc Z Z Z (fun h=>Fm h)) (nt ?_)));refine wc Z H (fun Q a1=>?_) (fun Q I=>?_)
 ·skip
  refine sr (wa Z (nt (A9 (tr ?_))));obtain rfl:=(Ad a1).symm;exact Aw Z Z fun w f=>kg f
 refine sk (Aj (sr (Ab Z ((An4 (ke:=kP) (ve:=Dv) Ah (fun u=>wa Z (nt (Au (sr (wf Oq Z (wl Abp Z (Aq 1 Z Z) (wq Z (A5 Tryz.underlying58 Z Z l.lenMap) (wm Z (nt ?_))))))))))))));obtain⟨K,x,a6,a2⟩:=bl I;refine B6 (dt [2,3,4,7,48,49] [1,2,3] Z) (fun (g:List ((Int×Int)×Int)) (c:Int)=>[(50,(true,i_ c))]) (fun g c=>[Xi u kP Dv g]) (fun g c m=>Cp (Ll t d logs) m (g,c)=some K) (fun g c=>K=.go (g,c)) ([]:List ((Int×Int)×Int)) 0 a6 a2 (sb Z) (pk [0,1,2,3]) ?_ ?_
 ·skip
  rintro g c rfl;refine Aj (sr (wa Z (nt (A9 ?_))));obtain rfl:=(Ad x).symm;exact Aw Z Z fun w f=>kg f
 rintro g c m15 B;obtain⟨m17,a9,rfl,p,q⟩:=A0 B;unfold Ll at p;simp only at p;refine sr (wq Z (QV.lss Z Z Z Z) (nt (Au ?_)));refine wc Z p (fun N T=>?_) (fun N a0=>?_)
 ·skip
  refine sk (Aj (Au (Cq (sr (have ⟨A,C⟩:=cs T;have ⟨a8,J⟩:=l.lenMap.ix (sz:=10) Ao A;wq Z (Ae An0 Z Z Z Z J) (wq Z (Af Abr Z Z Z (el (Ai 3 Z o l) J A)) (Ab Z ((B9 Ah Aqs (fun y=>Ab Z ((ew 0 (Opr.cells (ele d.ops c)) Aqt Z (nt (Au (sr (wq Z (Af Gn Z Z Z (Ac 3 Z)) (wq Z (Af Ns Z Z Z (Ac 2 Z)) (wq Z (Af Abr Z Z Z (Ac 0 Z)) (wm Z ?_)))))))))))))))))));obtain⟨b0,a3,E⟩:=An C;refine wq Z (QV.call en121 (ea Z) (fun w f=>have h:=Aqf w a3 ((Ai 4 Z o l) w f) ((Ai 4 Z o R) w f);h)) ?_;refine wq Z (QV.not Z Z) (nt ?_);refine wc Z E (fun O U=>?_) (fun O F=>?_)
  ·skip
   refine sr (wa Z (nt (A9 (tr (kr (tr (tr (kr (tr (tr ?_))))))))));obtain rfl:=Dr U q;obtain rfl:=(Ad x).symm;exact Aw Z Z fun w f=>kg f
  refine sk (Aj (Au (dp 8 [4,0,1,2,3] Z (zf 0 Aa8 Z Z (zl 1 pl3 Z Z (Aq 1 Z Z) (zf 2 Ud Z Z (zl 3 pl3 Z Z (Aq 1 Z Z) ?_)))))));obtain⟨j,a4,V⟩:=An F;refine wz 4 Z Z (QV.call Ai5 (ea Z) (fun w f=>have h:=H3 w a4 ;h)) ?_;refine wz 5 Z Z (QV.build (ps:=[(0,.tmp 61),(1,.tmp 64)]) (cells:=[i_ ((ele d.ops c).slot),i_ j]) (ea Z) Ag) (Cx 6 Z Ag Z ((B9 Ah A39 (fun z=>bp [5,0,1,2,3,4] Z (pk [0,2,3,4,5]) (Ig 7 Z Ag Z ((ew 0 [i_ ((ele d.ops c).slot),i_ j] A4e Z (Aj (Au (Aon (m:=7) (S:=Own noM w [kn noM w.heap.size w w,blk z [i_ ((ele d.ops c).slot),i_ j] 196,blk y (Opr.cells (ele d.ops c)) 64,Alc u kP Dv 0 g,blk b2 [i_ d.pace,i_ d.stages,s] 60,blk b1 t.cells 27]) Ag Ag (fun w f=>Y5 3 0 Z (f.pick [5,0,1,2,3,4] Ah)) (zm 0 Z Z (wz 1 Z Z (Af Atn Z Z Z (Ac 1 Z)) (wz 2 Z Z (Abh (k:=((ele d.ops c).slot,j)) 3 0 Ab1 Ab2 R3 Z Z Z Z Z) (have ⟨M,n,G⟩:=cs2 V;wz 3 Z Z (A6 Z Z Z Z M) (Cx 4 Z Ag Z ((EV.mapEntry Ah ((ele d.ops c).slot,j) 2 0 Ab1 Ab2 R3 Z Z Z Z Z (fun a7=>WD.b (H':=[kn noM w.heap.size w w,blk z [i_ ((ele d.ops c).slot),i_ j] 196,blk y (Opr.cells (ele d.ops c)) 64,Alc u kP Dv 0 g,blk b2 [i_ d.pace,i_ d.stages,s] 60,blk b1 t.cells 27]) (fun w f=>Y4 3 Z (f.pick [5,0,1,2,3,4] Ah)) (pk [0,1,2,3,4,5]) (wz 5 Z Z (Bi Z Z Z) (Ig 6 Z Ag Z ((EV.entryStore (ke:=kP) (ve:=Dv) ((ele d.ops c).slot,j) 2 ((Fz g ((ele d.ops c).slot,j) 0)+1) a7 Z Z Z Z Z Z Z (Aj (Au (dp 9 [5,0,1,2,3,4] Z (zm 0 Z Z (wz 1 Z Z (Af Atn Z Z Z (Ac 1 Z)) (wz 2 Z Z (QV.lookup (k:=((ele d.ops c).slot,j)) 3 0 Ab1 Ab2 R3 Z Z Z Z Z) (wz 3 Z Z (Cr A46 Z Z Z Z Ah Ah) (zl 4 pl3 Z Z (Aq 1 Z Z) (zf 5 Yj Z Z (wz 6 Z Z (Cr Tz Z Z Z Z n.1 n.2) (zl 7 pl3 Z Z (Ez 5 Z (Ir (off:=0) (i:=j) n.1 n.2 Z Z Z) (Hu _ _ _)) (wz 8 Z Z (QV.gtr Z Z Z Z) ?_))))))))))))))))))))))))))))))))));refine Eh Ag (Aj ?_);refine wc Z G (fun P W=>?_) (fun P X=>?_)
  ·skip
   refine sr (wa Z (nt (A9 (kr (tr (tr (kr (tr (tr ?_)))))))));obtain rfl:=Dr W q;obtain rfl:=(Ad x).symm;exact Aw Z Z fun w f=>kg f
  refine sk (Ba (Aj (Bn (have ⟨c46,Y⟩:=cs X;wq Z (A6 Z Z Z Z c46) (wm Z (Bk ?_))))));exact Bs (Oi g ((ele d.ops c).slot,j) ((Fz g ((ele d.ops c).slot,j) 0)+1)) (c+1) m17 (A3 Y q) (Cc _) (sb Z) (pk [2,3,4,5])
 refine Cw (te (te (Am ?_)));exact Cm g c (Bh a0 q) (sb Z) (pk [0,1,2,3])
end Go.Proofs.YtaimbkndebaaiaaGreatDoor
end
section
namespace Go.Proofs.YtaimbkndebaaiaaGreatDoor
open Go.Rd
open TLib TLibR TLibA TSay TNum0 TNum TLoop TPar TStable TMach TMach2 TKern
namespace TClone
theorem Ru:Nx Tryz.prog 43 2 1 [.int .i64 0]:=⟨Tryz.underlying43,Ag⟩
end TClone
open TClone
theorem slClw {d:Al}{s r:List Int}{b:Ak} (c:Axu d s=some r) (f:Arr b d 1 (s.map Ar)) (M:Nat→Prop) (w:Ak) (g:Base M b w) (m:Own M w [] w):Calls Tryz.prog 79 #[d] w (fun e w'=>∃ X:Al×Ak,e=.returned (X.1)∧Own M w (kn M w.heap.size b X.2::[vec X.1 2 1 (List.map Ar r)]) w'∧SliceLen X.1 (r).length):=by
 unfold Axu at c;refine cw 8 Tryz.func79 Z (sr (wa Z (nt (Au (sr (wm Z (wq Z (Axa Tryz.underlying43 Z Z f.lenMap) (nt ?_)))))))) (Av g m);refine wc Z c (fun h i=>?_) (fun h j=>?_)
 ·skip
  refine sr (wa Z (nt (A9 (tr ?_))));obtain rfl:=(Ad i).symm;refine F7 (fun w a=>a.vecNil (E:=2) (sz:=1) (enc:=Ar)) (Aw Z Z (fun w a=>?_));exact⟨(.slice none 0 0,b),Z,a.pick [1,0] Ah,Gq⟩
 refine sk (Aj (sr (Ab Z ((Ai1 Ah Ru (fun n=>wm Z (Ab Z (EV.of (fun w a=>a.blkVec Ar ([]:List Int) Z Bd (nl Z)) (have ⟨c6,k⟩:=cs j;(Bt (enc:=Ar) (xs:=[]) (ys:=s) (([]++s)) 0 Ah Aam Z Z Z Z Z (Ai 1 Z g f) Bd (Dl _) Z c6.1 c6.2 (fun u8 l=>wa Z (nt (A9 ?_)))))))))))));obtain rfl:=(Ad k).symm;refine Aw Z Z (fun w a=>?_);exact⟨(u8,b),Z,a.pick [1,0] Ah,l⟩
theorem Au3 {b:Al}{s r:List Int}{a:Ak} (h:Acg s=some r) (c:Arr a b 1 (s.map Ar)) (M:Nat→Prop) (w:Ak) (g:Base M a w) (j:Own M w [] w):Calls Tryz.prog 79 #[b] w (fun e w'=>∃ X:Al×Ak,e=.returned (X.1)∧Own M w (kn M w.heap.size a X.2::[vec X.1 2 1 (r.map Ar)]) w'∧SliceLen X.1 (r).length):=by
  obtain⟨d,f⟩:=Qw h;obtain rfl:=Ad f;refine slClw ?_ c M w g j;unfold Axu
  cases i:Ahg b with
  | true =>
    have:=Ass c.lenMap i;rw[Z5.1 this];rfl
  | false=>simp[br,Ax d]
end Go.Proofs.YtaimbkndebaaiaaGreatDoor
end
section
namespace Go.Proofs.YtaimbkndebaaiaaGreatDoor
open Go.Rd
open TLib TLibR TLibA TSay TNum0 TNum TLoop TPar TStable TMach TMach2 TKern TClone
namespace TNbr
end TNbr
open TNbr
end Go.Proofs.YtaimbkndebaaiaaGreatDoor
end
section
namespace Go.Proofs.YtaimbkndebaaiaaGreatDoor
open Go.Rd
open TLib TLibR TLibA TSay TNum0 TNum TLoop TPar TStable TMach TMach2 TKern TClone TNbr
namespace TSeq
theorem Ato:Sg Tryz.prog 106 2:=⟨_,Tryz.underlying106,rfl,Ag⟩
theorem Ax8:Go.Rd.Enters Tryz.prog 115:=eT Tryz.func115
theorem en70:Go.Rd.Enters Tryz.prog 70:=eT Tryz.func70
theorem en71:Go.Rd.Enters Tryz.prog 71:=eT Tryz.func71
theorem en72:Go.Rd.Enters Tryz.prog 72:=eT Tryz.func72
theorem en79:Go.Rd.Enters Tryz.prog 79:=eT Tryz.func79
theorem Afx:Cb Tryz.prog 106 0 0:=fT 0 Tryz.underlying106
theorem Ane:Cb Tryz.prog 148 0 0:=fT 2 Tryz.underlying148
theorem Zg:Cb Tryz.prog 148 1 3:=fT 0 Tryz.underlying148
theorem Anc:Cb Tryz.prog 148 2 4:=fT 0 Tryz.underlying148
theorem Ajq:Dt Tryz.prog 106 2:=by unfold Dt;kernel_rfl
theorem sz43:Dt Tryz.prog 43 1:=by unfold Dt;kernel_rfl
theorem Ate:ZeroT Tryz.prog 106 [.slice none 0 0,.slice none 0 0]:=by unfold ZeroT;kernel_rfl
end TSeq
open TSeq
theorem Aii {B:Al}{l r:List (List Int)}{g:Ak} (q:Qk l=some r) (u:RowsA g B l) (M:Nat→Prop) (w:Ak) (o:Base M g w) (S:Own M w [] w):Calls Tryz.prog 71 #[B] w (fun e w'=>∃ X:Al×(List Al)×Ak,e=.returned (X.1)∧Own M w (kn M w.heap.size g X.2.2::[Jb X.1 X.2.1 43 2 r]) w'∧SliceLen X.1 (r).length∧GL X.2.1 r):=by
 unfold Qk at q;refine cw 19 Tryz.func71 Z (sr (wa Z (ns (wa Z (nt (Au (sr (wm Z (wq Z (A5 Tryz.underlying102 Z Z u.slen) (wm Z (nt (F7 (fun w s=>s.gridNil (E1:=43) (E2:=2)) ?_)))))))))))) (Av o S);obtain⟨A,O,V,P⟩:=bl q;refine O6 (dt [6,7] [] Z) (fun (a:List (List Int)) (f:Int) (c:Al) (b:List Al) (d:Ak)=>[(3,(true,c)),(8,(true,i_ f))]) (fun a f c b d=>[Jb c b 43 2 a,kn M w.heap.size g d]) (fun a f c b d m=>Cp (O8 l) m (a,f)=some A∧SliceLen c a.length∧GL b a∧Le g d) (fun a f c b d=>A=.go (a,f)∧SliceLen c a.length∧GL b a∧Le g d) [] 0 L3 [] g V ⟨P,Gq,GL.nil,(Ih _)⟩ (sb Z) (pk [0,1]) ?_ ?_
 ·skip
  rintro a f c b d ⟨rfl,p,h,j⟩;refine Aj (sr (wm Z (wa Z (nt (A9 ?_)))));obtain rfl:=(Ad O).symm;refine Aw Z Z (fun w s=>?_);exact⟨(c,b,d),Z,s.pick [1,0] Ah,p,h⟩
 rintro a f c b d a1 ⟨t,p,h,j⟩;obtain⟨U,a3,rfl,k,z⟩:=A0 t;unfold O8 at k;simp only at k;refine sr (wq Z (QV.lss Z Z Z Z) (nt (Au ?_)));refine wc Z k (fun G v=>?_) (fun G N=>?_)
 ·skip
  refine sk (Aj (Au (Cq (sr ?_))));obtain⟨C,x⟩:=cs v;obtain⟨a2,a4,Q,I,H⟩:=(u.le j).ix C;refine wq Z (Ae Ti Z Z Z Z Q) (wl Ty Z (co 0 (A2 1 Z o I) Z) (wa Z (nr (wm Z (wm Z (Ab Z ?_))))));obtain⟨Y,T,y⟩:=An x;refine(cr [1,0] o en79 Z (Au3 T H) Z (fun i n K=>Ab Z ((Di Ah Aa1 Ah Ah (ps:=[(0,.tmp 14)]) (cells:=[i.1]) (ea Z) (Wd n) (fun a0=>Ab Z ?_)))));obtain⟨E,F,L⟩:=cs2 y;refine ep [3,2,0,1] Z ((Atb Ah Agh Z Z Z Z n (Bb 2 (rows:=[[i.1]]) Z Z (Az0)) E h (fun W R=>have J:=h.snoc n;wa Z (Bk (Ba (Aj (Bn (wq Z (A6 Z Z Z Z F) (wm Z (Bk ?_))))))))));exact O5 (a++[Y]) (f+1) W (b++[i.1]) i.2 U ⟨A3 L z,R,J,(j.trans K)⟩ (Cc _) (sb Z) (pk [0,2])
 refine Cw (te (te (Am ?_)));exact Tm a f c b d ⟨Bh N z,p,h,j⟩ (sb Z) (pk [0,1])
theorem Qs {m:Addr}{C B E p F o:Al}{n:List (List Int)}{x:Rf}{now:List Int}{r:Int} (w:Ak) (b:E9 n x now=some r) (t:RowsA w p n) (A:CellsAt w m [C,B,E,p,F] 0) (g:Arr w o 1 (now.map Ar)):Calls Tryz.prog 115 #[.pointer (some m),.agg #[.int .i64 x.st,.int .i64 x.bk],o] w (fun e w'=>e=.returned (.int .i64 r)∧Grow w w'):=by
 unfold E9 at b;refine have a:=D0 (w:=w);cw 28 Tryz.func115 Z (sr (Ab Z ((A4 Ah Z Z (fun b1=>wa Z (nt (Au (sr (wf Rg Z (wl pl3 Z (Aq 0 Z Z) (wq Z (QV.eql Z Z Z Z) (nt ?_)))))))))))) (Av a (D3 w));refine wc Z b (fun s i=>?_) (fun s j=>?_)
 ·skip
  refine sr (wm Z (wf St Z (wl pl3 Z (Aq 0 Z Z) ?_)));obtain⟨c4,y⟩:=cs i;obtain⟨I,l⟩:=g.lenMap.ix (sz:=1) Ao c4;refine wq Z (Ae Xl Z Z Z Z l) (wl pl2 Z (cl 0 (Ai 1 Z a g) l c4 Z) (wa Z (nt (A9 (tr ?_)))));obtain rfl:=(Ad y).symm;exact Aw Z Z fun w c=>kg c
 refine sk (Aj (Au (dp 14 [1,0] Z (zm 0 Z Z (wz 1 Z Z (QV.nilCheck Z Z) (zf 2 Zg Z Z (zl 3 Ko Z Z (co 3 (A2 0 Z a A) Z) (zf 4 Rg Z Z (zl 5 pl3 Z Z (Aq 1 Z Z) ?_)))))))));obtain⟨c9,q,h⟩:=cs2 j;refine wz 6 Z Z (D2 Z Z Z Z c9) ?_;obtain⟨G,J,z,u,f⟩:=t.ix q;refine wz 7 Z Z (Ae Ti Z Z Z Z z) (zl 8 Ty Z Z (co 0 (A2 0 Z a u) Z) (zf 9 St Z Z (zl 10 pl3 Z Z (Aq 1 Z Z) ?_)));obtain⟨d,v⟩:=cs h;obtain⟨H,k⟩:=f.lenMap.ix (sz:=1) Ao d;refine wz 11 Z Z (Ae Xl Z Z Z Z k) (zl 12 pl2 Z Z (cl 0 (Ai 0 Z a f) k d Z) (wz 13 Z Z (QV.assign Z Z) (Eh Ag (Aj (A9 ?_)))));obtain rfl:=(Ad v).symm;exact Aw Z Z fun w c=>kg c
theorem Ac5 {P O Q d9 o:Al}{s:List Al}{H:Nat}{N:List Int}{f:List Stm}{d8:List Int}{z y:List (List Int)}{t:Int}{r:List (List Int)×List (List Int)}{p:Ak} (L:J0 N f d8 z y t=some r) (F:Arr p P 1 (N.map Ar)) (J:Arr p O 9 (f.map Stm.cells)) (k8:Arr p Q 1 (d8.map Ar)) (v:RowsA p d9 z) (f9:SliceLen o y.length) (g1:GL s y) (M:Nat→Prop) (w:Ak) (j:Base M p w) (i8:Own M w [blk H [P,O,Q,d9,o] 148,Jb o s 43 2 y] w):Calls Tryz.prog 72 #[.pointer (some (⟨H,0,none⟩)),.int .i64 t] w (fun e w'=>∃ X:Al×Al×(List Al)×Ak,e=.returned (.tuple #[])∧Own M w (kn M w.heap.size p X.2.2.2::[blk H [P,O,Q,X.1,X.2.1] 148,Jb X.2.1 X.2.2.1 43 2 r.2]) w'∧RowsA X.2.2.2 X.1 r.1∧SliceLen X.2.1 (r.2).length∧GL X.2.2.1 r.2):=by
 unfold J0 at L;refine cw 116 Tryz.func72 Z (sr (wa Z (nt (Au (sr (wm Z (wq Z (QV.nilCheck Z Z) (wf Ane Z (wf Ds Z (wl J3 Z (Aq 1 Z Z) (wq Z (A5 Tryz.underlying45 Z Z J.lenMap) (wm Z (nt (F7 (fun w d=>d.vecNil (E:=2) (sz:=1) (enc:=Ar)) ?_)))))))))))))) (Av j i8);obtain⟨d7,b4,j5,h9⟩:=bl L;refine Kh (dt [0,1,12,13] [1,2] Z) (fun (a:List Int) (c:List (List Int)) (b:Int) (g:Al)=>[(4,(true,g)),(14,(true,i_ b))]) (fun a c b g=>[vec g 2 1 (List.map Ar a),Jb o s 43 2 c]) (fun a c b g m=>Cp (Fw N f z t) m (a,c,b)=some d7∧SliceLen g a.length∧SliceLen o c.length∧GL s c) (fun a c b g=>d7=.go (a,c,b)∧SliceLen g a.length∧SliceLen o c.length∧GL s c) [] y 0 (.slice none 0 0) j5 ⟨h9,Gq,f9,g1⟩ (sb Z) (pk [0,3,1,2]) ?_ ?_
 ·skip
  rintro a c b g ⟨rfl,K,k,i⟩;refine Aj (Bn (wm Z (wm Z (Ab Z ((Di Ah Aa1 Ah Ah (ps:=[(0,.tmp 106)]) (cells:=[g]) (ea Z) (Wd K) (fun k6=>wm Z (wq Z (QV.nilCheck Z Z) (wf Zg Z (wl Ko Z (Aq 4 Z Z) ?_))))))))));obtain⟨c8,c5⟩:=cs b4;refine have f2:=RowsA.sub v c8;wq Z (Ox Ti Z Z v.slen Z Z c8) (Ab Z (ep [3,1,0,2,4] Z (Sh j (fun d5 g3 i0=>have f3:=Cj i0;ep [1,0,2,3] Z (EV.of (fun w d=>d.blkVec Hy ([(g,a)]:List (Al×List Int)) Z Jf (nl Z)) ?_)))));have f6:RowsK d5 ([(g,a)]:List (Al×List Int)):=(RowsK.cons f3 Agd);obtain⟨u,f5,f8,a5⟩:=(f2.le g3);obtain⟨U,g9⟩:=cs c5;have f7:RowsK d5 (([(g,a)]:List (Al×List Int))++u):=RowsK.append f6 a5;have C:((([(g,a)]:List (Al×List Int))++u):List (Al×List Int)).map (·.2)=(([a]:List (List Int))++(sub z 0 2)):=Av5 rfl f5;refine(Bt (enc:=Hy) (xs:=([(g,a)]:List (Al×List Int))) (ys:=u) (([(g,a)]:List (Al×List Int))++u) 0 Ah Agh Z Z Z Z Z (Ai 1 Z j f8) Jf (Av4 a5) Z (AL.b1 C U) (AL.b2 C U) (fun u16 i4=>have a6:=Uw C i4;wq Z (QV.nilCheck Z Z) (wf Zg Z (Ab Z ((ex 3 [u16] (Hr a6) Ajr (oc (Cy a6) B3) Z (Bk ?_)))))));obtain rfl:=(Ad g9).symm;refine kp [1,0,2,3] Z (Gk j (fun d6 g4 i1=>?_));have f4:RowsA d6 u16 (([a]:List (List Int))++(sub z 0 2)):=⟨(([(g,a)]:List (Al×List Int))++u),C,Cj i1,(f7.le g4)⟩;refine Jk Z (fun w d=>?_);exact⟨(u16,o,s,d6),Z,d.pick [0,2,1] Ah,f4,k,i⟩
 rintro a c b g k9 ⟨a4,K,k,i⟩;obtain⟨x,l7,rfl,G,q⟩:=A0 a4;unfold Fw at G;simp only at G;refine sr (wq Z (QV.lss Z Z Z Z) (nt (Au ?_)));refine wc Z G (fun e7 h0=>?_) (fun e7 g8=>?_)
 ·skip
  refine sk (Aj (Au (Cq (sr (have ⟨V,b3⟩:=cs h0;have ⟨l0,c7⟩:=J.lenMap.ix (sz:=9) Ao V;wq Z (Ae Xk Z Z Z Z c7) (wq Z (Af Oj Z Z Z (el (Ai 2 Z j J) c7 V)) (Ab Z ((B9 Ah Tv (fun k3=>Ab Z ((ew 0 (Stm.cells (ele f b)) Tw Z (ns (wa Z (nt (Au (sr (wf Jd Z (wl pl3 Z (Aq 0 Z Z) (nt (Cq (sr (wq Z (QV.eql Z Z Z Z) (wa Z (nt ?_)))))))))))))))))))))))));refine wc Z b3 (fun e8 h1=>?_) (fun e8 b5=>?_)
  ·skip
   refine Bn (wf Amg Z (wl pl2 Z (Aq 0 Z Z) (wa Z (Bk (Ba (Aj (Bn (wm Z (wm Z (Ab Z ((Di Ah Ru Ah Ah (ps:=[(0,.tmp 101)]) (cells:=[i_ ((ele f b).n)]) (ea Z) Ag (fun k4=>Ab Z (have ⟨W,e3,h2⟩:=cs2 h1;(Bt (enc:=Ar) (xs:=a) (ys:=[(ele f b).n]) ((a++[(ele f b).n])) 2 Ah Aam Z Z Z Z Z (Bb 0 (rows:=[(ele f b).n].map Ar) Z Z (Bq Bd)) Bd (Dl _) Z W.1 W.2 (fun j8 i5=>wa Z (Bk (Ba (Aj (Bn (wq Z (A6 Z Z Z Z e3) (wm Z (Bk ?_)))))))))))))))))))))));exact F1 (a++[(ele f b).n]) c (b+1) j8 x ⟨A3 h2 q,i5,k,i⟩ (Cc _) (sb Z) (pk [2,3,4,5])
  refine sr (wq Z (QV.eql Z Z Z Z) (wa Z (nt ?_)));refine wc Z b5 (fun e9 h3=>?_) (fun e9 b6=>?_)
  ·skip
   refine Bn (wm Z (wa Z (Bk (Ba (Aj (Bn (wm Z (wm Z (Ab Z ((Di Ah Ru Ah Ah (ps:=[(0,.tmp 101)]) (cells:=[i_ t]) (ea Z) Ag (fun k5=>Ab Z (have ⟨Y,e4,h4⟩:=cs2 h3;(Bt (enc:=Ar) (xs:=a) (ys:=[t]) ((a++[t])) 2 Ah Aam Z Z Z Z Z (Bb 0 (rows:=[t].map Ar) Z Z (Bq Bd)) Bd (Dl _) Z Y.1 Y.2 (fun j9 i6=>wa Z (Bk (Ba (Aj (Bn (wq Z (A6 Z Z Z Z e4) (wm Z (Bk ?_))))))))))))))))))))));exact F1 (a++[t]) c (b+1) j9 x ⟨A3 h4 q,i6,k,i⟩ (Cc _) (sb Z) (pk [2,3,4,5])
  refine sr (wq Z (QV.eql Z Z Z Z) (wa Z (nt ?_)));refine wc Z b6 (fun f0 b7=>?_) (fun f0 c1=>?_)
  ·skip
   refine dp 26 [3,0,1,2,4] Z (zm 0 Z Z (wz 1 Z Z (QV.nilCheck Z Z) (zf 2 Anc Z Z (zl 3 Ko Z Z (Aq 4 Z Z) (zf 4 Ss Z Z (zl 5 pl3 Z Z (Aq 1 Z Z) ?_))))));obtain⟨I,b8⟩:=cs b7;obtain⟨l1,c9⟩:=k.ix (sz:=1) Ao I;refine wz 6 Z Z (Ae Ti Z Z Z Z c9) (zl 7 Ty Z Z (Fj 3 Z c9 I) (zf 8 Ye Z Z (zl 9 pl3 Z Z (Aq 1 Z Z) (zf 10 Yd Z Z (zl 11 pl3 Z Z (Aq 1 Z Z) (zm 12 Z Z (zm 13 Z Z (wz 14 Z Z (QV.nilCheck Z Z) (zf 15 Ane Z Z (zf 16 Pm Z Z (zl 17 Fl Z Z (Aq 4 Z Z) (zf 18 Ss Z Z (zl 19 pl3 Z Z (Aq 1 Z Z) ?_)))))))))))));obtain⟨a0,b9⟩:=cs b8;obtain⟨l2,d0⟩:=F.lenMap.ix (sz:=1) Ao a0;refine wz 20 Z Z (Ae Fs Z Z Z Z d0) (zl 21 pl3 Z Z (cl 0 (Ai 0 Z j F) d0 a0 Z) ?_);obtain⟨B,j2,c0⟩:=An b9;refine wz 22 Z Z (QV.call Ax9 (ea Z) (fun w d=>have h:=Yx w j2 ;h)) ?_;obtain⟨a1,h5⟩:=cs c0;obtain⟨l3,d1⟩:=(i.ix ((ele f b).ar)).ix (sz:=1) Ao a1;refine wz 23 Z Z (Ae Xl Z Z Z Z d1) (zl 24 pl2 Z Z (cl 0 (Jq 3 Z I) d1 a1 Z) (wz 25 Z Z (QV.assign Z Z) (Eh Ag (Ba (Aj (Bn (wm Z (wm Z (Ab Z ((Di Ah Ru Ah Ah (ps:=[(0,.tmp 101)]) (cells:=[i_ (ele (ele c ((ele f b).ar)) B)]) (ea Z) Ag (fun k7=>Ab Z (have ⟨a2,e5,h6⟩:=cs2 h5;(Bt (enc:=Ar) (xs:=a) (ys:=[(ele (ele c ((ele f b).ar)) B)]) ((a++[(ele (ele c ((ele f b).ar)) B)])) 2 Ah Aam Z Z Z Z Z (Bb 0 (rows:=[(ele (ele c ((ele f b).ar)) B)].map Ar) Z Z (Bq Bd)) Bd (Dl _) Z a2.1 a2.2 (fun k0 i7=>wa Z (Bk (Ba (Aj (Bn (wq Z (A6 Z Z Z Z e5) (wm Z (Bk ?_))))))))))))))))))))));exact F1 (a++[(ele (ele c ((ele f b).ar)) B)]) c (b+1) k0 x ⟨A3 h6 q,i7,k,i⟩ (Cc _) (sb Z) (pk [2,3,4,5])
  refine sr (wq Z (QV.eql Z Z Z Z) (wa Z (nt ?_)));refine wc Z c1 (fun f1 c2=>?_) (fun f1 a7=>?_)
  ·skip
   refine sr (wm Z (wf Ub Z (wq Z (Af Ol Z Z Z (cu 1 2 (Ac 0 Z) Z)) (wm Z ?_))));obtain⟨l,j3,c3⟩:=An c2;refine wq Z (QV.call Ax8 (ea Z) (fun w d=>have h:=Qs w j3 (M3 3 Z j v w d) (Ac 4 Z w d) ((Cz 1 Z) w d);h)) ?_;refine wa Z (nt (dp 26 [3,0,1,2,4] Z (zm 0 Z Z (wz 1 Z Z (QV.nilCheck Z Z) (zf 2 Anc Z Z (zl 3 Ko Z Z (Aq 4 Z Z) (zf 4 Ss Z Z (zl 5 pl3 Z Z (Aq 1 Z Z) ?_))))))));obtain⟨c85,c4⟩:=cs c3;obtain⟨l4,d2⟩:=k.ix (sz:=1) Ao c85;refine wz 6 Z Z (Ae Ti Z Z Z Z d2) (zl 7 Ty Z Z (Fj 3 Z d2 c85) (zf 8 Ye Z Z (zl 9 pl3 Z Z (Aq 1 Z Z) (zf 10 Yd Z Z (zl 11 pl3 Z Z (Aq 1 Z Z) (zm 12 Z Z (zm 13 Z Z (wz 14 Z Z (QV.nilCheck Z Z) (zf 15 Ane Z Z (zf 16 Pm Z Z (zl 17 Fl Z Z (Aq 4 Z Z) (zf 18 Ss Z Z (zl 19 pl3 Z Z (Aq 1 Z Z) ?_)))))))))))));obtain⟨a3,c6⟩:=cs c4;obtain⟨l5,d3⟩:=F.lenMap.ix (sz:=1) Ao a3;refine wz 20 Z Z (Ae Fs Z Z Z Z d3) (zl 21 pl3 Z Z (cl 0 (Ai 0 Z j F) d3 a3 Z) ?_);obtain⟨R,j4,h7⟩:=An c6;refine wz 22 Z Z (QV.call Ax9 (ea Z) (fun w d=>have h:=Yx w j4 ;h)) ?_;refine zm 23 Z Z (have ⟨e6,h8⟩:=cs h7;have ⟨l6,d4⟩:=(i.ix ((ele f b).ar)).ix (sz:=1) Ao e6;wz 24 Z Z (Ae Xl Z Z Z Z d4) (Ig 25 Z Ag Z ((Vi 2 l Z Z Z Z Z c85 d4 sz2 ?_))));have g0:=i.updG ((ele f b).ar) R l;have g2:SliceLen o (updG c ((ele f b).ar) R l).length:=U9 k;refine Ba (Aj (Bn (wm Z (wm Z (Ab Z ((Di Ah Ru Ah Ah (ps:=[(0,.tmp 101)]) (cells:=[i_ l]) (ea Z) Ag (fun k1=>Ab Z (have ⟨S,e0,g5⟩:=cs2 h8;(Bt (enc:=Ar) (xs:=a) (ys:=[l]) ((a++[l])) 2 Ah Aam Z Z Z Z Z (Bb 0 (rows:=[l].map Ar) Z Z (Bq Bd)) Bd (Dl _) Z S.1 S.2 (fun j6 i2=>wa Z (Bk (Ba (Aj (Bn (wq Z (A6 Z Z Z Z e0) (wm Z (Bk ?_))))))))))))))))));exact F1 (a++[l]) (updG c ((ele f b).ar) R l) (b+1) j6 x ⟨A3 g5 q,i2,g2,g0⟩ (Cc _) (sb Z) (pk [2,3,4,5])
  refine dp 15 [3,0,1,2,4] Z (zf 0 Jd Z Z (zl 1 pl3 Z Z (Aq 1 Z Z) ?_));obtain⟨e1,a8⟩:=cs a7;refine wz 2 Z Z (D2 Z Z Z Z e1) (zm 3 Z Z (zf 4 Ub Z Z (wz 5 Z Z (Af Ol Z Z Z (cu 1 2 (Ac 1 Z) Z)) (zm 6 Z Z ?_))));obtain⟨l8,i9,a9⟩:=An a8;refine wz 7 Z Z (QV.call Ax8 (ea Z) (fun w d=>have h:=Qs w i9 (M3 0 Z j v w d) (Ac 4 Z w d) ((Cz 2 Z) w d);h)) ?_;refine zm 8 Z Z (zf 9 V5 Z Z (wz 10 Z Z (Af Ol Z Z Z (cu 3 2 (Ac 1 Z) Z)) (zm 11 Z Z ?_)));obtain⟨l9,j0,b0⟩:=An a9;refine wz 12 Z Z (QV.call Ax8 (ea Z) (fun w d=>have h:=Qs w j0 (M3 0 Z j v w d) (Ac 4 Z w d) ((Cz 2 Z) w d);h)) ?_;obtain⟨A,j1,g6⟩:=An b0;refine wz 13 Z Z (QV.call A4z (ea Z) (fun w d=>have h:=Ao8 w j1 ;h)) ?_;refine wz 14 Z Z (QV.assign Z Z) (Eh Ag (Ba (Aj (Bn (wm Z (wm Z (Ab Z ((Di Ah Ru Ah Ah (ps:=[(0,.tmp 101)]) (cells:=[i_ A]) (ea Z) Ag (fun k2=>Ab Z (have ⟨T,e2,g7⟩:=cs2 g6;(Bt (enc:=Ar) (xs:=a) (ys:=[A]) ((a++[A])) 2 Ah Aam Z Z Z Z Z (Bb 0 (rows:=[A].map Ar) Z Z (Bq Bd)) Bd (Dl _) Z T.1 T.2 (fun j7 i3=>wa Z (Bk (Ba (Aj (Bn (wq Z (A6 Z Z Z Z e2) (wm Z (Bk ?_))))))))))))))))))));exact F1 (a++[A]) c (b+1) j7 x ⟨A3 g7 q,i3,k,i⟩ (Cc _) (sb Z) (pk [2,3,4,5])
 refine Cw (te (te (Am ?_)));exact Mw a c b g ⟨Bh g8 q,K,k,i⟩ (sb Z) (pk [0,1,2,3])
theorem Aj6 {L K N g1 g2:Al}{l:Lp}{s:Sta}{b0:Int}{r:Rst×Int}{v:Ak} (a8:Lb l s b0=some r) (c8:Arr v L 1 (l.logs.map Ar)) (c7:Arr v K 9 (l.body.map Stm.cells)) (O:Arr v N 1 (l.outs.map Ar)) (a3:RowsA v g1 s.bef) (c9:RowsA v g2 s.mem) (M:Nat→Prop) (w:Ak) (d:Base M v w) (l1:Own M w [] w):Calls Tryz.prog 40 #[.agg #[L,K,N],.agg #[g1,g2],.int .i64 b0] w (fun e w'=>∃ X:Al×Al×Ak,e=.returned (.tuple #[.agg #[X.1,X.2.1],.int .i64 r.2])∧Own M w (kn M w.heap.size v X.2.2::[]) w'∧Arr X.2.2 X.1 1 (r.1.outs.map Ar)∧RowsA X.2.2 X.2.1 r.1.mem):=by
 unfold Lb at a8;refine cw 102 Tryz.func40 Z (sr (Ab Z ((A4 Ah Z Z (fun b1=>Ab Z ((A4 Ah Z Z (fun b2=>Ab Z ((B9 Ah Ate (fun m8=>wa Z (nt (Au (Cq (sr (wq Z (Af Fc Z Z Z (Ac 2 Z)) (wq Z (Af Aom Z Z Z (Ac 1 Z)) ?_))))))))))))))))) (Av d l1);obtain⟨o7,l3,e1⟩:=An a8;refine wq Z (QV.call en70 (ea Z) (fun w b=>have h:=Aqe w l3 ((Ai 3 Z d c8) w b) ((Ai 3 Z d c7) w b) ((Ai 3 Z d O) w b) (M3 3 Z d a3 w b) (M3 3 Z d c9 w b);h)) ?_;refine wq Z (QV.not Z Z) (wa Z (nt ?_));refine wc Z e1 (fun h4 j5=>?_) (fun h4 e4=>?_)
 ·skip
  refine sr (wq Z (QV.build (ps:=[]) (cells:=[.slice none 0 0,.slice none 0 0]) eN Ag) (Ab Z ((ew 0 [.slice none 0 0,.slice none 0 0] Ajq Z (wa Z (nt (A9 (kr (tr ?_)))))))));obtain rfl:=(Ad j5).symm;refine Dq Z Ato Z Z Z (Ac 0 Z) (fun w b=>?_);exact⟨(.slice none 0 0,.slice none 0 0,v),Z,b.pick [3] Ah,Gr,RowsA.nil⟩
 refine sr (wm Z (wq Z (QV.lss Z Z Z Z) (wm Z (gN Z (QV.move Z Z) (gn Z (fun i0=>QV.gtr Z i0 Z Z) (wq Z (Bc Z Z Z (fun h=>Fm h)) (wa Z (nt ?_))))))));refine wc Z e4 (fun h1 i6=>?_) (fun h1 d3=>?_)
 ·skip
  refine sr (wq Z (QV.build (ps:=[]) (cells:=[.slice none 0 0,.slice none 0 0]) eN Ag) (Ab Z ((ew 0 [.slice none 0 0,.slice none 0 0] Ajq Z (wa Z (nt (A9 (kr (tr ?_)))))))));obtain rfl:=(Ad i6).symm;refine Dq Z Ato Z Z Z (Ac 0 Z) (fun w b=>?_);exact⟨(.slice none 0 0,.slice none 0 0,v),Z,b.pick [3] Ah,Gr,RowsA.nil⟩
 refine sk (Ba (Aj (Au (dp 7 [3,0,1,2] Z (wz 0 Z Z (Af Fc Z Z Z (Ac 3 Z)) (zf 1 R6 Z Z (zl 2 Ko Z Z (Aq 2 Z Z) (Cx 3 Z Ag Z ?_))))))));obtain⟨m5,l2,d5⟩:=An d3;refine(cr [3,0,1,2] d en71 Z (Aii l2 c9) Z (fun H a1 B=>bp [0,1,2,3,4] Z (fun w b=>C8 B (Ih _) (b.pick [0,2,3,4] Ah)) (wz 4 Z Z (Se (ps:=[(0,.tmp 31),(2,.tmp 34)]) (cells:=[L,K,N,.slice none 0 0,H.1]) (css:=[[L,K,N],[H.1]]) (ea Z) (P3 Z (P3 (Hr a1.1) Ajl)) Ag) (Cx 5 Z Ag Z ((A4 Ah Z Z (fun b3=>bp [1,0,2,3,4,5] Z (pk [0,2,3,4,5]) (wz 6 Z Z (QV.assign Z Z) (Eh Ag (Aj (Au (sr (wm Z (nt (F7 (fun w b=>b.vecNil (E:=43) (sz:=1) (enc:=Hy)) ?_)))))))))))))));obtain⟨f5,d6,m0,j9⟩:=bl d5;refine O6 (dt [2,3,4,6,8] [3,4,5,6] Z) (fun (j:List (List Int)) (k:Int) (t:Al) (c:List (Al×List Int)) (y:Ak)=>[(37,(true,i_ k))]) (fun j k t c y=>[vec t 43 1 (List.map Hy c),blk b3 [L,K,N,t,H.1] 148,kn M w.heap.size v y]) (fun j k t c y m=>Cp (Qj s) m (j,k)=some f5∧SliceLen t j.length∧c.map (·.2)=j∧RowsK y c∧Le H.2.2 y) (fun j k t c y=>f5=.go (j,k)∧SliceLen t j.length∧c.map (·.2)=j∧RowsK y c∧Le H.2.2 y) [] 0 (.slice none 0 0) [] H.2.2 m0 ⟨j9,Gq,Z,Agd,(Ih _)⟩ (sb Z) (pk [0,1,2,3,4,5,6]) ?_ ?_
 ·skip
  rintro j k t c y ⟨rfl,d1,S,T,x⟩;refine Aj (Au (sr (wm Z (wm Z (nt (kp [2,0,1,3,4,5,6] Z (Gk d (fun a0 I k6=>?_))))))));have h7:RowsA a0 t j:=⟨c,S,Cj k6,(T.le I)⟩;obtain⟨f6,d7,m1,k0⟩:=bl d6;refine Ak4 (dt [3,6,8,66] [3,4,5] Z) (fun (q:List (List Int)) (g:List (List Int)) (A:Int) (i:Al) (F:List Al) (G:Al) (z:Ak)=>[(67,(true,i_ A))]) (fun q g A i F G z=>[kn M w.heap.size v z,blk b3 [L,K,N,G,i] 148,Jb i F 43 2 q]) (fun q g A i F G z m=>Cp (Qi l b0) m (q,g,A)=some f6∧SliceLen i q.length∧GL F q∧RowsA z G g∧Le a0 z) (fun q g A i F G z=>f6=.go (q,g,A)∧SliceLen i q.length∧GL F q∧RowsA z G g∧Le a0 z) m5 j 0 H.1 H.2.1 t a0 m1 ⟨k0,a1.1,a1.2,h7,(Ih _)⟩ (sb Z) (pk [0,1,2,3,4,5]) ?_ ?_
  ·skip
   rintro q g A i F G z ⟨rfl,J,a4,Q,C⟩;refine Aj (sr (wm Z (wq Z (QV.nilCheck Z Z) (wf Anc Z (wl Ko Z (Aq 1 Z Z) (wq Z (Se (ps:=[(1,.tmp 77)]) (cells:=[.slice none 0 0,i]) (css:=[[i]]) (ea Z) (P3 (Hr J) Ajl) Ag) (Ab Z ((B9 Ah Ate (fun g4=>Ab Z ((ex 0 [.slice none 0 0,i] (show Ea _=List.toArray _ from Z) Ajq (oc Z (oc (Cy J) B3)) Z (nt (Au (sr (wf Yg Z (wl Fl Z (Aq 6 Z Z) (wq Z (A5 Tryz.underlying34 Z Z (O.le (((B.trans x).trans I).trans C)).lenMap) (wm Z (nt (F7 (fun w b=>b.vecNil (E:=2) (sz:=1) (enc:=Ar)) ?_)))))))))))))))))))));obtain⟨f7,j2,m2,k1⟩:=bl d7;refine F2 (dt [6,8,14,80,81] [2,3,4,5,6,7] Z) (fun (p:List Int) (o:Int) (u:Al)=>[(82,(true,i_ o))]) (fun p o u=>[vec u 2 1 (List.map Ar p),blk g4 [u,i] 106]) (fun p o u m=>Cp (Ou l g) m (p,o)=some f7∧SliceLen u p.length) (fun p o u=>f7=.go (p,o)∧SliceLen u p.length) [] 0 (.slice none 0 0) m2 ⟨k1,Gq⟩ (sb Z) (pk [0,1,2,3,4,5,6,7]) ?_ ?_
   ·skip
    rintro p o u ⟨rfl,a6⟩;refine Aj (sr (wq Z (Af Ato Z Z Z (Ac 1 Z)) (Ab Z ((ex 5 [u,i] (show Ea _=List.toArray _ from Z) Ajq (oc (Cy a6) (oc (Cy J) B3)) Z (wa Z (nt (A9 ?_))))))));obtain rfl:=(Ad j2).symm;refine kp [2,0,1,3,4,5,6,7] Z (Gk d (fun n1 n0 k7=>have h8:=Cj k7;kp [0,3,1,2,4,5,6] Z (Gk d (fun l5 i4 k8=>have h9:=Aea k8;Dq Z Ato Z Z Z (Ac 3 Z) (fun w b=>?_)))));exact⟨(u,i,l5),Z,b.pick [0] Ah,(h8.le i4),h9⟩
   rintro p o u n3 ⟨c4,a6⟩;obtain⟨l7,o2,rfl,V,e8⟩:=A0 c4;unfold Ou at V;simp only at V;refine sr (wq Z (QV.lss Z Z Z Z) (nt (Au ?_)));refine wc Z V (fun h3 d8=>?_) (fun h3 j4=>?_)
   ·skip
    refine sk (Aj (Au (Cq (sr ?_))));obtain⟨b7,d9⟩:=cs d8;obtain⟨n8,f2⟩:=(O.le (((B.trans x).trans I).trans C)).lenMap.ix (sz:=1) Ao b7;refine wq Z (Ae Fs Z Z Z Z f2) (wl pl3 Z (cl 0 (Ai 2 Z d (O.le (((B.trans x).trans I).trans C))) f2 b7 Z) (wa Z (nt (dp 15 [2,1,3,4,5,6,7] Z (zf 0 Afx Z Z (zl 1 Ty Z Z (Aq 1 Z Z) (zm 2 Z Z (wz 3 Z Z (QV.nilCheck Z Z) (zf 4 Zg Z Z (zl 5 Ko Z Z (Aq 2 Z Z) ?_))))))))));obtain⟨g8,e0⟩:=cs d9;obtain⟨n9,o6,k4,i3,c2⟩:=Q.ix g8;refine wz 6 Z Z (Ae Ti Z Z Z Z k4) (zl 7 Ty Z Z (co 0 (A2 0 Z d i3) Z) (zm 8 Z Z ?_));obtain⟨b8,e2⟩:=cs e0;obtain⟨o0,f3⟩:=c2.lenMap.ix (sz:=1) Ao b8;refine wz 9 Z Z (Ae Xl Z Z Z Z f3) (zl 10 pl2 Z Z (cl 0 (Ai 0 Z d c2) f3 b8 Z) (Cx 11 Z Ag Z ((Di Ah Ru Ah Ah (ps:=[(0,.tmp 96)]) (cells:=[i_ (ele (ele g 0) (ele l.outs o))]) (ea Z) Ag (fun m9=>bp [3,0,2,4,5,6,7,8] Z (pk [0,2,3,4,5,6,7]) (Cx 12 Z Ag Z ?_))))));obtain⟨b9,g9,j3⟩:=cs2 e2;refine(Bt (enc:=Ar) (xs:=p) (ys:=[(ele (ele g 0) (ele l.outs o))]) ((p++[(ele (ele g 0) (ele l.outs o))])) 1 Ah Aam Z Z Z Z Z (Bb 0 (rows:=[(ele (ele g 0) (ele l.outs o))].map Ar) Z Z (Bq Bd)) Bd (Dl _) Z b9.1 b9.2 (fun g0 a9=>bp [3,0,1,2,4,5,6,7,8] Z (pk [0,1,3,4,5,6,7,8]) (zf 13 Afx Z Z (Ig 14 Z Ag Z ((ex 2 [g0] (Hr a9) sz43 (oc (Cy a9) B3) Z (Ba (Aj (Bn (wq Z (A6 Z Z Z Z g9) (wm Z (Bk ?_))))))))))));exact Ek (p++[(ele (ele g 0) (ele l.outs o))]) (o+1) g0 l7 ⟨A3 j3 e8,a9⟩ (Cc _) (sb Z) (pk [1,2,3,4,5,6,7,8])
   refine Cw (te (te (Am ?_)));exact Jj p o u ⟨Bh j4 e8,a6⟩ (sb Z) (pk [0,1,2,3,4,5,6,7])
  rintro q g A i F G z n4 ⟨c5,J,a4,Q,C⟩;obtain⟨l8,o3,rfl,W,e9⟩:=A0 c5;unfold Qi at W;simp only at W;refine sr (wq Z (QV.lss Z Z Z Z) (nt (Au ?_)));refine wc Z W (fun h5 e3=>?_) (fun h5 j8=>?_)
  ·skip
   refine sk (Aj (Au (Cq (sr (wm Z (wa Z (nr (wm Z (wm Z (Ab Z ?_))))))))));obtain⟨g3,l4,j6⟩:=An e3;refine(cq d en72 Z (Ac5 l4 (c8.le (((B.trans x).trans I).trans C)) (c7.le (((B.trans x).trans I).trans C)) (O.le (((B.trans x).trans I).trans C)) Q J a4) Z (fun P a2 i5=>Bk (Ba (Aj (Bn (have ⟨h0,j7⟩:=cs j6;wq Z (A6 Z Z Z Z h0) (wm Z (Bk ?_))))))));exact Qh g3.2 g3.1 (A+1) P.2.1 P.2.2.1 P.1 P.2.2.2 l8 ⟨A3 j7 e9,a2.2.1,a2.2.2,a2.1,(C.trans i5)⟩ (Cc _) (sb Z) (pk [0,1,2,3,4,5])
  refine Cw (te (te (Am ?_)));exact Auw q g A i F G z ⟨Bh j8 e9,J,a4,Q,C⟩ (sb Z) (pk [0,1,2,3,4,5])
 rintro j k t c y n5 ⟨c6,d1,S,T,x⟩;obtain⟨l9,o4,rfl,Y,f0⟩:=A0 c6;unfold Qj at Y;simp only at Y;refine sr (wq Z (QV.lss Z Z Z Z) (nt (Au ?_)));refine wc Z Y (fun h6 e5=>?_) (fun h6 j1=>?_)
 ·skip
  refine sk (Aj (Au (Cq (sr (wm Z (wa Z (ns (wa Z (nt (Au (sr (wf Pp Z (wl Ko Z (Aq 5 Z Z) (wq Z (A5 Tryz.underlying102 Z Z (a3.le (B.trans x)).slen) (wm Z (nt (F7 (fun w b=>b.vecNil (E:=2) (sz:=1) (enc:=Ar)) ?_)))))))))))))))));obtain⟨f8,e6,m3,k2⟩:=bl e5;refine F2 (dt [2,3,4,6,8,9,37,41,42] [1,2,3,4,5,6,7] Z) (fun (a:List Int) (n:Int) (f:Al)=>[(10,(true,f)),(43,(true,i_ n))]) (fun a n f=>[vec f 2 1 (List.map Ar a)]) (fun a n f m=>Cp (Ov s k) m (a,n)=some f8∧SliceLen f a.length) (fun a n f=>f8=.go (a,n)∧SliceLen f a.length) [] 0 (.slice none 0 0) m3 ⟨k2,Gq⟩ (sb Z) (pk [0,1,2,3,4,5,6,7]) ?_ ?_
  ·skip
   rintro a n f ⟨rfl,a7⟩;refine Aj (Bn (wm Z (wm Z (wq Z (QV.nilCheck Z Z) (wf Zg Z (wl Ko Z (Aq 2 Z Z) (wm Z (Ab Z ((Di Ah Aa1 Ah Ah (ps:=[(0,.tmp 60)]) (cells:=[f]) (ea Z) (Wd a7) (fun m6=>Ab Z (ep [4,1,0,2,3,5,6,7,8] Z (Sh d (fun f4 d0 k5=>?_))))))))))))));have c0:=Cj k5;obtain⟨b4,g5,i7⟩:=cs2 e6;have i1:RowsK f4 (c++[(f,a)]):=Vb (T.le d0) c0;have R:((c++[(f,a)]):List (Al×List Int)).map (·.2)=(j++[a]):=Yo S;refine(Bt (enc:=Hy) (xs:=c) (ys:=[(f,a)]) (c++[(f,a)]) 2 Ah Agh Z Z Z Z Z (Bb 1 (rows:=[(f,a)].map Hy) Z Z (Bq Jf)) Jf (Ab8 c0.lenMap) Z (AL.b1 R b4) (AL.b2 R b4) (fun f9 k9=>have a5:=Uw R k9;wq Z (QV.nilCheck Z Z) (wf Zg Z (Ab Z ((ex 3 [f9] (Hr a5) Ajr (oc (Cy a5) B3) Z (Bk (Ba (Aj (Bn (wq Z (A6 Z Z Z Z g5) (wm Z (Bk ?_)))))))))))));exact O5 (j++[a]) (k+1) f9 (c++[(f,a)]) f4 l9 ⟨A3 i7 f0,a5,R,i1,(x.trans d0)⟩ (Cc _) (sb Z) (pk [2,3,0,4,5,6,7])
  rintro a n f n2 ⟨c3,a7⟩;obtain⟨l6,o1,rfl,U,e7⟩:=A0 c3;unfold Ov at U;simp only at U;refine sr (wq Z (QV.lss Z Z Z Z) (nt (Au ?_)));refine wc Z U (fun h2 d2=>?_) (fun h2 j0=>?_)
  ·skip
   refine sk (Aj (Au (Cq (sr ?_))));obtain⟨g6,d4⟩:=cs d2;obtain⟨n6,o5,k3,i2,c1⟩:=(a3.le (B.trans x)).ix g6;refine wq Z (Ae Ti Z Z Z Z k3) (wl Ty Z (co 0 (A2 3 Z d i2) Z) (wa Z (nr (wm Z (wm Z (wm Z ?_))))));obtain⟨b5,i8⟩:=cs d4;obtain⟨n7,f1⟩:=c1.lenMap.ix (sz:=1) Ao b5;refine wq Z (Ae Xl Z Z Z Z f1) (wl pl2 Z (cl 0 (Ai 3 Z d c1) f1 b5 Z) (Ab Z ((Di Ah Ru Ah Ah (ps:=[(0,.tmp 51)]) (cells:=[i_ (ele (ele s.bef n) k)]) (ea Z) Ag (fun m7=>Ab Z (have ⟨b6,g7,i9⟩:=cs2 i8;(Bt (enc:=Ar) (xs:=a) (ys:=[(ele (ele s.bef n) k)]) ((a++[(ele (ele s.bef n) k)])) 1 Ah Aam Z Z Z Z Z (Bb 0 (rows:=[(ele (ele s.bef n) k)].map Ar) Z Z (Bq Bd)) Bd (Dl _) Z b6.1 b6.2 (fun m4 l0=>wa Z (Bk (Ba (Aj (Bn (wq Z (A6 Z Z Z Z g7) (wm Z (Bk ?_)))))))))))))));exact Ek (a++[(ele (ele s.bef n) k)]) (n+1) m4 l6 ⟨A3 i9 e7,l0⟩ (Cc _) (sb Z) (pk [1,2,3,4,5,6,7,8])
  refine Cw (te (te (Am ?_)));exact Jj a n f ⟨Bh j0 e7,a7⟩ (sb Z) (pk [0,1,2,3,4,5,6,7])
 refine Cw (te (te (Am ?_)));exact Tm j k t c y ⟨Bh j1 f0,d1,S,T,x⟩ (sb Z) (pk [0,1,2,3,4,5,6])
end Go.Proofs.YtaimbkndebaaiaaGreatDoor
end
section
namespace Go.Proofs.YtaimbkndebaaiaaGreatDoor
open Go.Rd
open TLib TLibR TLibA TSay TNum0 TNum TLoop TPar TStable TMach TMach2 TKern TClone TNbr TSeq
namespace TKRun
theorem en77:Go.Rd.Enters Tryz.prog 77:=eT Tryz.func77
theorem en78:Go.Rd.Enters Tryz.prog 78:=eT Tryz.func78
theorem en80:Go.Rd.Enters Tryz.prog 80:=eT Tryz.func80
end TKRun
open TKRun
theorem Ac0 {I d1 d0:Al}{t:Tgt}{c:Krn}{regs:List Int}{memory:List (List Int)}{G:Int}{r:List Int×List (List Int)×Int}{H:Ak} (a5:Jt t c regs memory G=some r) (a3:Arr H I 10 (c.ops.map Opr.cells)) (b5:Arr H d1 1 (regs.map Ar)) (b4:RowsA H d0 memory) (M:Nat→Prop) (w:Ak) (g:Base M H w) (g7:Own M w [] w):Calls Tryz.prog 42 #[.agg #[.int .i64 t.u0,.int .i64 t.u1,.int .i64 t.u2,.int .i64 t.w0,.int .i64 t.w1,.int .i64 t.w2,.int .i64 t.regs],.agg #[.int .i64 c.pace,.int .i64 c.stages,I],d1,d0,.int .i64 G] w (fun e w'=>∃ X:Al×Al×Ak,e=.returned (.tuple #[X.1,X.2.1,.int .i64 r.2.2])∧Own M w (kn M w.heap.size H X.2.2::[]) w'∧Arr X.2.2 X.1 1 (r.1.map Ar)∧RowsA X.2.2 X.2.1 r.2.1):=by
 unfold Jt at a5;refine cw 87 Tryz.func42 Z (sr (Ab Z ((A4 Ah Z Z (fun b1=>Ab Z ((A4 Ah Z Z (fun b2=>wa Z (wa Z (wa Z (ns (wm Z (Ab Z ?_))))))))))))) (Av g g7);obtain⟨j2,h0,c2⟩:=An a5;refine(cr [2,0,1] g en77 Z (Aje h0 b4) Z (fun a7 e6 F=>wm Z (wq Z (Bi Z Z Z) (wq Z (Bi Z Z Z) (wa Z (wa Z (nt (Au (Cq (sr (wm Z (wq Z (QV.not Z Z) (wm Z (gN Z (Af Gn Z Z Z (Ac 2 Z)) (gN Z (Af Ns Z Z Z (Ac 1 Z)) (gN Z (QV.move Z Z) ?_))))))))))))))));obtain⟨j4,h3,c5⟩:=Dg c2;refine gn Z (fun b=>QV.call en78 (De Z b (De Z b (De Z b eN))) (fun w a=>have h:=Ac1 w (h3 b) ((Ai 0 Z g (a3.le F)) w a) ((Ai 0 Z g e6) w a);h)) ?_;refine gn Z (fun b=>QV.not Z b) (wq Z (Bc Z Z Z (fun h=>Fm h)) (wm Z (gN Z (QV.move Z Z) (gn Z (fun b=>A5 Tryz.underlying43 Z b (b5.le F).lenMap) (gN Z (QV.fieldAddr Nw Z Z) (gn Z (fun b=>Cs pl3 Z b (Aq 2 Z Z)) (gn Z (fun b=>QV.neq Z b Z b) (wq Z (Bc Z Z Z (fun h=>Fm h)) (wa Z (nt ?_))))))))));refine wc Z c5 (fun d7 f0=>?_) (fun d7 b6=>?_)
 ·skip
  refine sr (wa Z (wa Z (wa Z (nt (A9 (kr (tr ?_)))))));obtain rfl:=(Ad f0).symm;refine Og Z Z Z Z (fun w a=>?_);exact⟨(.slice none 0 0,.slice none 0 0,a7.2),Z,a.pick [0] Ah,Gr,RowsA.nil⟩
 refine sr (wm Z (wq Z (QV.lss Z Z Z Z) (wm Z (gN Z (QV.move Z Z) (gn Z (fun b=>QV.gtr Z b Z Z) (wq Z (Bc Z Z Z (fun h=>Fm h)) (wa Z (nt ?_))))))));refine wc Z b6 (fun d8 f1=>?_) (fun d8 b7=>?_)
 ·skip
  refine sr (wa Z (wa Z (wa Z (nt (A9 (kr (tr ?_)))))));obtain rfl:=(Ad f1).symm;refine Og Z Z Z Z (fun w a=>?_);exact⟨(.slice none 0 0,.slice none 0 0,a7.2),Z,a.pick [0] Ah,Gr,RowsA.nil⟩
 refine sk (Ba (Aj (Au (dq 10 (wz 0 Z Z (Af Gn Z Z Z (Ac 2 Z)) (wz 1 Z Z (Af Ns Z Z Z (Ac 1 Z)) (zm 2 Z Z (Yk 7 Ag (zq 4 7 23 Z (QV.move Z Z) (zq 6 23 87 Z (QV.move Z Z) (Hz 3 87 95 Z Ag Z ?_)))))))))));obtain⟨i0,g8,b8⟩:=An b7;refine(cq g en79 Z (Au3 g8 (b5.le F)) Z (fun O a9 K=>bp [0,1,2,3] Z (fun w a=>C8 K F (a.pick [0,2,3] Ah)) (Hz 5 95 127 Z Ag Z ?_)));obtain⟨i1,g9,b9⟩:=An b8;refine(cq g en71 Z (Aii g9 (b4.le (F.trans K))) Z (fun C a2 a4=>bp [0,1,2,3,4] Z (fun w a=>C8 a4 (F.trans K) (a.pick [0,2,3,4] Ah)) (zq 7 127 255 Z (Se (ps:=[(0,.tmp 47),(1,.tmp 48),(2,.tmp 50),(3,.tmp 52),(4,.tmp 53)]) (cells:=[i_ t.u0,i_ t.u1,i_ t.u2,i_ t.w0,i_ t.w1,i_ t.w2,i_ t.regs,i_ c.pace,i_ c.stages,I,O.1,C.1,i_ G,.slice none 0 0]) (css:=[t.cells,[i_ c.pace,i_ c.stages,I],[O.1],[C.1],[i_ G]]) (ea Z) (P3 Z (P3 Z (P3 (Hr a9) (P3 (Hr a2.1) (P3 Z Ajl))))) Ag) (Hz 8 255 511 Z Ag Z ((A4 Ah Z Z (fun a8=>bp [1,0,2,3,4,5] Z (pk [0,2,3,4,5]) (zq 9 511 1023 Z (QV.assign Z Z) (Up Ag (Aj (Au (sr (wm Z (wq Z (QV.gtr Z Z Z Z) (nt ?_)))))))))))))));refine wc Z b9 (fun d9 f2=>?_) (fun d9 g0=>?_)
 ·skip
  refine Au (sr (wm Z (wf Yf Z (wl pl3 Z (Aq 4 Z Z) (have ⟨d3,d4,c0⟩:=cs2 f2;wq Z (A6 Z Z Z Z d3) (wq Z (D2 Z Z Z Z d4) (wm Z (nt (F7 (fun w a=>a.ovecNil (E:=213) (sz:=3) (enc:=Due.cells)) ?_)))))))));obtain⟨c8,c1,h8,g1⟩:=bl c0;refine Ak2 (dt [6,15,62] [5,6] Z) (fun (o:List Due) (f:List (List Int)) (k:List Int) (x:Int) (v:Al) (l:Al) (z:List Al) (q:Al) (i:Ak)=>[(63,(true,i_ x))]) (fun o f k x v l z q i=>[Fy v 213 3 (List.map Due.cells o),blk a8 [i_ t.u0,i_ t.u1,i_ t.u2,i_ t.w0,i_ t.w1,i_ t.w2,i_ t.regs,i_ c.pace,i_ c.stages,I,q,l,i_ G,v] 163,kn M w.heap.size H i,Jb l z 43 2 f,vec q 2 1 (List.map Ar k)]) (fun o f k x v l z q i m=>Cp (J8 t c G) m (o,f,k,x)=some c8∧SliceLen v o.length∧SliceLen l f.length∧GL z f∧SliceLen q k.length∧Le C.2.2 i) (fun o f k x v l z q i=>c8=.go (o,f,k,x)∧SliceLen v o.length∧SliceLen l f.length∧GL z f∧SliceLen q k.length∧Le C.2.2 i) [] i1 i0 0 (.slice none 0 0) C.1 C.2.1 O.1 C.2.2 h8 ⟨g1,Gq,a2.1,a2.2,a9,(Ih _)⟩ (sb Z) (pk [0,1,2,3,4,5,6]) ?_ ?_
  ·skip
   rintro o f k x v l z q i ⟨rfl,Y,V,R,T,N⟩;refine Aj (Bn (wm Z (Ab Z ?_)));obtain⟨j3,h1,f3⟩:=An c1;refine(cr [2,1,4,3,0,5,6] g en81 Z (P9 h1 (a3.le (((F.trans K).trans a4).trans N)) T V R Y) Z (fun d2 i2 i3=>nt (Au (dq 11 (zm 0 Z Z (wz 1 Z Z (QV.nilCheck Z Z) (zf 2 Ab9 Z Z (zl 3 Ty Z Z (Aq 1 Z Z) (zm 4 Z Z (wz 5 Z Z (QV.nilCheck Z Z) (zf 6 Anb Z Z (zl 7 Ko Z Z (Aq 1 Z Z) (wz 8 Z Z (QV.assign Z Z) (wz 9 Z Z (QV.assign Z Z) (wz 10 Z Z (QV.assign Z Z) (Eh Ag (Aj (A9 ?_))))))))))))))))));obtain rfl:=(Ad f3).symm;refine kp [0,3,1,2,4,5,6] Z (Gk g (fun i6 i4 g3=>have e2:=Cj g3;kp [0,2,1,3,4,5] Z (Gk g (fun h4 e7 g4=>have e3:=Aea g4;Og Z Z Z Z (fun w a=>?_)))));exact⟨(d2.1,l,h4),Z,a.pick [0] Ah,(e2.le e7),e3⟩
  rintro o f k x v l z q i i8 ⟨b0,Y,V,R,T,N⟩;obtain⟨h6,j0,rfl,a0,c6⟩:=A0 b0;unfold J8 at a0;simp only at a0;refine sr (wq Z (QV.lss Z Z Z Z) (nt (Au ?_)));refine wc Z a0 (fun e0 c3=>?_) (fun e0 f9=>?_)
  ·skip
   refine sk (Aj (Au (Cq (sr (wm Z (wa Z (ns (wf Uf Z (wl pl3 Z (Aq 5 Z Z) (wm Z (nt ?_)))))))))));obtain⟨c9,f4,h9,g2⟩:=bl c3;refine Ak2 (dt [6,15,16,62,63,67] [5,6] Z) (fun (n:List Due) (d:List (List Int)) (j:List Int) (B:Int) (u:Al) (s:Al) (y:List Al) (p:Al) (A:Ak)=>[(68,(true,i_ B))]) (fun n d j B u s y p A=>[Fy u 213 3 (List.map Due.cells n),blk a8 [i_ t.u0,i_ t.u1,i_ t.u2,i_ t.w0,i_ t.w1,i_ t.w2,i_ t.regs,i_ c.pace,i_ c.stages,I,p,s,i_ G,u] 163,kn M w.heap.size H A,Jb s y 43 2 d,vec p 2 1 (List.map Ar j)]) (fun n d j B u s y p A m=>Cp (J7 t c G x) m (n,d,j,B)=some c9∧SliceLen u n.length∧SliceLen s d.length∧GL y d∧SliceLen p j.length∧Le i A) (fun n d j B u s y p A=>c9=.go (n,d,j,B)∧SliceLen u n.length∧SliceLen s d.length∧GL y d∧SliceLen p j.length∧Le i A) o f k 0 v l z q i h9 ⟨g2,Y,V,R,T,(Ih _)⟩ (sb Z) (pk [0,1,2,3,4,5,6]) ?_ ?_
   ·skip
    rintro n d j B u s y p A ⟨rfl,W,U,Q,S,L⟩;refine Ba (Aj (Bn (have ⟨d5,f5⟩:=cs f4;wq Z (A6 Z Z Z Z d5) (wm Z (Bk ?_)))));exact Akz n d j (x+1) u s y p A h6 ⟨A3 f5 c6,W,U,Q,S,(N.trans L)⟩ (Cc _) (sb Z) (pk [0,1,2,3,4,5,6])
   rintro n d j B u s y p A i9 ⟨b3,W,U,Q,S,L⟩;obtain⟨h7,j1,rfl,a1,c7⟩:=A0 b3;unfold J7 at a1;simp only at a1;refine sr (wq Z (QV.lss Z Z Z Z) (nt (Au ?_)));refine wc Z a1 (fun e1 c4=>?_) (fun e1 f8=>?_)
   ·skip
    refine sk (Aj (Au (Cq (sr (wm Z (wa Z (nr (wm Z (wm Z (wm Z (Ab Z ?_)))))))))));obtain⟨a6,h2,f6⟩:=An c4;refine(cr [2,1,4,3,0,5,6] g en80 Z (W4 h2 (a3.le ((((F.trans K).trans a4).trans N).trans L)) S U Q W) Z (fun J P e8=>Bk (Ba (Aj (Bn (have ⟨d6,f7⟩:=cs f6;wq Z (A6 Z Z Z Z d6) (wm Z (Bk ?_))))))));exact Akz a6.2.2 a6.2.1 a6.1 (B+1) J.2.2.2.1 J.2.1 J.2.2.1 J.1 J.2.2.2.2 h7 ⟨A3 f7 c7,P.2.2.2,P.2.1,P.2.2.1,P.1,(L.trans e8)⟩ (Cc _) (sb Z) (pk [4,1,0,3,2,5,6])
   refine Cw (te (te (Am ?_)));exact Auu n d j B u s y p A ⟨Bh f8 c7,W,U,Q,S,L⟩ (sb Z) (pk [0,1,2,3,4,5,6])
  refine Cw (te (te (Am ?_)));exact Auu o f k x v l z q i ⟨Bh f9 c6,Y,V,R,T,N⟩ (sb Z) (pk [0,1,2,3,4,5,6])
 refine sk (Aj (Au (dp 11 [1,0,2,3,4,5] Z (zm 0 Z Z (wz 1 Z Z (QV.nilCheck Z Z) (zf 2 Ab9 Z Z (zl 3 Ty Z Z (Aq 1 Z Z) (zm 4 Z Z (wz 5 Z Z (QV.nilCheck Z Z) (zf 6 Anb Z Z (zl 7 Ko Z Z (Aq 1 Z Z) (wz 8 Z Z (QV.assign Z Z) (wz 9 Z Z (QV.assign Z Z) (wz 10 Z Z (QV.assign Z Z) (Eh Ag (Aj (A9 ?_)))))))))))))))));obtain rfl:=(Ad g0).symm;refine kp [1,3,0,2,4,5] Z (Gk g (fun i7 i5 g5=>have e4:=Cj g5;kp [0,2,1,3,4] Z (Gk g (fun h5 e9 g6=>have e5:=Aea g6;Og Z Z Z Z (fun w a=>?_)))));exact⟨(O.1,C.1,h5),Z,a.pick [0] Ah,(e4.le e9),e5⟩
end Go.Proofs.YtaimbkndebaaiaaGreatDoor
end
section
namespace Go.Proofs.YtaimbkndebaaiaaGreatDoor
open Go.Rd
open TLib TLibR TLibA TSay TNum0 TNum TLoop TPar TStable TMach TMach2 TKern TClone TNbr TSeq TKRun
namespace TKeep
theorem ag263:Sg Tryz.prog 263 2:=⟨_,Tryz.underlying263,rfl,Ag⟩
theorem en156:Go.Rd.Enters Tryz.prog 156:=eT Tryz.func156
theorem en157:Go.Rd.Enters Tryz.prog 157:=eT Tryz.func157
theorem en173:Go.Rd.Enters Tryz.prog 173:=eT Tryz.func173
theorem en181:Go.Rd.Enters Tryz.prog 181:=eT Tryz.func181
theorem en75:Go.Rd.Enters Tryz.prog 75:=eT Tryz.func75
theorem Zf:Cb Tryz.prog 156 0 0:=fT 2 Tryz.underlying156
theorem Afw:Cb Tryz.prog 156 1 3:=fT 0 Tryz.underlying156
theorem Po:Cb Tryz.prog 156 2 4:=fT 0 Tryz.underlying156
theorem Ze:Cb Tryz.prog 156 3 5:=fT 0 Tryz.underlying156
theorem We:Cb Tryz.prog 156 4 6:=fT 0 Tryz.underlying156
theorem Mv:Cb Tryz.prog 156 5 7:=fT 0 Tryz.underlying156
theorem Auh:Cb Tryz.prog 263 0 0:=fT 0 Tryz.underlying263
theorem A3c:Cb Tryz.prog 263 1 1:=fT 0 Tryz.underlying263
theorem kt3:KeyT Tryz.prog 3 kI:=KeyT.int Tryz.underlying3
theorem Atk:Aq1 Tryz.prog 236 3 4:=Tryz.underlying236
theorem pl4:N3 Tryz.prog 4:=⟨_,Tryz.underlying4,rfl⟩
theorem sl239:Je Tryz.prog 239 263 2:=⟨Tryz.underlying239,Ag⟩
theorem sz263:Dt Tryz.prog 263 2:=by unfold Dt;kernel_rfl
theorem A5s:Nx Tryz.prog 239 263 2 [.int .i64 0,.bool Az]:=⟨Tryz.underlying239,Ag⟩
theorem ve239:Xj Tryz.prog 239 263 2 16:=⟨Tryz.underlying239,Ag,Ah⟩
theorem ze263:ZeroT Tryz.prog 263 [.int .i64 0,.bool Az]:=by unfold ZeroT;kernel_rfl
theorem A37:Ale Tryz.prog 4 (bv Az):=by unfold Ale;kernel_rfl
end TKeep
open TKeep
theorem Ain {K J L:Al}{l:Lp}{a r:Int} (w:Ak) (q:Qn l a=some r) (b4:Arr w K 1 (l.logs.map Ar)) (p:Arr w J 9 (l.body.map Stm.cells)) (b5:Arr w L 1 (l.outs.map Ar)):Calls Tryz.prog 75 #[.agg #[K,J,L],.int .i64 a] w (fun e w'=>e=.returned (.int .i64 r)∧Grow w w'):=by
 unfold Qn at q;refine have i:=D0 (w:=w);cw 35 Tryz.func75 Z (sr (Ab Z ((A4 Ah Z Z (fun b1=>wa Z (ns (wa Z (nt (Au (sr (wf Ds Z (wl J3 Z (Aq 0 Z Z) (wq Z (A5 Tryz.underlying45 Z Z p.lenMap) (wm Z (nt ?_))))))))))))))) (Av i (D3 w));obtain⟨H,W,b0,a5⟩:=bl q;refine F2 (dt [1,11,12] [0] Z) (fun (f:Int) (d:Int) (g:Ak)=>[(5,(true,i_ f)),(13,(true,i_ d))]) (fun f d g=>[kn noM w.heap.size w g]) (fun f d g m=>Cp (Mj l a) m (f,d)=some H∧Le w g) (fun f d g=>H=.go (f,d)∧Le w g) 0 0 w b0 ⟨a5,(Ih _)⟩ (sb Z) (pk [1,0]) ?_ ?_
 ·skip
  rintro f d g ⟨rfl,h⟩;refine Aj (sr (wm Z (wa Z (nt (A9 ?_)))));obtain rfl:=(Ad W).symm;exact Aw Z Z fun w a6=>kg a6
 rintro f d g b7 ⟨x,h⟩;obtain⟨a8,c0,rfl,j,C⟩:=A0 x;unfold Mj at j;simp only at j;refine sr (wq Z (QV.lss Z Z Z Z) (nt (Au ?_)));refine wc Z j (fun P y=>?_) (fun P a3=>?_)
 ·skip
  refine sk (Aj (Au (Cq (sr ?_))));obtain⟨t,z⟩:=cs y;obtain⟨b8,E⟩:=(p.le h).lenMap.ix (sz:=9) Ao t;refine wq Z (Ae Xk Z Z Z Z E) (wq Z (Af Oj Z Z Z (el (Ai 0 Z i (p.le h)) E t)) (Ab Z ((B9 Ah Tv (fun b2=>Ab Z ((ew 0 (Stm.cells (ele l.body d)) Tw Z (ns (wq Z (Af Oj Z Z Z (Ac 0 Z)) (Ab Z ?_))))))))));obtain⟨n,a7,A⟩:=An z;refine(cr [1,0,2] i Aqz Z (Mh a7) Z (fun M o S=>wq Z (A5 Tryz.underlying83 Z Z o.lenMap) (wm Z (nt ?_))));obtain⟨I,T,a9,a4⟩:=bl A;refine B6 (dt [1,11,12,13,18,19] [0,1,2] Z) (fun (c:Int) (b:Int)=>[(5,(true,i_ c)),(20,(true,i_ b))]) (fun c b=>[]) (fun c b m=>Cp (Mi a n) m (c,b)=some I) (fun c b=>I=.go (c,b)) f 0 a9 a4 (sb Z) (pk [0,1,2]) ?_ ?_
  ·skip
   rintro c b rfl;refine Ba (Aj (Bn (have ⟨N,U⟩:=cs T;wq Z (A6 Z Z Z Z N) (wm Z (Bk ?_)))));exact Ek c (d+1) M.2 a8 ⟨A3 U C,(h.trans S)⟩ (Cc _) (sb Z) (pk [0,2])
  rintro c b b6 v;obtain⟨G,c1,rfl,k,s⟩:=A0 v;unfold Mi at k;simp only at k;refine sr (wq Z (QV.lss Z Z Z Z) (nt (Au ?_)));refine wc Z k (fun Q V=>?_) (fun Q a2=>?_)
  ·skip
   refine sk (Aj (Au (Cq (sr (have ⟨u,B⟩:=cs V;have ⟨b9,F⟩:=o.lenMap.ix (sz:=2) Ao u;wq Z (Ae Au7 Z Z Z Z F) (wq Z (Af Ol Z Z Z (el (Ai 0 Z i o) F u)) (Ab Z ((B9 Ah Ak9 (fun b3=>Ab Z ((ew 0 [i_ ((ele n b).st),i_ ((ele n b).bk)] Aan Z (ns (wf St Z (wl pl3 Z (Aq 0 Z Z) (wm Z (wq Z (QV.eql Z Z Z Z) (nt ?_))))))))))))))))));refine wc Z B (fun R X=>?_) (fun R a0=>?_)
   ·skip
    refine Bn (wm Z (wf Rg Z (wl pl3 Z (Aq 0 Z Z) (wq Z (Abt Z Z Z Z) (wa Z (Bk (Ba (Aj (Bn (have ⟨c46,Y⟩:=cs X;wq Z (A6 Z Z Z Z c46) (wm Z (Bk ?_))))))))))));exact Bs (max c ((ele n b).bk)) (b+1) G (A3 Y s) (Cc _) (sb Z) (pk [1,2,3])
   refine sk (Ba (Aj (Bn (have ⟨O,a1⟩:=cs a0;wq Z (A6 Z Z Z Z O) (wm Z (Bk ?_))))));exact Bs c (b+1) G (A3 a1 s) (Cc _) (sb Z) (pk [1,2,3])
  refine Cw (te (te (Am ?_)));exact Cm c b (Bh a2 s) (sb Z) (pk [0,1,2])
 refine Cw (te (te (Am ?_)));exact Jj f d g ⟨Bh a3 C,h⟩ (sb Z) (pk [0,1])
theorem Afl {q:Al}{s:List Int}{v r:Int} (w:Ak) (c:Oh s v=some r) (b:Arr w q 1 (s.map Ar)):Calls Tryz.prog 181 #[q,.int .i64 v] w (fun e w'=>e=.returned (.int .i64 r)∧Grow w w'):=by
 unfold Oh at c;refine have j:=D0 (w:=w);cw 19 Tryz.func181 Z (sr (wa Z (nt (Au (sr (wm Z (wq Z (A5 Tryz.underlying34 Z Z b.lenMap) (wm Z (nt ?_))))))))) (Av j (D3 w));obtain⟨p,n,E,B⟩:=bl c;refine D6 (dt [0,1,7] [0] Z) (fun (a:Int)=>[(8,(true,i_ a))]) (fun a=>[]) (fun a m=>Cp (Ib s v) m a=some p) (fun a=>p=.go a) 0 E B (sb Z) (pk [0]) ?_ ?_
 ·skip
  rintro a rfl;refine Aj (sr (wa Z (nt (A9 ?_))));obtain rfl:=(Ad n).symm;exact Aw Z Z fun w g=>kg g
 rintro a F i;obtain⟨C,H,rfl,d,f⟩:=A0 i;unfold Ib at d;refine sr (wq Z (QV.lss Z Z Z Z) (nt (Au ?_)));refine wc Z d (fun t k=>?_) (fun t A=>?_)
 ·skip
  refine sk (Aj (Au (Cq (sr (wm Z (wa Z (ns (wm Z (wm Z (wm Z ?_))))))))));obtain⟨h,l⟩:=cs k;obtain⟨G,o⟩:=b.lenMap.ix (sz:=1) Ao h;refine wq Z (Ae Fs Z Z Z Z o) (wl pl3 Z (cl 0 (Ai 0 Z j b) o h Z) (wq Z (QV.eql Z Z Z Z) (nt ?_)));refine wc Z l (fun u x=>?_) (fun u y=>?_)
  ·skip
   refine sr (wm Z (wa Z (nt (A9 (kr (tr (tr (kr (tr (tr ?_))))))))));obtain rfl:=Dr x f;obtain rfl:=(Ad n).symm;exact Aw Z Z fun w g=>kg g
  refine sk (Ba (Aj (Bn (have ⟨c21,z⟩:=cs y;wq Z (A6 Z Z Z Z c21) (wm Z (Bk ?_))))));exact D5 (a+1) C (A3 z f) (Cc _) (sb Z) (pk [0])
 refine Cw (te (te (Am ?_)));exact Eo a (Bh A f) (sb Z) (pk [0])
theorem Abl {d:Al}{s:List Int}{v:Int}{r:Bool} (w:Ak) (a:I5 s v=some r) (f:Arr w d 1 (s.map Ar)):Calls Tryz.prog 173 #[d,.int .i64 v] w (fun e w'=>e=.returned (.bool r)∧Grow w w'):=by
 unfold I5 at a;refine have c:=D0 (w:=w);cw 9 Tryz.func173 Z (sr (wa Z (ns (wm Z (wm Z ?_))))) (Av c (D3 w));obtain⟨j,i,g⟩:=An a;refine wq Z (QV.call en181 (ea Z) (fun w b=>have h:=Afl w i ((Ai 0 Z c f) w b);h)) ?_;refine wq Z (QV.geq Z Z Z Z) (wa Z (nt (A9 ?_)));obtain rfl:=(Ad g).symm;exact Aw Z Z fun w b=>kg b
theorem Axe {a3:Addr}{d5 a4 d6 a5 d8 d7:Al}{v:List Stm}{j a6:Int}{k:List Int}{a:Int}{r:List Use}{l:Ak} (A:Vg v j a6 k a=some r) (y:Arr l a4 9 (v.map Stm.cells)) (N:Arr l a5 1 (k.map Ar)) (C:CellsAt l a3 [d5,a4,d6,.int .i64 j,.int .i64 a6,a5,d8,d7] 0) (M:Nat→Prop) (w:Ak) (n:Base M l w) (c8:Own M w [] w):Calls Tryz.prog 156 #[.pointer (some a3),.int .i64 a] w (fun e w'=>∃ X:Al×Ak,e=.returned (X.1)∧Own M w (kn M w.heap.size l X.2::[]) w'∧Arr X.2 X.1 2 (r.map Use.cells)):=by
 unfold Vg at A;refine cw 57 Tryz.func156 Z (sr (wa Z (ns (wa Z (nt (Au (sr (wm Z (wq Z (QV.nilCheck Z Z) (wf Zf Z (wf Ds Z (wl J3 Z (co 1 (A2 0 Z n C) Z) (wq Z (A5 Tryz.underlying45 Z Z y.lenMap) (wm Z (nt (F7 (fun w F=>F.vecNil (E:=263) (sz:=2) (enc:=Use.cells)) ?_)))))))))))))))) (Av n c8);obtain⟨a1,b8,d3,c5⟩:=bl A;refine Kh (dt [0,1,14,15] [] Z) (fun (i:List Use) (c:Int) (g:Al) (p:Ak)=>[(5,(true,g)),(16,(true,i_ c))]) (fun i c g p=>[vec g 263 2 (List.map Use.cells i),kn M w.heap.size l p]) (fun i c g p m=>Cp (Qr v j k a) m (i,c)=some a1∧SliceLen g i.length∧Le l p) (fun i c g p=>a1=.go (i,c)∧SliceLen g i.length∧Le l p) [] 0 (.slice none 0 0) l d3 ⟨c5,Gq,(Ih _)⟩ (sb Z) (pk [0,1]) ?_ ?_
 ·skip
  rintro i c g p ⟨rfl,z,o⟩;refine Aj (sr (wm Z (wa Z (nt (A9 ?_)))));obtain rfl:=(Ad b8).symm;refine kp [1,0] Z (Gk n (fun d0 e2 c6=>have b4:=Cj c6;Aw Z Z (fun w F=>?_)));exact⟨(g,d0),Z,F.pick [0] Ah,b4⟩
 rintro i c g p e4 ⟨L,z,o⟩;obtain⟨d1,e8,rfl,t,U⟩:=A0 L;unfold Qr at t;simp only at t;refine sr (wq Z (QV.lss Z Z Z Z) (nt (Au ?_)));refine wc Z t (fun b1 O=>?_) (fun b1 c3=>?_)
 ·skip
  refine sk (Aj (Au (Cq (sr (wm Z ?_)))));obtain⟨G,P⟩:=cs O;obtain⟨e5,V⟩:=(y.le o).lenMap.ix (sz:=9) Ao G;refine wq Z (Ae Xk Z Z Z Z V) (wq Z (Af Oj Z Z Z (el (Ai 1 Z n (y.le o)) V G)) (Ab Z ((B9 Ah Tv (fun d9=>wa Z (Ab Z ((ew 0 (Stm.cells (ele v c)) Tw Z (ns (wq Z (Af Oj Z Z Z (Ac 0 Z)) (Ab Z ?_)))))))))));obtain⟨f,c9,Q⟩:=An P;refine(cr [2,0,1] n Aqz Z (Mh c9) Z (fun a7 x q=>wq Z (A5 Tryz.underlying83 Z Z x.lenMap) (wm Z (nt ?_))));obtain⟨a2,b5,d2,c4⟩:=bl Q;refine F2 (dt [0,1,6,14,15,16,22,23] [0,1] Z) (fun (d:List Use) (b:Int) (h:Al)=>[(5,(true,h)),(24,(true,i_ b))]) (fun d b h=>[vec h 263 2 (List.map Use.cells d)]) (fun d b h m=>Cp (Oy j k a c f) m (d,b)=some a2∧SliceLen h d.length) (fun d b h=>a2=.go (d,b)∧SliceLen h d.length) i 0 g d2 ⟨c4,z⟩ (sb Z) (pk [2,0,1]) ?_ ?_
  ·skip
   rintro d b h ⟨rfl,s⟩;refine Ba (Aj (Bn (have ⟨a8,b6⟩:=cs b5;wq Z (A6 Z Z Z Z a8) (wm Z (Bk ?_)))));exact F1 d (c+1) h a7.2 d1 ⟨A3 b6 U,s,(o.trans q)⟩ (Cc _) (sb Z) (pk [0,1])
  rintro d b h e3 ⟨K,s⟩;obtain⟨a0,e9,rfl,u,B⟩:=A0 K;unfold Oy at u;simp only at u;refine sr (wq Z (QV.lss Z Z Z Z) (nt (Au ?_)));refine wc Z u (fun b2 b7=>?_) (fun b2 c2=>?_)
  ·skip
   refine sk (Aj (Au (Cq (sr (have ⟨H,R⟩:=cs b7;have ⟨e6,W⟩:=x.lenMap.ix (sz:=2) Ao H;wq Z (Ae Au7 Z Z Z Z W) (wq Z (Af Ol Z Z Z (el (Ai 1 Z n x) W H)) (Ab Z ((B9 Ah Ak9 (fun e0=>Ab Z ((ew 0 [i_ ((ele f b).st),i_ ((ele f b).bk)] Aan Z (ns (wf St Z (wl pl3 Z (Aq 0 Z Z) (wm Z (wq Z (QV.eql Z Z Z Z) (nt ?_))))))))))))))))));refine wc Z R (fun b3 S=>?_) (fun b3 c0=>?_)
   ·skip
    refine dp 23 [2,0,3] Z (zm 0 Z Z (zm 1 Z Z (wz 2 Z Z (QV.nilCheck Z Z) (zf 3 Ze Z Z (zl 4 Fl Z Z (co 5 (A2 0 Z n (C.le (o.trans q))) Z) (zm 5 Z Z ?_))))));obtain⟨I,T⟩:=cs S;obtain⟨e7,Y⟩:=(N.le (o.trans q)).lenMap.ix (sz:=1) Ao I;refine wz 6 Z Z (Ae Fs Z Z Z Z Y) (zl 7 pl3 Z Z (cl 0 (Ai 0 Z n (N.le (o.trans q))) Y I Z) (zf 8 Rg Z Z (zl 9 pl3 Z Z (Aq 1 Z Z) (zm 10 Z Z (wz 11 Z Z (QV.nilCheck Z Z) (zf 12 Afw Z Z (zl 13 pl3 Z Z (co 3 (A2 0 Z n (C.le (o.trans q))) Z) ?_)))))));obtain⟨c51,c53,J,a9,b9⟩:=cs4 T;refine wz 14 Z Z (QV.mul Z Z Z Z c51) (wz 15 Z Z (A6 Z Z Z Z c53) (zf 16 Rg Z Z (zl 17 pl3 Z Z (Aq 1 Z Z) (wz 18 Z Z (QV.gtr Z Z Z Z) (wz 19 Z Z (QV.build (ps:=[(0,.tmp 47),(1,.tmp 50)]) (cells:=[i_ ((ele k c)+((ele f b).bk * j)),.bool (Ap ((ele f b).bk>0))]) (ea Z) Ag) (Cx 20 Z Ag Z ((Di Ah A5s Ah Ah (ps:=[(0,.tmp 51)]) (cells:=[i_ ((ele k c)+((ele f b).bk * j)),.bool (Ap ((ele f b).bk>0))]) (ea Z) Ag (fun e1=>bp [3,0,1,4] Z (pk [0,2,3]) (Cx 21 Z Ag Z ((Bt (enc:=Use.cells) (xs:=d) (ys:=[(Use.mk ((ele k c)+((ele f b).bk * j)) (Ap ((ele f b).bk>0)))]) ((d++[(Use.mk ((ele k c)+((ele f b).bk * j)) (Ap ((ele f b).bk>0)))])) 2 Ah ve239 Z Z Z Z Z (Bb 0 (rows:=[(Use.mk ((ele k c)+((ele f b).bk * j)) (Ap ((ele f b).bk>0)))].map Use.cells) Z Z (Bq Use.cells_len)) Use.cells_len (Use.cells_one _) Z J.1 J.2 (fun d4 c7=>bp [3,0,1,2,4] Z (pk [0,1,2,4]) (wz 22 Z Z (QV.assign Z Z) (Eh Ag (Ba (Aj (Bn (wq Z (A6 Z Z Z Z a9) (wm Z (Bk ?_)))))))))))))))))))));exact Ek (d++[(Use.mk ((ele k c)+((ele f b).bk * j)) (Ap ((ele f b).bk>0)))]) (b+1) d4 a0 ⟨A3 b9 B,c7⟩ (Cc _) (sb Z) (pk [2,3,4])
   refine sk (Ba (Aj (Bn (have ⟨b0,c1⟩:=cs c0;wq Z (A6 Z Z Z Z b0) (wm Z (Bk ?_))))));exact Ek d (b+1) h a0 ⟨A3 c1 B,s⟩ (Cc _) (sb Z) (pk [1,2,3])
  refine Cw (te (te (Am ?_)));exact Jj d b h ⟨Bh c2 B,s⟩ (sb Z) (pk [0,1,2])
 refine Cw (te (te (Am ?_)));exact Mw i c g p ⟨Bh c3 U,z,o⟩ (sb Z) (pk [0,1])
theorem A1i {L:Addr}{a7 a6 N a9 O a8 M:Al}{P:List Int}{t Q:Int}{u:List Int}{a s j:Int}{k:List Use}{r:Bool} (w:Ak) (n:Yu P t Q u a s j k=some r) (U:Arr w N 1 (P.map Ar)) (f:Arr w O 1 (u.map Ar)) (g:CellsAt w L [a7,a6,N,.int .i64 t,.int .i64 Q,a9,O,a8] 0) (l:Arr w M 2 (k.map Use.cells)):Calls Tryz.prog 157 #[.pointer (some L),.int .i64 a,.int .i64 s,.int .i64 j,M] w (fun e w'=>e=.returned (.bool r)∧Grow w w'):=by
 unfold Yu at n;refine have d:=D0 (w:=w);cw 86 Tryz.func157 Z (sr (wa Z (nt (Au (dq 15 (zm 0 Z Z (wz 1 Z Z (QV.nilCheck Z Z) (zf 2 We Z Z (zl 3 Fl Z Z (co 6 (A2 0 Z d g) Z) (zm 4 Z Z ?_)))))))))) (Av d (D3 w));obtain⟨c1,V⟩:=cs n;obtain⟨b3,J⟩:=f.lenMap.ix (sz:=1) Ao c1;refine wz 5 Z Z (Ae Fs Z Z Z Z J) (zl 6 pl3 Z Z (cl 0 (Ai 0 Z d f) J c1 Z) (zm 7 Z Z (zm 8 Z Z (wz 9 Z Z (QV.nilCheck Z Z) (zf 10 Afw Z Z (zl 11 pl3 Z Z (co 3 (A2 0 Z d g) Z) (have ⟨c5,c7,F⟩:=cs2 V;wz 12 Z Z (QV.mul Z Z Z Z c5) (wz 13 Z Z (A6 Z Z Z Z c7) (wz 14 Z Z (QV.assign Z Z) (Eh Ag (Aj (Au (sr (wm Z (wq Z (A5 Tryz.underlying239 Z Z l.lenMap) (wm Z (nt ?_)))))))))))))))));obtain⟨K,o,a5,a2⟩:=bl F;refine D6 (dt [0,1,3,11,28,29] [0] Z) (fun (c:Int)=>[(30,(true,i_ c))]) (fun c=>[]) (fun c m=>Cp (O7 t u a s j k) m c=some K) (fun c=>K=.go c) 0 a5 a2 (sb Z) (pk [0]) ?_ ?_
 ·skip
  rintro c rfl;refine Aj (sr (wm Z (wq Z (QV.leq Z Z Z Z) (wm Z (gP Z (QV.move Z Z) (gP Z (QV.move Z Z) (gp Z (fun b=>QV.nilCheck Z b) (gp Z (fun b=>QV.fieldAddr We Z b) (gp Z (fun b=>Cs Fl Z b (co 6 (A2 0 Z d g) Z)) (gP Z (QV.move Z Z) ?_))))))))));obtain⟨v,A⟩:=cs o;obtain⟨b2,G⟩:=f.lenMap.ixG (sz:=1) Ao v;refine gp Z (fun b=>Ae Fs Z b Z b (G b)) (gp Z (fun b=>Cs pl3 Z b (cl 0 (Ai 0 Z d f) (G b) (v b) Z)) (gp Z (fun b=>QV.geq Z b Z b) (wq Z (A7 Z Z Z (fun h=>h)) (wm Z (gP Z (QV.move Z Z) (gp Z (fun b=>QV.nilCheck Z b) (gp Z (fun b=>QV.fieldAddr Zf Z b) (gp Z (fun b=>QV.fieldAddr Yg Z b) (gp Z (fun b=>Cs Fl Z b (co 2 (A2 0 Z d g) Z)) (gP Z (QV.move Z Z) ?_))))))))));obtain⟨b7,a3,W⟩:=Dg A;refine gp Z (fun b=>QV.call en173 (De Z b (De Z b eN)) (fun w i=>have h:=Abl w (a3 b) ((Ai 0 Z d U) w i);h)) ?_;refine wq Z (A7 Z Z Z (fun h=>h)) (wa Z (nt (A9 ?_)));obtain rfl:=(Ad W).symm;exact Aw Z Z fun w i=>kg i
 rintro c b1 z;obtain⟨a4,b6,rfl,p,q⟩:=A0 z;unfold O7 at p;refine sr (wq Z (QV.lss Z Z Z Z) (nt (Au ?_)));refine wc Z p (fun S B=>?_) (fun S a1=>?_)
 ·skip
  refine sk (Aj (Au (Cq (sr ?_))));obtain⟨x,C⟩:=cs B;obtain⟨b4,H⟩:=l.lenMap.ix (sz:=2) Ao x;refine wq Z (Ae sl239 Z Z Z Z H) (wq Z (Af ag263 Z Z Z (el (Ai 0 Z d l) H x)) (Ab Z ((B9 Ah ze263 (fun b0=>Ab Z ((ew 0 [i_ ((ele k c).til),.bool ((ele k c).later)] sz263 Z (ns (wm Z (wm Z (wq Z (QV.nilCheck Z Z) (wf We Z (wl Fl Z (co 6 (A2 1 Z d g) Z) (wm Z ?_))))))))))))));obtain⟨y,E⟩:=cs C;obtain⟨b5,I⟩:=f.lenMap.ix (sz:=1) Ao y;refine wq Z (Ae Fs Z Z Z Z I) (wl pl3 Z (cl 0 (Ai 1 Z d f) I y Z) (wq Z (QV.geq Z Z Z Z) (wm Z (gP Z (QV.move Z Z) (gP Z (QV.fieldAddr Auh Z Z) (gp Z (fun b=>Cs pl3 Z b (Aq 0 Z Z)) (gp Z (fun b=>QV.leq Z b Z b) (wq Z (A7 Z Z Z (fun h=>h)) (wm Z (gN Z (QV.fieldAddr A3c Z Z) (gn Z (fun b=>Cs pl4 Z b (Aq 0 Z Z)) (gn Z (fun b=>QV.move Z b) (gpC Z (fun b=>QV.move Z Z) (gpC Z (fun b=>QV.gtr Z b Z Z) (gn Z (fun b=>A7 Z b Z (fun h=>Avh b h)) (gn Z (fun b=>QV.move Z b) (gpC Z (fun b=>QV.move Z Z) (gpC Z (fun b=>QV.fieldAddr Auh Z Z) (gpC Z (fun b=>Cs pl3 Z b (Aq 0 Z Z)) (gpC Z (fun b=>QV.leq Z b Z b) (gn Z (fun b=>A7 Z b Z (fun h=>Avh b h)) (wq Z (Bc Z Z Z (fun h=>Fm h)) (nt ?_)))))))))))))))))))))));refine wc Z E (fun T X=>?_) (fun T Y=>?_)
  ·skip
   refine sr (wa Z (nt (A9 (kr (tr (tr (kr (tr (tr ?_)))))))));obtain rfl:=Dr X q;obtain rfl:=(Ad o).symm;exact Aw Z Z fun w i=>kg i
  refine sk (Ba (Aj (Bn (have ⟨R,a0⟩:=cs Y;wq Z (A6 Z Z Z Z R) (wm Z (Bk ?_))))));exact D5 (c+1) a4 (A3 a0 q) (Cc _) (sb Z) (pk [1])
 refine Cw (te (te (Am ?_)));exact Eo c (Bh a1 q) (sb Z) (pk [0])
theorem Abi {J:Addr}{c0 K L O N M:Al}{P:List Stm}{t:List Int}{n g:Int}{Q u o:List Int}{a l:Int}{r:Bool} (w:Ak) (p:Me P t n g Q u o a l=some r) (a7:Arr w K 9 (P.map Stm.cells)) (a8:Arr w L 1 (t.map Ar)) (b0:Arr w O 1 (Q.map Ar)) (a9:Arr w N 1 (u.map Ar)) (k:Arr w M 1 (o.map Ar)) (d:CellsAt w J [c0,K,L,.int .i64 n,.int .i64 g,O,N,M] 0):Calls Tryz.prog 119 #[.pointer (some J),.int .i64 a,.int .i64 l] w (fun e w'=>e=.returned (.bool r)∧Grow w w'):=by
 unfold Me at p;refine have b:=D0 (w:=w);cw 88 Tryz.func119 Z (sr (wa Z (ns (wm Z (wm Z (Ab Z ?_)))))) (Av b (D3 w));obtain⟨c1,b6,z⟩:=An p;refine(cq b en156 Z (Axe b6 a7 b0 d) Z (fun c2 a6 c=>wa Z (nt (Au (dq 31 (zm 0 Z Z (wz 1 Z Z (QV.nilCheck Z Z) (zf 2 Mv Z Z (zl 3 Fl Z Z (co 7 (A2 0 Z b (d.le c)) Z) (zm 4 Z Z ?_))))))))));obtain⟨c5,F⟩:=cs z;obtain⟨c6,H⟩:=(k.le c).lenMap.ix (sz:=1) Ao c5;refine wz 5 Z Z (Ae Fs Z Z Z Z H) (zl 6 pl3 Z Z (cl 0 (Ai 0 Z b (k.le c)) H c5 Z) (zm 7 Z Z (wz 8 Z Z (QV.nilCheck Z Z) (zf 9 Mv Z Z (zl 10 Fl Z Z (co 7 (A2 0 Z b (d.le c)) Z) (zm 11 Z Z ?_))))));obtain⟨c9,x⟩:=cs F;obtain⟨c4,G⟩:=(k.le c).lenMap.ix (sz:=1) Ao c9;refine wz 12 Z Z (Ae Fs Z Z Z Z G) (zl 13 pl3 Z Z (cl 0 (Ai 0 Z b (k.le c)) G c9 Z) ?_);obtain⟨R,S,T,U,c21,V,W,X,y⟩:=cs8 x;refine wz 14 Z Z (D2 Z Z Z Z R) (zm 15 Z Z (wz 16 Z Z (QV.nilCheck Z Z) (zf 17 Po Z Z (zl 18 pl3 Z Z (co 4 (A2 0 Z b (d.le c)) Z) (wz 19 Z Z (QV.rem Z Z Z Z S) (zm 20 Z Z (wz 21 Z Z (QV.nilCheck Z Z) (zf 22 Po Z Z (zl 23 pl3 Z Z (co 4 (A2 0 Z b (d.le c)) Z) (wz 24 Z Z (A6 Z Z Z Z T) (zm 25 Z Z (wz 26 Z Z (QV.nilCheck Z Z) (zf 27 Po Z Z (zl 28 pl3 Z Z (co 4 (A2 0 Z b (d.le c)) Z) (wz 29 Z Z (QV.rem Z Z Z Z U) (wz 30 Z Z (QV.assign Z Z) (Eh Ag (Aj (sr (wm Z (wq Z (QV.nilCheck Z Z) (wf Afw Z (wl pl3 Z (co 3 (A2 0 Z b (d.le c)) Z) (wq Z (QV.quo Z Z Z Z c21 V) (wq Z (A6 Z Z Z Z W) (wa Z (nt (Au (Au (dq 15 (zm 0 Z Z (zm 1 Z Z ?_))))))))))))))))))))))))))))))));refine zm 2 Z Z (wz 3 Z Z (QV.nilCheck Z Z) (zf 4 Po Z Z (zl 5 pl3 Z Z (co 4 (A2 0 Z b (d.le c)) Z) ?_)));obtain⟨Y,a0,a1,a2,A⟩:=cs4 y;refine wz 6 Z Z (QV.quo Z Z Z Z X Y) (wz 7 Z Z (A6 Z Z Z Z a0) (zm 8 Z Z (wz 9 Z Z (QV.nilCheck Z Z) (zf 10 Po Z Z (zl 11 pl3 Z Z (co 4 (A2 0 Z b (d.le c)) Z) (wz 12 Z Z (QV.mul Z Z Z Z a1) (wz 13 Z Z (D2 Z Z Z Z a2) (wz 14 Z Z (QV.assign Z Z) (Eh Ag (Aj ?_))))))))));obtain⟨I,B,b9,b5⟩:=bl A;refine D6 (dt [0,1,2,7,9] [0] Z) (fun (f:Int)=>[(10,(true,i_ f))]) (fun f=>[]) (fun f m=>Cp (Pe t n g u a l c1) m f=some I) (fun f=>I=.go f) ((Int.tmod ((Int.tmod ((ele o a) - (ele o l)) g)+g) g) - (((Int.tdiv ((Int.tdiv 4000 n)+1) g)+2) * g)) b9 b5 (sb Z) (pk [0]) ?_ ?_
 ·skip
  rintro f rfl;refine Aj (sr (wa Z (nt (A9 ?_))));obtain rfl:=(Ad B).symm;exact Aw Z Z fun w j=>kg j
 rintro f c3 v;obtain⟨b8,c7,rfl,q,s⟩:=A0 v;unfold Pe at q;refine Au (sr (wm Z (wm Z (wq Z (QV.leq Z Z Z Z) (nt ?_)))));refine wc Z q (fun a4 C=>?_) (fun a4 b4=>?_)
 ·skip
  refine sk (Aj (Au (Cq (sr (wm Z (wm Z (wq Z (QV.neq Z Z Z Z) (wm Z (gN Z (QV.move Z Z) (gn Z (fun i=>QV.neq Z i Z Z) (wq Z (Bc Z Z Z (fun h=>Fm h)) (wm Z (gP Z (QV.move Z Z) (gP Z (QV.move Z Z) (gP Z (QV.move Z Z) (gP Z (QV.move Z Z) (gP Z (QV.move Z Z) ?_)))))))))))))))));obtain⟨c8,b7,E⟩:=Dg C;refine gp Z (fun i=>QV.call en157 (De Z i (De Z i (De Z i (De Z i (De Z i eN))))) (fun w j=>have h:=A1i w (b7 i) ((Ai 0 Z b (a8.le c)) w j) ((Ai 0 Z b (a9.le c)) w j) (A2 0 Z b (d.le c) w j) ((Ai 0 Z b a6) w j);h)) ?_;refine wq Z (A7 Z Z Z (fun h=>h)) (nt ?_);refine wc Z E (fun a5 b1=>?_) (fun a5 b2=>?_)
  ·skip
   refine sr (wa Z (nt (A9 (kr (tr (tr (kr (tr (tr ?_)))))))));obtain rfl:=Dr b1 s;obtain rfl:=(Ad B).symm;exact Aw Z Z fun w j=>kg j
  refine sk (Ba (Aj (Bn (wm Z (wm Z (wq Z (QV.nilCheck Z Z) (wf Po Z (wl pl3 Z (co 4 (A2 0 Z b (d.le c)) Z) (have ⟨a3,b3⟩:=cs b2;wq Z (A6 Z Z Z Z a3) (wa Z (Bk ?_)))))))))));exact D5 (f+g) b8 (A3 b3 s) (Cc _) (sb Z) (pk [0])
 refine Cw (te (te (Am ?_)));exact Eo f (Bh b4 s) (sb Z) (pk [0])
theorem Afg {Q:Addr}{T S U c6 c5 V R:Al}{x:List Int}{v:List Stm}{y:List Int}{W c:Int}{j l:List Int}{r:Bool} (w:Ak) (s:Mm x v y W c j l=some r) (a9:Arr w T 1 (x.map Ar)) (a8:Arr w S 9 (v.map Stm.cells)) (b0:Arr w U 1 (y.map Ar)) (C:Arr w V 1 (j.map Ar)) (n:CellsAt w Q [T,S,U,.int .i64 W,.int .i64 c,c6,c5,V] 0) (q:Arr w R 1 (l.map Ar)):Calls Tryz.prog 120 #[.pointer (some Q),R] w (fun e w'=>e=.returned (.bool r)∧Grow w w'):=by
 unfold Mm at s;refine have d:=D0 (w:=w);cw 58 Tryz.func120 Z (sr (wa Z (ns (Ab Z ((An4 (ke:=kI) (ve:=bv) Ah (fun b1=>wa Z (nt (Au (sr (wm Z (wq Z (A5 Tryz.underlying34 Z Z q.lenMap) (wm Z (nt ?_)))))))))))))) (Av d (D3 w));obtain⟨O,K,c4,b9⟩:=bl s;refine B6 (dt [0,5,11,12] [1] Z) (fun (g:List (Int×Bool)) (a:Int)=>[(13,(true,i_ a))]) (fun g a=>[Xi b1 kI bv g]) (fun g a m=>Cp (Nf x v y c j l) m (g,a)=some O) (fun g a=>O=.go (g,a)) ([]:List (Int×Bool)) 0 c4 b9 (sb Z) (pk [0,1]) ?_ ?_
 ·skip
  rintro g a rfl;refine Aj (sr (wa Z (nt (A9 ?_))));obtain rfl:=(Ad K).symm;exact Aw Z Z fun w i=>kg i
 rintro g a c9 B;obtain⟨c2,d2,rfl,o,t⟩:=A0 B;unfold Nf at o;simp only at o;refine sr (wq Z (QV.lss Z Z Z Z) (nt (Au ?_)));refine wc Z o (fun a5 E=>?_) (fun a5 b7=>?_)
 ·skip
  refine sk (Aj (Au (Cq (sr ?_))));obtain⟨z,F⟩:=cs E;obtain⟨d0,M⟩:=q.lenMap.ix (sz:=1) Ao z;refine wq Z (Ae Fs Z Z Z Z M) (wl pl3 Z (cl 0 (Ai 1 Z d q) M z Z) (wa Z (ns (wm Z (wq Z (QV.nilCheck Z Z) (wf Zf Z (wq Z (Af Fc Z Z Z (fun w i=>CellsAt.sub 0 3 ((A2 1 Z d n) w i) Z)) (wm Z ?_))))))));obtain⟨c7,c0,G⟩:=An F;refine wq Z (QV.call en75 (ea Z) (fun w i=>have h:=Ain w c0 ((Ai 1 Z d a9) w i) ((Ai 1 Z d a8) w i) ((Ai 1 Z d b0) w i);h)) ?_;refine wm Z (nt ?_);obtain⟨P,H,c3,b8⟩:=bl G;refine B6 (dt [0,5,7,11,12,13,22] [1] Z) (fun (f:List (Int×Bool)) (b:Int)=>[(23,(true,i_ b))]) (fun f b=>[Xi b1 kI bv f]) (fun f b m=>Cp (Jz c j l a c7) m (f,b)=some P) (fun f b=>P=.go (f,b)) g 0 c3 b8 (sb Z) (pk [0,1]) ?_ ?_
  ·skip
   rintro f b rfl;refine Ba (Aj (Bn (have ⟨X,b2⟩:=cs H;wq Z (A6 Z Z Z Z X) (wm Z (Bk ?_)))));exact Bs f (a+1) c2 (A3 b2 t) (Cc _) (sb Z) (pk [0,1])
  rintro f b c8 A;obtain⟨c1,d3,rfl,p,u⟩:=A0 A;unfold Jz at p;simp only at p;refine sr (wq Z (QV.lss Z Z Z Z) (nt (Au ?_)));refine wc Z p (fun a6 I=>?_) (fun a6 b6=>?_)
  ·skip
   refine sk (Aj (Au (Cq (sr (wm Z (wa Z (nt (Au (dp 26 [1,0] Z (zm 0 Z Z (wz 1 Z Z (QV.nilCheck Z Z) (zf 2 Mv Z Z (zl 3 Fl Z Z (co 7 (A2 0 Z d n) Z) (zm 4 Z Z ?_))))))))))))));obtain⟨c37,J⟩:=cs I;obtain⟨d1,N⟩:=C.lenMap.ix (sz:=1) Ao c37;refine wz 5 Z Z (Ae Fs Z Z Z Z N) (zl 6 pl3 Z Z (cl 0 (Ai 0 Z d C) N c37 Z) (zm 7 Z Z ?_));obtain⟨Y,a0,a1,a2,a3,L⟩:=cs5 J;refine wz 8 Z Z (D2 Z Z Z Z Y) (wz 9 Z Z (D2 Z Z Z Z a0) (zm 10 Z Z (wz 11 Z Z (QV.nilCheck Z Z) (zf 12 Po Z Z (zl 13 pl3 Z Z (co 4 (A2 0 Z d n) Z) (wz 14 Z Z (QV.rem Z Z Z Z a1) (zm 15 Z Z (wz 16 Z Z (QV.nilCheck Z Z) (zf 17 Po Z Z (zl 18 pl3 Z Z (co 4 (A2 0 Z d n) Z) (wz 19 Z Z (A6 Z Z Z Z a2) (zm 20 Z Z (wz 21 Z Z (QV.nilCheck Z Z) (zf 22 Po Z Z (zl 23 pl3 Z Z (co 4 (A2 0 Z d n) Z) (wz 24 Z Z (QV.rem Z Z Z Z a3) (wz 25 Z Z (QV.assign Z Z) (Eh Ag (Aj (Au (sr (wm Z (wm Z (wq Z (QV.lookup (k:=(Int.tmod ((Int.tmod (((ele j (ele l a)) - b) - 1) c)+c) c)) 0 Az Atk kt3 A37 Z Z Z Z Z) (nt ?_)))))))))))))))))))))))));refine wc Z L (fun a7 b3=>?_) (fun a7 b4=>?_)
   ·skip
    refine sr (wa Z (nt (A9 (tr (kr (tr (tr (kr (tr (kr (tr (tr (kr (tr (tr ?_)))))))))))))));obtain rfl:=Dr b3 u;obtain rfl:=Dr H t;obtain rfl:=(Ad K).symm;exact Aw Z Z fun w i=>kg i
   refine sk (Aj (Bn (wm Z (wm Z (Ab Z ((EV.mapUpdate (ke:=kI) (ve:=bv) (Int.tmod ((Int.tmod (((ele j (ele l a)) - b) - 1) c)+c) c) 0 true Atk kt3 Z Z Z Z Z Z Z (Bk (Ba (Aj (Bn (have ⟨a4,b5⟩:=cs b4;wq Z (A6 Z Z Z Z a4) (wm Z (Bk ?_))))))))))))));exact Bs (Oi f (Int.tmod ((Int.tmod (((ele j (ele l a)) - b) - 1) c)+c) c) true) (b+1) c1 (A3 b5 u) (Cc _) (sb Z) (pk [0,1])
  refine Cw (te (te (Am ?_)));exact Cm f b (Bh b6 u) (sb Z) (pk [0,1])
 refine Cw (te (te (Am ?_)));exact Cm g a (Bh b7 t) (sb Z) (pk [0,1])
end Go.Proofs.YtaimbkndebaaiaaGreatDoor
end
section
namespace Go.Proofs.YtaimbkndebaaiaaGreatDoor
open Go.Rd
open TLib TLibR TLibA TSay TNum0 TNum TLoop TPar TStable TMach TMach2 TKern TClone TNbr TSeq TKRun TKeep
namespace TOrd
theorem A42:Go.Rd.Enters Tryz.prog 108:=eT Tryz.func108
theorem en62:Go.Rd.Enters Tryz.prog 62:=eT Tryz.func62
theorem A1u:Go.Rd.Enters Tryz.prog 63:=eT Tryz.func63
theorem Yc:Cb Tryz.prog 87 0 0:=fT 0 Tryz.underlying87
theorem Aa7:Cb Tryz.prog 87 1 1:=fT 0 Tryz.underlying87
theorem Adw:Cb Tryz.prog 87 2 2:=fT 0 Tryz.underlying87
theorem Adv:Cb Tryz.prog 87 3 3:=fT 0 Tryz.underlying87
end TOrd
open TOrd
theorem Vm {x:Int}{r:Bool} (w:Ak) (a:Kl x=some r) :Calls Tryz.prog 108 #[.int .i64 x] w (fun e w'=>e=.returned (.bool r)∧Grow w w'):=by
 unfold Kl at a;refine have b:=D0 (w:=w);cw 6 Tryz.func108 Z (sr (wa Z (ns (wm Z (wm Z (wq Z (QV.neq Z Z Z Z) (wa Z (nt (A9 ?_))))))))) (Av b (D3 w));obtain rfl:=(Ad a).symm;exact Aw Z Z fun w c=>kg c
theorem K4 {x y r:Int} (w:Ak) (b:E3 x y=some r) :Calls Tryz.prog 63 #[.int .i64 x,.int .i64 y] w (fun e w'=>e=.returned (.int .i64 r)∧Grow w w'):=by
 unfold E3 at b;refine have p:=D0 (w:=w);cw 20 Tryz.func63 Z (sr (wa Z (ns (wm Z ?_)))) (Av p (D3 w));obtain⟨C,A,g⟩:=An b;refine wq Z (QV.call A42 (ea Z) (fun w a=>have h:=Vm w A ;h)) ?_;refine wa Z (ns (wm Z ?_));obtain⟨E,B,i⟩:=An g;refine wq Z (QV.call A42 (ea Z) (fun w a=>have h:=Vm w B ;h)) ?_;refine wa Z (nt (Au (sr (wm Z (nt ?_)))));refine wc Z i (fun n j=>?_) (fun n c=>?_)
 ·skip
  refine Au (sr (wm Z (nt ?_)));refine wc Z j (fun o q=>?_) (fun o s=>?_)
  ·skip
   refine sr (wa Z (nt (A9 (tr (tr ?_)))));obtain rfl:=(Ad q).symm;exact Aw Z Z fun w a=>kg a
  refine sk (Aj (sr (wa Z (nt (A9 (tr ?_))))));obtain rfl:=(Ad s).symm;exact Aw Z Z fun w a=>kg a
 refine sk (Aj (Au (sr (wm Z (nt ?_)))));refine wc Z c (fun k t=>?_) (fun k d=>?_)
 ·skip
  refine sr (wa Z (nt (A9 (tr ?_))));obtain rfl:=(Ad t).symm;exact Aw Z Z fun w a=>kg a
 refine sk (Aj (Au (sr (wm Z (wm Z (wq Z (QV.lss Z Z Z Z) (nt ?_)))))));refine wc Z d (fun l u=>?_) (fun l f=>?_)
 ·skip
  refine sr (wa Z (nt (A9 (tr ?_))));obtain rfl:=(Ad u).symm;exact Aw Z Z fun w a=>kg a
 refine sk (Aj (Au (sr (wm Z (wm Z (wq Z (QV.gtr Z Z Z Z) (nt ?_)))))));refine wc Z f (fun m v=>?_) (fun m z=>?_)
 ·skip
  refine sr (wa Z (nt (A9 (tr ?_))));obtain rfl:=(Ad v).symm;exact Aw Z Z fun w a=>kg a
 refine sk (Aj (sr (wa Z (nt (A9 ?_)))));obtain rfl:=(Ad z).symm;exact Aw Z Z fun w a=>kg a
theorem Ajg {s:Al}{h:List Int}{r:Int} (w:Ak) (c:Od h=some r) (b:Arr w s 1 (h.map Ar)):Calls Tryz.prog 62 #[s] w (fun e w'=>e=.returned (.int .i64 r)∧Grow w w'):=by
 unfold Od at c;refine have k:=D0 (w:=w);cw 18 Tryz.func62 Z (sr (wa Z (ns (wa Z (nt (Au (sr (wm Z (wq Z (A5 Tryz.underlying34 Z Z b.lenMap) (wm Z (nt ?_))))))))))) (Av k (D3 w));obtain⟨q,o,C,A⟩:=bl c;refine D6 (dt [3,6,7] [0] Z) (fun (a:Int)=>[(8,(true,i_ a))]) (fun a=>[]) (fun a m=>Cp (E0 h) m a=some q) (fun a=>q=.go a) 0 C A (sb Z) (pk [0]) ?_ ?_
 ·skip
  rintro a rfl;refine Aj (sr (wm Z (wa Z (nt (A9 ?_)))));obtain rfl:=(Ad o).symm;exact Aw Z Z fun w g=>kg g
 rintro a E j;obtain⟨B,G,rfl,d,f⟩:=A0 j;unfold E0 at d;refine sr (wq Z (QV.lss Z Z Z Z) (nt (Au ?_)));refine wc Z d (fun t l=>?_) (fun t z=>?_)
 ·skip
  refine sk (Aj (Au (Cq (sr ?_))));obtain⟨i,n⟩:=cs l;obtain⟨F,p⟩:=b.lenMap.ix (sz:=1) Ao i;refine wq Z (Ae Fs Z Z Z Z p) (wl pl3 Z (cl 0 (Ai 0 Z k b) p i Z) (wa Z (ns (wm Z (wm Z (wq Z (QV.neq Z Z Z Z) (nt ?_)))))));refine wc Z n (fun u v=>?_) (fun u x=>?_)
  ·skip
   refine sr (wm Z (wa Z (nt (A9 (kr (tr (tr (kr (tr (tr ?_))))))))));obtain rfl:=Dr v f;obtain rfl:=(Ad o).symm;exact Aw Z Z fun w g=>kg g
  refine sk (Ba (Aj (Bn (have ⟨c21,y⟩:=cs x;wq Z (A6 Z Z Z Z c21) (wm Z (Bk ?_))))));exact D5 (a+1) B (A3 y f) (Cc _) (sb Z) (pk [0])
 refine Cw (te (te (Am ?_)));exact Eo a (Bh z f) (sb Z) (pk [0])
theorem Aqi {a b:Edg}{r:Int} (w:Ak) (d:Tq a b=some r) :Calls Tryz.prog 32 #[.agg #[.int .i64 a.fr,.int .i64 a.tO,.int .i64 a.bk,.int .i64 a.wt],.agg #[.int .i64 b.fr,.int .i64 b.tO,.int .i64 b.bk,.int .i64 b.wt]] w (fun e w'=>e=.returned (.int .i64 r)∧Grow w w'):=by
 unfold Tq at d;refine have o:=D0 (w:=w);cw 27 Tryz.func32 Z (sr (Ab Z ((A4 Ah Z Z (fun b1=>Ab Z ((A4 Ah Z Z (fun b2=>wa Z (nt (Au (dp 23 [2,0,1] Z (zf 0 Yc Z Z (zl 1 pl3 Z Z (Aq 2 Z Z) (zf 2 Yc Z Z (zl 3 pl3 Z Z (Aq 1 Z Z) ?_))))))))))))))) (Av o (D3 w));obtain⟨l,u,i⟩:=An d;refine wz 4 Z Z (QV.call A1u (ea Z) (fun w c=>have h:=K4 w u ;h)) ?_;refine zf 5 Aa7 Z Z (zl 6 pl3 Z Z (Aq 2 Z Z) (zf 7 Aa7 Z Z (zl 8 pl3 Z Z (Aq 1 Z Z) ?_)));obtain⟨m,v,j⟩:=An i;refine wz 9 Z Z (QV.call A1u (ea Z) (fun w c=>have h:=K4 w v ;h)) ?_;refine zf 10 Adw Z Z (zl 11 pl3 Z Z (Aq 2 Z Z) (zf 12 Adw Z Z (zl 13 pl3 Z Z (Aq 1 Z Z) ?_)));obtain⟨n,q,f⟩:=An j;refine wz 14 Z Z (QV.call A1u (ea Z) (fun w c=>have h:=K4 w q ;h)) ?_;refine zf 15 Adv Z Z (zl 16 pl3 Z Z (Aq 2 Z Z) (zf 17 Adv Z Z (zl 18 pl3 Z Z (Aq 1 Z Z) ?_)));obtain⟨k,s,g⟩:=An f;refine wz 19 Z Z (QV.call A1u (ea Z) (fun w c=>have h:=K4 w s ;h)) ?_;refine Cx 20 Z Ag Z ((Di Ah L7 Ah Ah (ps:=[(0,.tmp 9),(1,.tmp 14),(2,.tmp 19),(3,.tmp 24)]) (cells:=[i_ l,i_ m,i_ n,i_ k]) (ea Z) Ag (fun x=>bp [3,0,1,2] Z (pk [0,2,3]) ?_)));obtain⟨y,t,p⟩:=An g;refine wz 21 Z Z (QV.call en62 (ea Z) (fun w c=>have h:=Ajg w t ((Bb 1 (rows:=[l,m,n,k].map Ar) Z Z (Bq Bd)) w c);h)) ?_;refine wz 22 Z Z (QV.assign Z Z) (Eh Ag (Aj (A9 ?_)));obtain rfl:=(Ad p).symm;exact Aw Z Z fun w c=>kg c
end Go.Proofs.YtaimbkndebaaiaaGreatDoor
end
section
namespace Go.Rd
open Go.RowKit Go.Sort Go.Shelf Go.Lib Go.Proofs
section
variable {α : Type} [Inhabited α] {enc : α → List Al} {k : Nat}
theorem Aip (a:∀ x,(enc x).length=k) (l:0<k) (xs:List α):(flatK enc k xs.toArray).toList=(xs.map enc).flatten:=by
 apply Xq;intro j
 have b:∀ r∈xs.map enc,r.length=k:=fun r n=>by obtain⟨u,_,rfl⟩:=I7.1 n;exact a u
 have c:=Dm b;rw[Gl] at c;by_cases d:j<xs.length * k
 ·have g:j / k<xs.length:=Aly (by rwa [Rc] at d)
  have f:j % k<k:=Nat.mod_lt _ l;have m:=Jw (sz:=k) (rows:=xs.map enc) (i:=j / k) (r:=enc xs[j / k]) b (by simp[g])
  have h:(xs.map enc).flatten[j]?=(enc xs[j / k])[j % k]?:=by
   have:(enc xs[j / k])[j % k]?=(((xs.map enc).flatten.drop (j / k * k)).take (enc xs[j / k]).length)[j % k]?:=by rw[m]
   rw[this,Rp,a,Bj f,Ya,Rc,Agx]
  have e:j % k<(enc xs[j / k]).length:=by rw[a];exact f
  rw[h,E7 e];simp[flatK,d,g,e]
 ·rw[Q1 (by rw[Aaw,size_flatK,Aq4];omega),Q1 (by rw[c];omega)]
variable {M : Nat → Prop} {w w0 : Ak} {H : List Res} {E : TypeId} {b n cap : Nat} {xs ys : List α}
theorem Aic (r:∀ x,(enc x).length=k) (o:0<k) (h:(vec (.slice (some ⟨b,0,none⟩) n cap) E k (xs.map enc)).holds w):HoldsK enc k w b 0 xs.toArray∧n=xs.length∧b<w.heap.size:=by
 obtain⟨⟨f,a⟩,u⟩:=h;rcases a with ⟨h,_⟩ | ⟨g,t,d,m,_,e,i,_,p,l⟩
 ·cases h
 ·simp only[Jh,Gs,Pj,Gl] at m
  obtain⟨⟨rfl,_⟩,rfl,rfl⟩:=m;refine⟨fun j c=>?_,rfl,(Rs.1 e).1⟩;rw[size_flatK,Aq4] at c;rw[Gl] at i l
  have v:j<d.size:=by rw[p];exact Abu c (Z1 _ i)
  have s:=Aip r o xs
  have q:d[j]?=some (id (flatK enc k xs.toArray)[j]!):=by
   have f:(flatK enc k xs.toArray)[j]?=some (flatK enc k xs.toArray)[j]!:=by
    have:j<(flatK enc k xs.toArray).size:=by simpa using c
    rw[getElem!_pos (flatK enc k xs.toArray) j this,Adr this]
   have a:(flatK enc k xs.toArray).toList[j]?=d.toList[j]?:=by
    rw[s,←l,Rp,Bj c]
   rw[Aeq,Aeq] at a;rw[←a,f];rfl
  rw[Tf];refine⟨?_,by simp[World.frozen?,e]⟩;simp only[World.cell?,e];exact q
theorem Aad {m:Nat}{os:Array Obj}:((sortWorldK enc k w b 0 m ys.toArray os).os=w.os∧(sortWorldK enc k w b 0 m ys.toArray os).tape=w.tape∧((sortWorldK enc k w b 0 m ys.toArray os).output=w.output∧w.drawn≤(sortWorldK enc k w b 0 m ys.toArray os).drawn)∧w.heap.size≤(sortWorldK enc k w b 0 m ys.toArray os).heap.size) ∧
  (∀ j,j<w.heap.size→j≠b→(sortWorldK enc k w b 0 m ys.toArray os).heap[j]?=w.heap[j]?) ∧
  (∀ a t,w.heap[b]?=some (.cells a t (0,0))→(sortWorldK enc k w b 0 m ys.toArray os).heap[b]?=some (.cells (putCells id 0 (flatK enc k ys.toArray) a) t (0,0))):=by
 refine⟨⟨rfl,rfl,⟨rfl,Nat.le_add_right _ _⟩,?_⟩,fun j c e=>?_,fun a t d=>?_⟩
 ·show w.heap.size≤(w.heap.modify b _++os).size
  simp
 ·show (w.heap.modify b (onCells (putCells id 0 (flatK enc k ys.toArray)))++os)[j]?=_
  rw[Al6 (by simpa using c),Aer,Bg (Ne.symm e)]
 ·have c:=(Rs.1 d).1
  show (w.heap.modify b (onCells (putCells id 0 (flatK enc k ys.toArray)))++os)[b]?=_;rw[Al6 (by simpa using c),Aer,Bj rfl,d];rfl
theorem Ar5 (i:∀ x,(enc x).length=k) (p:0<k) (h:(vec (.slice (some ⟨b,0,none⟩) n cap) E k (xs.map enc)).holds w) (C:ys.length=xs.length) (m:Nat) (os:Array Obj) :
  (vec (.slice (some ⟨b,0,none⟩) n cap) E k (ys.map enc)).holds (sortWorldK enc k w b 0 m ys.toArray os):=by
 obtain⟨⟨J,q⟩,K⟩:=h;rcases q with ⟨h,_⟩ | ⟨g,I,c,o,y,z,l,t,f,L⟩
 ·cases h
 ·simp only[Jh,Gs,Pj] at o
  obtain⟨⟨rfl,_⟩,rfl,rfl⟩:=o
  have e:∀ r∈ys.map enc,r.length=k:=fun r G=>by obtain⟨u,_,rfl⟩:=I7.1 G;exact i u
  have v:=Dm e;have s:=(Aad (enc:=enc) (k:=k) (w:=w) (b:=b) (ys:=ys) (m:=m) (os:=os)).2.2 c E z
  have d:(ys.map enc).length=(xs.map enc).length:=by simp[C]
  refine⟨⟨v,.inr ⟨b,cap,putCells id 0 (flatK enc k ys.toArray) c,by rw[d],y,s,by rw[d];exact l,t,by simp[putCells,f],?_⟩⟩,e⟩;rw[←Aip i p ys];apply Xq;intro j;rw[Rp];have hs:(flatK enc k ys.toArray).size=(ys.map enc).length * k:=Bf;by_cases a:j<(ys.map enc).length * k
  ·have F:j<c.size:=by rw[f];rw[d] at a;exact Abu a (Z1 _ l)
   have B:j<(flatK enc k ys.toArray).size:=by rw[hs];exact a
   rw[Bj a,Aeq,Aeq];rw[Adr B]
   have A:j<ys.length * k:=by rw[Gl] at a;exact a
   simp[putCells,F,A]
  ·rw[Bg a,Q1 (by rw[Aaw,hs];omega)]
theorem As9 {c:Ak} (q:Base M c w) (h:∀ x,(enc x).length=k) (f:0<k) (d:Own M w [vec (.slice (some ⟨b,0,none⟩) n cap) E k (xs.map enc)] w) (r:ys.length=xs.length) (m:Nat) (os:Array Obj) :
  Own M w (kn M w.heap.size c c::[vec (.slice (some ⟨b,0,none⟩) n cap) E k (ys.map enc)]) (sortWorldK enc k w b 0 m ys.toArray os):=by
 have hs:=Av q d;obtain⟨⟨i,l,f3,o⟩,p,f6⟩:=Aad (enc:=enc) (k:=k) (w:=w) (b:=b) (ys:=ys) (m:=m) (os:=os);refine hs.upd 1 rfl i l f3 o (fun j a s=>p j a fun e=>s (by subst e;exact⟨_,_,rfl⟩)) (Ar5 h f d.head r m os) fun j a=>?_;refine⟨.inl a,?_⟩;obtain⟨t,c2,g⟩:=a;simp only[Jh,Gs,Pj] at g;obtain⟨⟨rfl,_⟩,_⟩:=g;have:=(Aic h f d.head).2.2;omega
theorem A29 {w w':Ak} (h:Grow w w'):∃ q g,w'=grow (w.drewN q) g:=by
 obtain⟨c,d,⟨e,i⟩,l,f⟩:=h;refine⟨w'.drawn - w.drawn,w'.heap.extract w.heap.size w'.heap.size,?_⟩
 cases w'
 simp only[grow,World.drewN] at *;subst c d e;congr 1
 ·apply Alx
  intro j;by_cases a:j<w.heap.size
  ·rw[Al6 a];exact f j a
  ·rw[Array.getElem?_append_right Aa,Array.getElem?_extract]
   split
   ·congr 1;omega
   ·rw[Aes Aa]
 ·omega
end
end Go.Rd
end
section
namespace Go.Rd
open Go.Sort Go.Shelf Go.Lib Go.Proofs
theorem A2p:SWO (ltOf Afj) where
 irrefl x:=by unfold ltOf;simp[Afj]
 trans x y z h1 h2:=by
  unfold ltOf at *;simp only[Ij,Ey] at *;omega
 ntrans x y z h1 h2:=by
  unfold ltOf at *;simp only[Hs,Ey] at *;omega
theorem Awb (x y:Edg) (a:ltOf Afj x y=Az) (b:ltOf Afj y x=Az):x=y:=by
 unfold ltOf at *;simp only[Hs,Ey] at *
 cases x;cases y
 simp only[Edg.mk.injEq] at *;omega
end Go.Rd
end
section
namespace Go.Proofs.YtaimbkndebaaiaaGreatDoor
open Go.Rd
open TLib TLibR TLibA TSay TNum0 TNum TLoop TPar TStable TMach TMach2 TKern TClone TNbr TSeq TKRun TKeep TOrd
namespace TCpt
theorem Ac9:Sg Tryz.prog 87 4:=⟨_,Tryz.underlying87,rfl,Ag⟩
theorem eq87:EqT Tryz.prog 87 4:=⟨Ag,⟨_,Tryz.underlying87⟩,Ag,Ag⟩
theorem Abo:Je Tryz.prog 53 87 4:=⟨Tryz.underlying53,Ag⟩
theorem Ala:Dt Tryz.prog 87 4:=by unfold Dt;kernel_rfl
theorem Aqr:ZeroT Tryz.prog 87 [.int .i64 0,.int .i64 0,.int .i64 0,.int .i64 0]:=by unfold ZeroT;kernel_rfl
end TCpt
open TCpt
theorem Nk {j:Al}{s r:List Edg}{y:Ak} (t:C7 s=some r) (J:SliceLen j s.length) (M:Nat→Prop) (w:Ak) (o:Base M y w) (e2:Own M w [vec j 87 4 (List.map Edg.cells s)] w):Calls Tryz.prog 33 #[j] w (fun e w'=>∃ X:Al×Ak,e=.returned (X.1)∧Own M w (kn M w.heap.size y X.2::[]) w'∧Arr X.2 X.1 4 (r.map Edg.cells)):=by
 unfold C7 at t;refine cw 61 Tryz.func33 Z (sr (wa Z (nt (Au (sr (wm Z (wq Z (A5 Tryz.underlying53 Z Z J) (wq Z (QV.lss Z Z Z Z) (nt ?_))))))))) (Av o e2);refine wc Z t (fun a7 c0=>?_) (fun a7 N=>?_)
 ·skip
  refine sr (wm Z (wa Z (nt (A9 (tr ?_)))));obtain rfl:=(Ad c0).symm;refine Gk o (fun e4 f0 e0=>have b3:=Cj e0;Aw Z Z (fun w l=>?_));exact⟨(j,e4),Z,l.pick [0] Ah,b3⟩
 refine sk (Aj (Au (sr (wa Z (nt ?_)))));obtain⟨a1,Q,e8,d8⟩:=bl N;refine B6 (dt [0] [0] Z) (fun (a:List Edg) (b:Int)=>[(3,(true,i_ b))]) (fun a b=>[vec j 87 4 (List.map Edg.cells a)]) (fun a b m=>Cp (Bx) m (a,b)=some a1∧SliceLen j a.length) (fun a b=>a1=.go (a,b)∧SliceLen j a.length) s 1 e8 ⟨d8,J⟩ (sb Z) (pk [1,0]) ?_ ?_
 ·skip
  rintro a b ⟨rfl,n⟩;refine Aj (sr (wm Z (wa Z (nt (A9 ?_)))));obtain rfl:=(Ad Q).symm;refine kp [1,0] Z (Gk o (fun e3 e9 d9=>have b2:=Cj d9;Aw Z Z (fun w l=>?_)));exact⟨(j,e3),Z,l.pick [0] Ah,b2⟩
 rintro a b f2 ⟨H,n⟩;obtain⟨e6,g0,rfl,p,v⟩:=A0 H;unfold Bx at p;simp only at p;refine Au (sr (wm Z (wm Z (wq Z (A5 Tryz.underlying53 Z Z n) (wq Z (QV.lss Z Z Z Z) (nt ?_))))));refine wc Z p (fun a8 b9=>?_) (fun a8 d6=>?_)
 ·skip
  refine sk (Aj (Au (Cq (Au (dp 10 [1,0] Z (zm 0 Z Z (zm 1 Z Z (have ⟨z,c1⟩:=cs b9;have ⟨f4,R⟩:=n.ix (sz:=4) Ao z;wz 2 Z Z (Ae Abo Z Z Z Z R) (wz 3 Z Z (Af Ac9 Z Z Z (el (Cz 1 Z) R z)) (zm 4 Z Z (zm 5 Z Z (have ⟨a2,A,K⟩:=cs2 c1;wz 6 Z Z (D2 Z Z Z Z a2) (have ⟨f5,S⟩:=n.ix (sz:=4) Ao A;wz 7 Z Z (Ae Abo Z Z Z Z S) (wz 8 Z Z (Af Ac9 Z Z Z (el (Cz 1 Z) S A)) (wz 9 Z Z (To eq87 (ns:=[(ele a b).fr,(ele a b).tO,(ele a b).bk,(ele a b).wt]) (ms:=[(ele a (b - 1)).fr,(ele a (b - 1)).tO,(ele a (b - 1)).bk,(ele a (b - 1)).wt]) Z Z Z Z Z Z) (Eh Ag (Aj ?_)))))))))))))))));refine wc Z K (fun a9 c2=>?_) (fun a9 d4=>?_)
  ·skip
   refine sr (wm Z (wm Z (have ⟨a3,L⟩:=cs c2;wq Z (Ow Abo Z Z n Z Z a3) (wa Z (nt (Au (sr (wa Z (nt ?_)))))))));obtain⟨a0,c3,e7,d7⟩:=bl L;refine F2 (dt [0,4] [1] Z) (fun (f:List Edg) (i:Int) (g:Int)=>[(3,(true,i_ i)),(5,(true,i_ g))]) (fun f i g=>[vec j 87 4 (List.map Edg.cells f)]) (fun f i g m=>Cp (Bw a b) m (f,i,g)=some a0∧SliceLen j f.length) (fun f i g=>a0=.go (f,i,g)∧SliceLen j f.length) a b 1 e7 ⟨d7,n⟩ (sb Z) (pk [0,1]) ?_ ?_
   ·skip
    rintro f i g ⟨rfl,k⟩;refine Aj (sr (wm Z (wm Z (have ⟨q,B,c4⟩:=cs2 c3;wq Z (Ow Abo Z Z k Z Z q) (Ab Z ((EV.clear (enc:=Edg.cells) (d:=none) (dd:=0) 0 (Edg.mk 0 0 0 0) Abo Aqr Aem Ah (fun c b6=>Atc [_] _ (G7.2 Z) c b6) Z Z Z q Z (.inr Z) ?_ (fun _ h=>(by cases h)))))))));have b7:SliceLen j (clr f i (Edg.mk 0 0 0 0)).length:=(Anh q.2.1).symm▸k;refine ns (wm Z (wm Z (wq Z (Ox Abo Z Z b7 Z Z B) (wa Z (nt (A9 (kr (tr (tr (kr (tr (tr ?_))))))))))));obtain rfl:=Dr c4 v;obtain rfl:=(Ad Q).symm;refine kp [1,0] Z (Gk o (fun e5 f1 e1=>have b4:=Cj e1;have b5:=Ip b4 B;Aw Z Z (fun w l=>?_)));exact⟨((Np j 4 (Int.toNat 0) (Int.toNat i)),e5),Z,l.pick [0] Ah,b5⟩
   rintro f i g f3 ⟨I,k⟩;obtain⟨Y,g1,rfl,u,x⟩:=A0 I;unfold Bw at u;simp only at u;refine Au (sr (wm Z (wm Z (have ⟨c51,O⟩:=cs u;wq Z (A5 Tryz.underlying53 Z Z (U8 (sz:=4) k c51)) (wq Z (QV.lss Z Z Z Z) (nt ?_))))));refine wc Z O (fun b0 c5=>?_) (fun b0 d3=>?_)
   ·skip
    refine sk (Aj (Au (Cq (Au (dp 10 [1,0] Z (zm 0 Z Z (zm 1 Z Z (have ⟨C,c6⟩:=cs c5;have ⟨f6,T⟩:=(U8 (sz:=4) k c51).ix (sz:=4) Ao C;wz 2 Z Z (Ae Abo Z Z Z Z T) (wz 3 Z Z (Af Ac9 Z Z Z (el (fun w l=>Ip ((Cz 1 Z) w l) c51) T C)) (zm 4 Z Z (zm 5 Z Z (have ⟨a4,E,P⟩:=cs2 c6;wz 6 Z Z (D2 Z Z Z Z a4) (have ⟨f7,U⟩:=(U8 (sz:=4) k c51).ix (sz:=4) Ao E;wz 7 Z Z (Ae Abo Z Z Z Z U) (wz 8 Z Z (Af Ac9 Z Z Z (el (fun w l=>Ip ((Cz 1 Z) w l) c51) U E)) (wz 9 Z Z (Auz eq87 (ns:=[(ele (sub f b (ln a)) g).fr,(ele (sub f b (ln a)) g).tO,(ele (sub f b (ln a)) g).bk,(ele (sub f b (ln a)) g).wt]) (ms:=[(ele (sub f b (ln a)) (g - 1)).fr,(ele (sub f b (ln a)) (g - 1)).tO,(ele (sub f b (ln a)) (g - 1)).bk,(ele (sub f b (ln a)) (g - 1)).wt]) Z Z Z Z Z Z) (Eh Ag (Aj ?_)))))))))))))))));refine wc Z P (fun b1 c7=>?_) (fun b1 d1=>?_)
    ·skip
     refine sr (wm Z (wm Z (wm Z (wm Z (have ⟨F,c8⟩:=cs c7;have ⟨f8,V⟩:=(U8 (sz:=4) k c51).ix (sz:=4) Ao F;wq Z (Ae Abo Z Z Z Z V) (wq Z (Af Ac9 Z Z Z (el (fun w l=>Ip ((Cz 0 Z) w l) c51) V F)) (have ⟨G,c9⟩:=cs c8;have ⟨f9,W⟩:=k.ix (sz:=4) Ao G;wq Z (Ae Abo Z Z Z Z W) (Ab Z ((Axh (enc:=Edg.cells) (off:=0) (vs:=(Edg.cells (ele (sub f b (ln a)) g))) 0 (ele (sub f b (ln a)) g) rfl rfl rfl rfl rfl W G (by first | rfl | exact M1 _) (show Ea _=List.toArray _ from rfl) Ala (nl rfl) (oz rfl) rfl ?_))))))))));have b8:SliceLen j (upd f i (ele (sub f b (ln a)) g)).length:=Iq k;refine nr (wm Z (have ⟨c76,a5,d0⟩:=cs2 c9;wq Z (A6 Z Z Z Z c76) (wa Z (Bk (Ba (Aj (Bn (wm Z (wq Z (A6 Z Z Z Z a5) (wa Z (Bk ?_)))))))))));exact Ek (upd f i (ele (sub f b (ln a)) g)) (i+1) (g+1) Y ⟨A3 d0 x,b8⟩ (Cc _) (sb Z) (pk [0,1])
    refine sk (Ba (Aj (Bn (wm Z (have ⟨a6,d2⟩:=cs d1;wq Z (A6 Z Z Z Z a6) (wa Z (Bk ?_)))))));exact Ek f i (g+1) Y ⟨A3 d2 x,k⟩ (Cc _) (sb Z) (pk [0,1])
   refine Cw (te (te (Am ?_)));exact Jj f i g ⟨Bh d3 x,k⟩ (sb Z) (pk [0,1])
  refine sk (Ba (Aj (Bn (wm Z (have ⟨c85,d5⟩:=cs d4;wq Z (A6 Z Z Z Z c85) (wa Z (Bk ?_)))))));exact Bs a (b+1) e6 ⟨A3 d5 v,n⟩ (Cc _) (sb Z) (pk [0,1])
 refine Cw (te (te (Am ?_)));exact Cm a b ⟨Bh d6 v,n⟩ (sb Z) (pk [0,1])
def A2k:Go.Shelf.Ren:=⟨fun n=>match n with | 6=>31 | 14=>60 | 15=>61 | 20=>98 | 21=>99 | 22=>100 | 23=>101 | 24=>102 | 25=>103 | 26=>104 | 27=>105 | 28=>106 | 29=>107 | 46=>146 | 47=>147 | 48=>148 | 49=>149 | 50=>150 | 57=>172 | n=>n,fun n=>match n with | 22=>53 | 24=>87 | 25=>91 | 39=>131 | 45=>184 | 46=>185 | 50=>35 | 53=>191 | 55=>193 | 66=>229 | 70=>176 | 76=>259 | 77=>260 | n=>n,fun n=>match n with  | n=>n⟩
theorem A4f:Go.Proofs.SlLaysF0.n6 Tryz.prog A2k where
  mixed:=Ag
  f6:=⟨Tryz.f31.name,Ag,Tryz.func31.trans (congrArg some Ag)⟩
  f14:=⟨Tryz.f60.name,Ag,Tryz.func60.trans (congrArg some Ag)⟩
  f15:=Tryz.func61.trans (congrArg some Ag)
  f20:=⟨Tryz.f98.name,Ag,Tryz.func98.trans (congrArg some Ag)⟩
  f21:=⟨Tryz.f99.name,Ag,Tryz.func99.trans (congrArg some Ag)⟩
  f22:=⟨Tryz.f100.name,Ag,Tryz.func100.trans (congrArg some Ag)⟩
  f23:=⟨Tryz.f101.name,Ag,Tryz.func101.trans (congrArg some Ag)⟩
  f24:=⟨Tryz.f102.name,Ag,Tryz.func102.trans (congrArg some Ag)⟩
  f25:=⟨Tryz.f103.name,Ag,Tryz.func103.trans (congrArg some Ag)⟩
  f26:=⟨Tryz.f104.name,Ag,Tryz.func104.trans (congrArg some Ag)⟩
  f27:=⟨Tryz.f105.name,Ag,Tryz.func105.trans (congrArg some Ag)⟩
  f28:=Tryz.func106.trans (congrArg some Ag)
  f29:=Tryz.func107.trans (congrArg some Ag)
  f46:=⟨Tryz.f146.name,Ag,Tryz.func146.trans (congrArg some Ag)⟩
  f47:=Tryz.func147.trans (congrArg some Ag)
  f48:=Tryz.func148.trans (congrArg some Ag)
  f49:=⟨Tryz.f149.name,Ag,Tryz.func149.trans (congrArg some Ag)⟩
  f50:=⟨Tryz.f150.name,Ag,Tryz.func150.trans (congrArg some Ag)⟩
  f57:=⟨Tryz.f172.name,Ag,Tryz.func172.trans (congrArg some Ag)⟩
  t0:=Tryz.underlying0
  a0:=Tryz.isAgg0
  z0:=Tryz.sizeOf0
  v0:=Tryz.zeroValue0
  t3:=Tryz.underlying3
  a3:=Tryz.isAgg3
  z3:=Tryz.sizeOf3
  v3:=Tryz.zeroValue3
  t4:=Tryz.underlying4
  a4:=Tryz.isAgg4
  z4:=Tryz.sizeOf4
  v4:=Tryz.zeroValue4
  t5:=Tryz.underlying5
  a5:=Tryz.isAgg5
  z5:=Tryz.sizeOf5
  v5:=Tryz.zeroValue5
  t9:=Tryz.underlying9
  a9:=Tryz.isAgg9
  z9:=Tryz.sizeOf9
  v9:=Tryz.zeroValue9
  t22:=Tryz.underlying53
  a22:=Tryz.isAgg53
  z22:=Tryz.sizeOf53
  v22:=Tryz.zeroValue53
  t25:=Tryz.underlying91
  a25:=Tryz.isAgg91
  z25:=Tryz.sizeOf91
  v25:=Tryz.zeroValue91
  t39:=Tryz.underlying131
  a39:=Tryz.isAgg131
  z39:=Tryz.sizeOf131
  v39:=Tryz.zeroValue131
  t45:=Tryz.underlying184
  a45:=Tryz.isAgg184
  z45:=Tryz.sizeOf184
  v45:=Tryz.zeroValue184
  t46:=Tryz.underlying185
  a46:=Tryz.isAgg185
  z46:=Tryz.sizeOf185
  v46:=Tryz.zeroValue185
  t50:=Tryz.underlying35
  a50:=Tryz.isAgg35
  z50:=Tryz.sizeOf35
  v50:=Tryz.zeroValue35
  t53:=Tryz.underlying191
  a53:=Tryz.isAgg191
  z53:=Tryz.sizeOf191
  v53:=Tryz.zeroValue191
  t55:=Tryz.underlying193
  a55:=Tryz.isAgg193
  z55:=Tryz.sizeOf193
  v55:=Tryz.zeroValue193
  t66:=Tryz.underlying229
  a66:=Tryz.isAgg229
  z66:=Tryz.sizeOf229
  v66:=Tryz.zeroValue229
  t70:=Tryz.underlying176
  a70:=Tryz.isAgg176
  z70:=Tryz.sizeOf176
  v70:=Tryz.zeroValue176
  t76:=Tryz.underlying259
  a76:=Tryz.isAgg259
  z76:=Tryz.sizeOf259
  v76:=Tryz.zeroValue259
  t77:=Tryz.underlying260
  a77:=Tryz.isAgg260
  z77:=Tryz.sizeOf260
  v77:=Tryz.zeroValue260
theorem Avx:Agi []=[]:=by simp[Agi]
theorem As6 {f:Al}{x r:List Edg}{i:Ak} (E:Abe x=some r) (y:SliceLen f x.length) (M:Nat→Prop) (w:Ak) (o:Base M i w) (k:Own M w [vec f 87 4 (List.map Edg.cells x)] w):Calls Tryz.prog 31 #[f,.func (.func 32) #[] #[]] w (fun e w'=>∃ X:Ak,e=.returned (.tuple #[])∧Own M w (kn M w.heap.size i X::[vec f 87 4 (List.map Edg.cells r)]) w'∧SliceLen f (r).length):=by
  obtain⟨C,s⟩:=Qw E;obtain rfl:=Ad s;have p:(Agi x).length=x.length:=List.length_mergeSort ..;obtain⟨a,c,rfl,j,n⟩:=y;by_cases l:x=[]
  · subst l
    refine(Go.Proofs.AnyF.slices_SortFunc_none { A4f with } a c (.func (.func 32) #[] #[]) w).mono ?_;rintro e w' ⟨rfl,rfl⟩;rw[Avx];exact⟨i,rfl,Av o k,⟨a,c,rfl,j,n⟩⟩
  · obtain⟨q,rfl⟩:=Aha.1 (j (by cases x with | nil=>exact absurd rfl l | cons _ _=>simp))
    have d:=k.head
    have F:∃ b,q=⟨b,0,none⟩:=by
      rcases d.1.2 with ⟨h,_⟩ | ⟨g,cap,G,d,_⟩
      · cases h
      · simp only[Jh,Gs] at d;exact⟨g,d.1⟩
    obtain⟨b,rfl⟩:=F;obtain⟨t,_,z⟩:=Aic Aem Ah d;refine(Go.Proofs.AnyQ.slices_SortFunc_total A4f 4 Tryz.isAgg87 Tryz.sizeOf87 Edg.cells Aem (fun u v d=>Atc [u] u (G7.2 rfl) v d) Afj A2p 32 #[] b 0 c x.toArray w (enters_of Tryz.func32 Ag rfl) ?_ t z (by simpa using C) Awb).mono ?_
    · intro m os H I u v
      exact(Aqi _ (A2o u v)).mono fun e w' ⟨A,B⟩=>⟨A,A29 B⟩
    · rintro e w' ⟨rfl,m,os,rfl⟩
      exact⟨i,rfl,As9 o Aem Ah k p m os,by rw[p];exact⟨_,c,rfl,j,n⟩⟩
end Go.Proofs.YtaimbkndebaaiaaGreatDoor
end
section
namespace Go.Proofs.YtaimbkndebaaiaaGreatDoor
open Go.Rd
open TLib TLibR TLibA TSay TNum0 TNum TLoop TPar TStable TMach TMach2 TKern TClone TNbr TSeq TKRun TKeep TOrd TCpt
namespace TDep
theorem Axp:Go.Rd.Enters Tryz.prog 29:=eT Tryz.func29
theorem en30:Go.Rd.Enters Tryz.prog 30:=eT Tryz.func30
theorem en31:Go.Rd.Enters Tryz.prog 31:=eT Tryz.func31
theorem en33:Go.Rd.Enters Tryz.prog 33:=eT Tryz.func33
theorem en58:Go.Rd.Enters Tryz.prog 58:=eT Tryz.func58
theorem en59:Go.Rd.Enters Tryz.prog 59:=eT Tryz.func59
theorem A4d:Nx Tryz.prog 53 87 4 [.int .i64 0,.int .i64 0,.int .i64 0,.int .i64 0]:=⟨Tryz.underlying53,Ag⟩
theorem ve53:Xj Tryz.prog 53 87 4 32:=⟨Tryz.underlying53,Ag,Ah⟩
end TDep
open TDep
theorem As2 {a b:Stm}{back size:Int}{r:Bool} (w:Ak) (d:Qo a b back size=some r) :Calls Tryz.prog 59 #[.agg #[.int .i64 a.op,.int .i64 a.a.st,.int .i64 a.a.bk,.int .i64 a.b.st,.int .i64 a.b.bk,.int .i64 a.ar,.int .i64 a.sp,.int .i64 a.pl,.int .i64 a.n],.agg #[.int .i64 b.op,.int .i64 b.a.st,.int .i64 b.a.bk,.int .i64 b.b.st,.int .i64 b.b.bk,.int .i64 b.ar,.int .i64 b.sp,.int .i64 b.pl,.int .i64 b.n],.int .i64 back,.int .i64 size] w (fun e w'=>e=.returned (.bool r)∧Grow w w'):=by
 unfold Qo at d;refine have z:=D0 (w:=w);cw 36 Tryz.func59 Z (sr (Ab Z ((A4 Ah Z Z (fun b1=>Ab Z ((A4 Ah Z Z (fun b2=>wa Z (nt (Au (sr (wm Z (wm Z (nt ?_)))))))))))))) (Av z (D3 w));obtain⟨l,k,n6,G⟩:=bl d;refine D6 (dt [2,3,4,5,10] [0,1,2] Z) (fun (c:Int)=>[(11,(true,i_ c))]) (fun c=>[]) (fun c m=>Cp (Jp a b back size) m c=some l) (fun c=>l=.go c) 0 n6 G (sb Z) (pk [0,1,2]) ?_ ?_
 ·skip
  rintro c rfl;refine Aj (sr (wa Z (nt (A9 ?_))));obtain rfl:=(Ad k).symm;exact Aw Z Z fun w h=>kg h
 rintro c I i;obtain⟨H,J,rfl,f,g⟩:=A0 i;unfold Jp at f;refine sr (wq Z (QV.lss Z Z Z Z) (nt (Au ?_)));refine wc Z f (fun x A=>?_) (fun x F=>?_)
 ·skip
  refine sk (Aj (Au (Cq (sr (wm Z (wa Z (ns (wf Ye Z (wl pl3 Z (Aq 1 Z Z) (wm Z (have ⟨o,p,c20,q,s,t,u,j⟩:=cs7 A;wq Z (QV.mul Z Z Z Z o) (wf Yd Z (wl pl3 Z (Aq 1 Z Z) (wq Z (A6 Z Z Z Z p) (wf Ye Z (wl pl3 Z (Aq 0 Z Z) (wm Z (wm Z (wq Z (A6 Z Z Z Z c20) (wq Z (QV.mul Z Z Z Z q) (wq Z (D2 Z Z Z Z s) (wf Yd Z (wl pl3 Z (Aq 0 Z Z) (wq Z (D2 Z Z Z Z t) (wm Z (wq Z (D2 Z Z Z Z u) (wq Z (Af5 Z Z Z Z) (wq Z (QV.eql Z Z Z Z) (nt ?_)))))))))))))))))))))))))))));refine wc Z j (fun y B=>?_) (fun y C=>?_)
  ·skip
   refine sr (wa Z (nt (A9 (kr (tr (tr (kr (tr (tr ?_)))))))));obtain rfl:=Dr B g;obtain rfl:=(Ad k).symm;exact Aw Z Z fun w h=>kg h
  refine sk (Ba (Aj (Bn (have ⟨v,E⟩:=cs C;wq Z (A6 Z Z Z Z v) (wm Z (Bk ?_))))));exact D5 (c+1) H (A3 E g) (Cc _) (sb Z) (pk [0,1,2])
 refine Cw (te (te (Am ?_)));exact Eo c (Bh F g) (sb Z) (pk [0,1,2])
theorem Afc {s:Stm}{r:Bool} (w:Ak) (d:Q8 s=some r) :Calls Tryz.prog 58 #[.agg #[.int .i64 s.op,.int .i64 s.a.st,.int .i64 s.a.bk,.int .i64 s.b.st,.int .i64 s.b.bk,.int .i64 s.ar,.int .i64 s.sp,.int .i64 s.pl,.int .i64 s.n]] w (fun e w'=>e=.returned (.bool r)∧Grow w w'):=by
 unfold Q8 at d;refine have f:=D0 (w:=w);cw 11 Tryz.func58 Z (sr (Ab Z ((A4 Ah Z Z (fun b1=>wa Z (ns (wf Jd Z (wl pl3 Z (Aq 0 Z Z) (wq Z (QV.eql Z Z Z Z) (wm Z (gN Z (QV.fieldAddr Jd Z Z) (gn Z (fun c=>Cs pl3 Z c (Aq 0 Z Z)) (gn Z (fun c=>QV.eql Z c Z Z) (wq Z (Bc Z Z Z (fun h=>Fm h)) (wa Z (nt (A9 ?_))))))))))))))))) (Av f (D3 w));obtain rfl:=(Ad d).symm;exact Aw Z Z fun w g=>kg g
theorem Anw {x v y:Al}{l:Lp}{c tO:Int}{r:Edg×Bool} (w:Ak) (C:Py l c tO=some r) (B:Arr w x 1 (l.logs.map Ar)) (k:Arr w v 9 (l.body.map Stm.cells)) (c2:Arr w y 1 (l.outs.map Ar)):Calls Tryz.prog 30 #[.agg #[x,v,y],.int .i64 c,.int .i64 tO] w (fun e w'=>e=.returned (.tuple #[.agg #[.int .i64 r.1.fr,.int .i64 r.1.tO,.int .i64 r.1.bk,.int .i64 r.1.wt],.bool r.2])∧Grow w w'):=by
 unfold Py at C;refine have p:=D0 (w:=w);cw 80 Tryz.func30 Z (sr (Ab Z ((A4 Ah Z Z (fun b1=>Ab Z ((B9 Ah Aqr (fun b2=>wa Z (nt (Au (dp 14 [2,0,1] Z (Yk 0 Ag (zq 0 0 1 Z (QV.fieldAddr Ds Z Z) (zq 1 1 3 Z (Cs J3 Z Z (Aq 2 Z Z)) (zq 2 3 7 Z (QV.move Z Z) (have ⟨c3,a3⟩:=cs C;have ⟨c6,Q⟩:=k.lenMap.ix (sz:=9) Ao c3;zq 3 7 15 Z (Ae Xk Z Z Z Z Q) (zq 4 15 31 Z (Af Oj Z Z Z (el (Ai 0 Z p k) Q c3)) (zq 5 31 63 Z (QV.fieldAddr Ds Z Z) (zq 6 63 127 Z (Cs J3 Z Z (Aq 2 Z Z)) (zq 7 127 255 Z (QV.move Z Z) (have ⟨c7,N⟩:=cs a3;have ⟨c8,O⟩:=k.lenMap.ix (sz:=9) Ao c7;zq 8 255 511 Z (Ae Xk Z Z Z Z O) (zq 9 511 1023 Z (Af Oj Z Z Z (el (Ai 0 Z p k) O c7)) ?_)))))))))))))))))))))) (Av p (D3 w));refine Aux (fun (i:Nat) (j:Nat)=>[(1,(true,i_ c)),(2,(true,i_ tO)),(3,(true,.pointer (some (⟨b1,0,none⟩)))),(6,(true,.pointer (some (⟨b2,0,none⟩)))),(8,(true,.pointer (some (⟨i,0,none⟩)))),(9,(true,.pointer (some (⟨j,0,none⟩))))]) (fun (i:Nat) (j:Nat)=>Own noM w [blk j (Stm.cells (ele l.body tO)) 82,blk i (Stm.cells (ele l.body c)) 82,blk b2 [i_ 0,i_ 0,i_ 0,i_ 0] 87,blk b1 [x,v,y] 47,kn noM w.heap.size w w]) ?_ ?_
 ·skip
  rintro i j;refine Aj (Au (sr (wq Z (Af Oj Z Z Z (Ac 1 Z)) ?_)));obtain⟨d0,b5,E⟩:=An N;refine wq Z (QV.call en58 (ea Z) (fun w d=>have h:=Afc w b5 ;h)) ?_;refine wq Z (QV.not Z Z) (wm Z (gN Z (Af Oj Z Z Z (Ac 0 Z)) ?_));obtain⟨d1,b6,F⟩:=Dg E;refine gn Z (fun a=>QV.call en58 (De Z a eN) (fun w d=>have h:=Afc w (b6 a) ;h)) ?_;refine gn Z (fun a=>QV.not Z a) (wq Z (Bc Z Z Z (fun h=>Fm h)) (wm Z (gN Z (QV.fieldAddr Ss Z Z) (gn Z (fun a=>Cs pl3 Z a (Aq 1 Z Z)) (gN Z (QV.fieldAddr Ss Z Z) (gn Z (fun a=>Cs pl3 Z a (Aq 0 Z Z)) (gn Z (fun a=>QV.neq Z a Z a) (wq Z (Bc Z Z Z (fun h=>Fm h)) (wm Z (gN Z (QV.fieldAddr Jd Z Z) (gn Z (fun a=>Cs pl3 Z a (Aq 1 Z Z)) (gn Z (fun a=>QV.eql Z a Z Z) (gn Z (fun a=>QV.move Z a) (gpC Z (fun a=>QV.fieldAddr Jd Z Z) (gpC Z (fun a=>Cs pl3 Z a (Aq 0 Z Z)) (gpC Z (fun a=>QV.eql Z a Z Z) (gn Z (fun a=>A7 Z a Z (fun h=>Avh a h)) (wq Z (Bc Z Z Z (fun h=>Fm h)) (nt ?_)))))))))))))))))));refine wc Z F (fun X a1=>?_) (fun X G=>?_)
  ·skip
   refine sr (wq Z (QV.build (ps:=[]) (cells:=[i_ 0,i_ 0,i_ 0,i_ 0]) eN Ag) (Ab Z ((ew 2 [i_ 0,i_ 0,i_ 0,i_ 0] Ala Z (wa Z (nt (A9 (tr ?_))))))));obtain rfl:=(Ad a1).symm;exact Dq Z Ac9 Z Z Z (Ac 2 Z) fun w d=>kg d
  refine sk (Aj (sr (wa Z (wa Z (nt (Au (sr (wm Z (wm Z (wq Z (QV.geq Z Z Z Z) (nt ?_)))))))))));obtain⟨c0,n,H⟩:=An G;refine Aef (dt [1,2,3,6,8,9,11] [0,1,2,3,4] Z) (fun (g:Int)=>[(10,(true,i_ g))]) (fun g=>[]) (fun g=>c0=.go g) (sb Z) (pk [0,1,2,3,4]) ?_ ?_
  ·skip
   rintro g rfl;refine Au (sr (wf Jd Z (wl pl3 Z (Aq 1 Z Z) (wq Z (QV.eql Z Z Z Z) (nt ?_)))));obtain⟨c1,o,I⟩:=An H;refine Aef (dt [1,2,3,6,8,9,10] [0,1,2,3,4] Z) (fun (f:Int)=>[(11,(true,i_ f))]) (fun f=>[]) (fun f=>c1=.go f) (sb Z) (pk [0,1,2,3,4]) ?_ ?_
   ·skip
    rintro f rfl;refine sr (wf Pm Z (wl Fl Z (Aq 3 Z Z) (wf Ss Z (wl pl3 Z (Aq 1 Z Z) ?_))));obtain⟨z,a2⟩:=cs I;obtain⟨c5,P⟩:=B.lenMap.ix (sz:=1) Ao z;refine wq Z (Ae Fs Z Z Z Z P) (wl pl3 Z (cl 0 (Ai 4 Z p B) P z Z) (have ⟨W,J⟩:=cs a2;wq Z (QV.shlD Z Z Z Z W) (wa Z (nt (Au (sr (wm Z (wa Z (nt ?_)))))))));obtain⟨R,K,b9,b4⟩:=bl J;refine D6 (dt [1,2,6,8,9,11,12] [0,1,2,3,4] Z) (fun (b:Int)=>[(13,(true,i_ b))]) (fun b=>[]) (fun b m=>Cp (G3 l c tO f) m b=some R) (fun b=>R=.go b) g b9 b4 (sb Z) (pk [0,1,2,3,4]) ?_ ?_
    ·skip
     rintro b rfl;refine Aj (sr (wq Z (QV.build (ps:=[]) (cells:=[i_ 0,i_ 0,i_ 0,i_ 0]) eN Ag) (Ab Z ((ew 2 [i_ 0,i_ 0,i_ 0,i_ 0] Ala Z (wa Z (nt (A9 ?_))))))));obtain rfl:=(Ad K).symm;exact Dq Z Ac9 Z Z Z (Ac 2 Z) fun w d=>kg d
    rintro b c4 A;obtain⟨b8,c9,rfl,t,u⟩:=A0 A;unfold G3 at t;refine Au (sr (wm Z (wm Z (wq Z (QV.leq Z Z Z Z) (nt ?_)))));refine wc Z t (fun Y L=>?_) (fun Y a7=>?_)
    ·skip
     refine sk (Aj (Au (Cq (sr (wq Z (Af Oj Z Z Z (Ac 1 Z)) (wq Z (Af Oj Z Z Z (Ac 0 Z)) (wm Z (wm Z ?_))))))));obtain⟨d2,b7,M⟩:=An L;refine wq Z (QV.call en59 (ea Z) (fun w d=>have h:=As2 w b7 ;h)) ?_;refine nt ?_;refine wc Z M (fun a0 a4=>?_) (fun a0 a5=>?_)
     ·skip
      refine sr (wm Z (wm Z (wm Z (wm Z (wq Z (QV.build (ps:=[(0,.tmp 74),(1,.tmp 75),(2,.tmp 76),(3,.tmp 77)]) (cells:=[i_ c,i_ tO,i_ b,i_ f]) (ea Z) Ag) (Ab Z ((ew 2 [i_ c,i_ tO,i_ b,i_ f] Ala Z (wa Z (nt (A9 (kr (tr (tr (kr (tr (tr ?_)))))))))))))))));obtain rfl:=Dr a4 u;obtain rfl:=(Ad K).symm;exact Dq Z Ac9 Z Z Z (Ac 2 Z) fun w d=>kg d
     refine sk (Ba (Aj (Bn (wm Z (have ⟨c53,a6⟩:=cs a5;wq Z (A6 Z Z Z Z c53) (wa Z (Bk ?_)))))));exact D5 (b+1) b8 (A3 a6 u) (Cc _) (sb Z) (pk [0,1,2,3,4])
    refine Cw (te (te (Am ?_)));exact Eo b (Bh a7 u) (sb Z) (pk [0,1,2,3,4])
   refine Abm Z (fun q=>?_) (fun q=>?_)
   ·skip
    have a8:=Aga q o;clear o;refine Bn (wa Z (Bk ?_));exact Eo 1 (Ad a8) (sb Z) (pk [0,1,2,3,4])
   have a9:=Agb q o;clear o;refine sk ?_;exact Eo 0 (Ad a9) (sb Z) (pk [0,1,2,3,4])
  refine Abm Z (fun s=>?_) (fun s=>?_)
  ·skip
   have b0:=Aga s n;clear n;refine Bn (wa Z (Bk ?_));exact Eo 1 (Ad b0) (sb Z) (pk [0,1,2,3,4])
  have b3:=Agb s n;clear n;refine sk ?_;exact Eo 0 (Ad b3) (sb Z) (pk [0,1,2,3,4])
 refine WD.two 10 11 1023 2047 3071 Ag Z Z Z Z Ag Ag ?_ ?_
 ·skip
  refine(B9 Ah Tv (fun S=>bp [3,1,2] Z sm (Hz 11 2047 4095 Z Ag Z ((B9 Ah Tv (fun T=>bp [4,2,3] Z sm (Hz 12 4095 8191 Z Ag Z ((ew 1 (Stm.cells (ele l.body c)) Tw Z (bp [4,2,3] Z sm (Hz 13 8191 16383 Z Ag Z ((ew 0 (Stm.cells (ele l.body tO)) Tw Z (bp [4,2,3] Z sm (Up Ag ?_)))))))))))))));exact Ws S T (sb Z) (pk [0,1,2,3,4])
 refine(B9 Ah Tv (fun U=>bp [3,1,2] Z sm (Hz 10 3071 4095 Z Ag Z ((B9 Ah Tv (fun V=>bp [4,2,3] Z sm (Hz 12 4095 8191 Z Ag Z ((ew 0 (Stm.cells (ele l.body c)) Tw Z (bp [4,2,3] Z sm (Hz 13 8191 16383 Z Ag Z ((ew 1 (Stm.cells (ele l.body tO)) Tw Z (bp [4,2,3] Z sm (Up Ag ?_)))))))))))))));exact Ws V U (sb Z) (pk [1,0,2,3,4])
theorem Pd {c7 c6 c8:Al}{l:Lp}{t:Tgt}{r:List Edg×Int}{s:Ak} (K:Fi l t=some r) (W:Arr s c7 1 (l.logs.map Ar)) (v:Arr s c6 9 (l.body.map Stm.cells)) (Y:Arr s c8 1 (l.outs.map Ar)) (M:Nat→Prop) (w:Ak) (i:Base M s w) (f7:Own M w [] w):Calls Tryz.prog 16 #[.agg #[c7,c6,c8],.agg #[.int .i64 t.u0,.int .i64 t.u1,.int .i64 t.u2,.int .i64 t.w0,.int .i64 t.w1,.int .i64 t.w2,.int .i64 t.regs]] w (fun e w'=>∃ X:Al×Ak,e=.returned (.tuple #[X.1,.int .i64 r.2])∧Own M w (kn M w.heap.size s X.2::[]) w'∧Arr X.2 X.1 4 (r.1.map Edg.cells)):=by
 unfold Fi at K;refine cw 80 Tryz.func16 Z (sr (Ab Z ((A4 Ah Z Z (fun b1=>Ab Z ((A4 Ah Z Z (fun b2=>wa Z (wa Z (nt (Au (sr (wq Z (Af Fc Z Z Z (Ac 1 Z)) ?_))))))))))))) (Av i f7);obtain⟨j1,g0,a7⟩:=An K;refine wq Z (QV.call Ave (ea Z) (fun w d=>have h:=Qm w g0 ((Ai 2 Z i W) w d) ((Ai 2 Z i v) w d) ((Ai 2 Z i Y) w d);h)) ?_;refine wq Z (QV.not Z Z) (wm Z (gN Z (Af Gn Z Z Z (Ac 0 Z)) ?_));obtain⟨j2,g3,b0⟩:=Dg a7;refine gn Z (fun A=>QV.call Avg (De Z A eN) (fun w d=>have h:=M6 w (g3 A) ;h)) ?_;refine gn Z (fun A=>QV.not Z A) (wq Z (Bc Z Z Z (fun h=>Fm h)) (nt ?_));refine wc Z b0 (fun d7 e0=>?_) (fun d7 a0=>?_)
 ·skip
  refine sr (wa Z (wa Z (nt (A9 (tr ?_)))));obtain rfl:=(Ad e0).symm;refine Eg Z Z Z (fun w d=>?_);exact⟨(.slice none 0 0,s),Z,d.pick [2] Ah,Gr⟩
 refine sk (Aj (sr (wa Z (nt (Au (sr (wf Ds Z (wl J3 Z (Aq 1 Z Z) (wq Z (A5 Tryz.underlying45 Z Z v.lenMap) (wm Z (nt (F7 (fun w d=>d.vecNil (E:=87) (sz:=4) (enc:=Edg.cells)) ?_))))))))))));obtain⟨c3,a1,g7,f2⟩:=bl a0;refine Kh (dt [2,3,23,24] [1,2] Z) (fun (k:List Edg) (b:Int) (o:Al) (u:Ak)=>[(6,(true,o)),(25,(true,i_ b))]) (fun k b o u=>[vec o 87 4 (List.map Edg.cells k),kn M w.heap.size s u]) (fun k b o u m=>Cp (Nc l t) m (k,b)=some c3∧SliceLen o k.length∧Le s u) (fun k b o u=>c3=.go (k,b)∧SliceLen o k.length∧Le s u) [] 0 (.slice none 0 0) s g7 ⟨f2,Gq,(Ih _)⟩ (sb Z) (pk [0,3,1,2]) ?_ ?_
 ·skip
  rintro k b o u ⟨rfl,B,n⟩;refine Aj (sr (wm Z (Ab Z ?_)));obtain⟨i9,f8,a2⟩:=An a1;refine(cr [1,0,2,3] i en31 Z (As6 f8 B) Z (fun h2 d8 h8=>ns (wm Z (Ab Z ?_))));obtain⟨j0,f9,e4⟩:=An a2;refine(cq i en33 Z (Nk f9 d8) Z (fun N d9 h9=>wa Z (wa Z (nt (A9 ?_)))));obtain rfl:=(Ad e4).symm;refine Eg Z Z Z (fun w d=>?_);exact⟨(N.1,N.2),Z,d.pick [0] Ah,d9⟩
 rintro k b o u i0 ⟨T,B,n⟩;obtain⟨g5,i6,rfl,F,b7⟩:=A0 T;unfold Nc at F;simp only at F;refine sr (wq Z (QV.lss Z Z Z Z) (nt (Au ?_)));refine wc Z F (fun d3 a3=>?_) (fun d3 e3=>?_)
 ·skip
  refine sk (Aj (Au (Cq (sr (wm Z ?_)))));obtain⟨P,a4⟩:=cs a3;obtain⟨i3,b9⟩:=(v.le n).lenMap.ix (sz:=9) Ao P;refine wq Z (Ae Xk Z Z Z Z b9) (wq Z (Af Oj Z Z Z (el (Ai 1 Z i (v.le n)) b9 P)) (Ab Z ((B9 Ah Tv (fun h4=>wa Z (Ab Z ((ew 0 (Stm.cells (ele l.body b)) Tw Z (nt (Au (sr (wq Z (Af Oj Z Z Z (Ac 0 Z)) (Ab Z ?_)))))))))))));obtain⟨g,g1,a5⟩:=An a4;refine(cr [2,0,1,3,4] i Aqz Z (Mh g1) Z (fun c9 I x=>wq Z (A5 Tryz.underlying83 Z Z I.lenMap) (wm Z (nt ?_))));obtain⟨c4,a6,g8,f3⟩:=bl a5;refine F2 (dt [2,3,7,23,24,25,31,32] [0,1,3,4] Z) (fun (f:List Edg) (a:Int) (p:Al)=>[(6,(true,p)),(33,(true,i_ a))]) (fun f a p=>[vec p 87 4 (List.map Edg.cells f)]) (fun f a p m=>Cp (Nb l t b g) m (f,a)=some c4∧SliceLen p f.length) (fun f a p=>c4=.go (f,a)∧SliceLen p f.length) k 0 o g8 ⟨f3,B⟩ (sb Z) (pk [2,0,1,3,4]) ?_ ?_
  ·skip
   rintro f a p ⟨rfl,J⟩;refine Aj (sr (wf Ds Z (wl J3 Z (Aq 4 Z Z) (wq Z (A5 Tryz.underlying45 Z Z (v.le (n.trans x)).lenMap) (wm Z (nt ?_))))));obtain⟨c5,e5,g9,f4⟩:=bl a6;refine F2 (dt [2,3,7,23,24,25,58] [1,2,3,4] Z) (fun (c:List Edg) (q:Int) (j:Al)=>[(6,(true,j)),(59,(true,i_ q))]) (fun c q j=>[vec j 87 4 (List.map Edg.cells c)]) (fun c q j m=>Cp (Na l b) m (c,q)=some c5∧SliceLen j c.length) (fun c q j=>c5=.go (c,q)∧SliceLen j c.length) f 0 p g9 ⟨f4,J⟩ (sb Z) (pk [0,1,2,3,4]) ?_ ?_
   ·skip
    rintro c q j ⟨rfl,C⟩;refine Ba (Aj (Bn (have ⟨c53,e6⟩:=cs e5;wq Z (A6 Z Z Z Z c53) (wm Z (Bk ?_)))));exact F1 c (b+1) j c9.2 g5 ⟨A3 e6 b7,C,(n.trans x)⟩ (Cc _) (sb Z) (pk [0,1,3,4])
   rintro c q j i1 ⟨U,C⟩;obtain⟨c2,i7,rfl,G,L⟩:=A0 U;unfold Na at G;simp only at G;refine sr (wq Z (QV.lss Z Z Z Z) (nt (Au ?_)));refine wc Z G (fun d4 a8=>?_) (fun d4 f1=>?_)
   ·skip
    refine sk (Aj (Au (Cq (sr (wm Z (wa Z (ns (wq Z (Af Fc Z Z Z (Ac 4 Z)) (wm Z (wm Z ?_))))))))));obtain⟨y,g2,a9⟩:=An a8;refine wq Z (QV.call en30 (ea Z) (fun w d=>have h:=Anw w g2 ((Ai 1 Z i (W.le (n.trans x))) w d) ((Ai 1 Z i (v.le (n.trans x))) w d) ((Ai 1 Z i (Y.le (n.trans x))) w d);h)) ?_;refine wm Z (wq Z (Bi Z Z Z) (wq Z (Bi Z Z Z) (Ab Z ((B9 Ah Aqr (fun h5=>Ab Z ((ew 0 (Edg.cells y.1) Ala Z (wa Z (ns (wm Z (nt ?_))))))))))));refine wc Z a9 (fun d5 e7=>?_) (fun d5 e9=>?_)
    ·skip
     refine Bn (wm Z (wq Z (Af Ac9 Z Z Z (Ac 0 Z)) (Ab Z ((Di Ah A4d Ah Ah (ps:=[(0,.tmp 71)]) (cells:=(Edg.cells y.1)) (ea Z) Ag (fun h6=>Ab Z (have ⟨Q,d1,e8⟩:=cs2 e7;(Bt (enc:=Edg.cells) (xs:=c) (ys:=[y.1]) ((c++[y.1])) 2 Ah ve53 Z Z Z Z Z (Bb 0 (rows:=[y.1].map Edg.cells) Z Z (Bq Aem)) Aem (Atc _) Z Q.1 Q.2 (fun h1 f6=>wa Z (Bk (Ba (Aj (Bn (wq Z (A6 Z Z Z Z d1) (wm Z (Bk ?_))))))))))))))));exact Ek (c++[y.1]) (q+1) h1 c2 ⟨A3 e8 L,f6⟩ (Cc _) (sb Z) (pk [2,3,4,5,6])
    refine sk (Ba (Aj (Bn (have ⟨d2,f0⟩:=cs e9;wq Z (A6 Z Z Z Z d2) (wm Z (Bk ?_))))));exact Ek c (q+1) j c2 ⟨A3 f0 L,C⟩ (Cc _) (sb Z) (pk [1,2,3,4,5])
   refine Cw (te (te (Am ?_)));exact Jj c q j ⟨Bh f1 L,C⟩ (sb Z) (pk [0,1,2,3,4])
  rintro f a p i2 ⟨V,J⟩;obtain⟨g6,i8,rfl,H,b8⟩:=A0 V;unfold Nb at H;simp only at H;refine sr (wq Z (QV.lss Z Z Z Z) (nt (Au ?_)));refine wc Z H (fun d6 b3=>?_) (fun d6 e2=>?_)
  ·skip
   refine sk (Aj (Au (Cq (sr ?_))));obtain⟨R,b4⟩:=cs b3;obtain⟨i4,c0⟩:=I.lenMap.ix (sz:=2) Ao R;refine wq Z (Ae Au7 Z Z Z Z c0) (wq Z (Af Ol Z Z Z (el (Ai 1 Z i I) c0 R)) (Ab Z ((B9 Ah Ak9 (fun h7=>Ab Z ((ew 0 [i_ ((ele g a).st),i_ ((ele g a).bk)] Aan Z (nt (dp 19 [2,0,3,4,5] Z (zm 0 Z Z (zf 1 St Z Z (zl 2 pl3 Z Z (Aq 1 Z Z) (zm 3 Z Z (zf 4 Rg Z Z (zl 5 pl3 Z Z (Aq 1 Z Z) (wz 6 Z Z (Af Gn Z Z Z (Ac 3 Z)) (zf 7 Ds Z Z (zl 8 J3 Z Z (Aq 4 Z Z) (zf 9 St Z Z (zl 10 pl3 Z Z (Aq 1 Z Z) ?_))))))))))))))))))));obtain⟨S,b5⟩:=cs b4;obtain⟨i5,c1⟩:=(v.le (n.trans x)).lenMap.ix (sz:=9) Ao S;refine wz 11 Z Z (Ae Xk Z Z Z Z c1) (zf 12 Jd Z Z (zl 13 pl3 Z Z (cl 0 (Ai 0 Z i (v.le (n.trans x))) c1 S Z) ?_));obtain⟨z,g4,b6⟩:=An b5;refine wz 14 Z Z (QV.call Axp (ea Z) (fun w d=>have h:=N8 w g4 ;h)) ?_;refine wz 15 Z Z (QV.build (ps:=[(0,.tmp 39),(1,.tmp 40),(2,.tmp 42),(3,.tmp 51)]) (cells:=[i_ ((ele g a).st),i_ b,i_ ((ele g a).bk),i_ z]) (ea Z) Ag) (Cx 16 Z Ag Z ((Di Ah A4d Ah Ah (ps:=[(0,.tmp 52)]) (cells:=[i_ ((ele g a).st),i_ b,i_ ((ele g a).bk),i_ z]) (ea Z) Ag (fun h3=>bp [3,0,1,4,5,6] Z (pk [0,2,3,4,5]) (Cx 17 Z Ag Z ?_)))));obtain⟨O,d0,e1⟩:=cs2 b6;refine(Bt (enc:=Edg.cells) (xs:=f) (ys:=[(Edg.mk ((ele g a).st) b ((ele g a).bk) z)]) ((f++[(Edg.mk ((ele g a).st) b ((ele g a).bk) z)])) 2 Ah ve53 Z Z Z Z Z (Bb 0 (rows:=[(Edg.mk ((ele g a).st) b ((ele g a).bk) z)].map Edg.cells) Z Z (Bq Aem)) Aem (Atc _) Z O.1 O.2 (fun h0 f5=>bp [3,0,1,2,4,5,6] Z (pk [0,1,2,4,5,6]) (wz 18 Z Z (QV.assign Z Z) (Eh Ag (Ba (Aj (Bn (wq Z (A6 Z Z Z Z d0) (wm Z (Bk ?_))))))))));exact Ek (f++[(Edg.mk ((ele g a).st) b ((ele g a).bk) z)]) (a+1) h0 g6 ⟨A3 e1 b8,f5⟩ (Cc _) (sb Z) (pk [2,3,4,5,6])
  refine Cw (te (te (Am ?_)));exact Jj f a p ⟨Bh e2 b8,J⟩ (sb Z) (pk [0,1,2,3,4])
 refine Cw (te (te (Am ?_)));exact Mw k b o u ⟨Bh e3 b7,B,n⟩ (sb Z) (pk [0,1,2,3])
end Go.Proofs.YtaimbkndebaaiaaGreatDoor
end
section
namespace Go.Proofs.YtaimbkndebaaiaaGreatDoor
open Go.Rd
open TLib TLibR TLibA TSay TNum0 TNum TLoop TPar TStable TMach TMach2 TKern TClone TNbr TSeq TKRun TKeep TOrd TCpt TDep
namespace TSched1
theorem T0:Sg Tryz.prog 96 2:=⟨_,Tryz.underlying96,rfl,Ag⟩
theorem Avf:Go.Rd.Enters Tryz.prog 16:=eT Tryz.func16
theorem en66:Go.Rd.Enters Tryz.prog 66:=eT Tryz.func66
theorem Oo:Cb Tryz.prog 96 0 0:=fT 0 Tryz.underlying96
theorem Nv:Cb Tryz.prog 96 1 1:=fT 0 Tryz.underlying96
end TSched1
open TSched1
theorem Acx {x v y z a9:Al}{l:Lp}{t:Tgt}{p:Pln}{o:List Edg}{r:Bool} (w:Ak) (C:Ky l t p o=some r) (e4:Arr w x 1 (l.logs.map Ar)) (P:Arr w v 9 (l.body.map Stm.cells)) (e5:Arr w y 1 (l.outs.map Ar)) (j:Arr w z 1 (p.times.map Ar)) (B:Arr w a9 4 (o.map Edg.cells)):Calls Tryz.prog 66 #[.agg #[x,v,y],.agg #[.int .i64 t.u0,.int .i64 t.u1,.int .i64 t.u2,.int .i64 t.w0,.int .i64 t.w1,.int .i64 t.w2,.int .i64 t.regs],.agg #[.int .i64 p.pace,z],a9] w (fun e w'=>e=.returned (.bool r)∧Grow w w'):=by
 unfold Ky at C;refine have n:=D0 (w:=w);cw 87 Tryz.func66 Z (sr (Ab Z ((A4 Ah Z Z (fun b1=>Ab Z ((A4 Ah Z Z (fun b2=>Ab Z ((A4 Ah Z Z (fun G=>wa Z (ns (Ab Z ((An4 (ke:=kP) (ve:=Dv) Ah (fun A=>wa Z (nt (Au (sr (wf Nv Z (wl Fl Z (Aq 1 Z Z) (wq Z (A5 Tryz.underlying34 Z Z j.lenMap) (wm Z (nt ?_)))))))))))))))))))))))) (Av n (D3 w));obtain⟨a8,s,e1,d7⟩:=bl C;refine B6 (dt [3,4,5,6,9,17,18] [1,2,3,4] Z) (fun (c:List ((Int×Int)×Int)) (a:Int)=>[(19,(true,i_ a))]) (fun c a=>[Xi A kP Dv c]) (fun c a m=>Cp (J5 l t p) m (c,a)=some a8) (fun c a=>a8=.go (c,a)) ([]:List ((Int×Int)×Int)) 0 e1 d7 (sb Z) (pk [0,1,2,3,4]) ?_ ?_
 ·skip
  rintro c a rfl;refine Aj (Au (sr (wm Z (wq Z (A5 Tryz.underlying53 Z Z B.lenMap) (wm Z (nt ?_))))));obtain⟨a7,Q,e0,d6⟩:=bl s;refine D6 (dt [6,58,59] [0,1,2,3,4] Z) (fun (g:Int)=>[(60,(true,i_ g))]) (fun g=>[]) (fun g m=>Cp (J4 p o) m g=some a7) (fun g=>a7=.go g) 0 e0 d6 (sb Z) (pk [0,1,2,3,4]) ?_ ?_
  ·skip
   rintro g rfl;refine Aj (sr (wa Z (nt (A9 ?_))));obtain rfl:=(Ad Q).symm;exact Aw Z Z fun w d=>kg d
  rintro g m15 N;obtain⟨m17,f2,rfl,E,F⟩:=A0 N;unfold J4 at E;refine sr (wq Z (QV.lss Z Z Z Z) (nt (Au ?_)));refine wc Z E (fun b9 R=>?_) (fun b9 c9=>?_)
  ·skip
   refine sk (Aj (Au (Cq (sr ?_))));obtain⟨I,T⟩:=cs R;obtain⟨e7,a2⟩:=B.lenMap.ix (sz:=4) Ao I;refine wq Z (Ae Abo Z Z Z Z a2) (wq Z (Af Ac9 Z Z Z (el (Ai 4 Z n B) a2 I)) (Ab Z ((B9 Ah Aqr (fun e3=>Ab Z ((ew 0 (Edg.cells (ele o g)) Ala Z (nt (Au (dp 22 [5,0,1,2,3,4] Z (zf 0 Nv Z Z (zl 1 Fl Z Z (Aq 3 Z Z) (zf 2 Aa7 Z Z (zl 3 pl3 Z Z (Aq 1 Z Z) ?_))))))))))))));obtain⟨J,U⟩:=cs T;obtain⟨e8,a3⟩:=j.lenMap.ix (sz:=1) Ao J;refine wz 4 Z Z (Ae Fs Z Z Z Z a3) (zl 5 pl3 Z Z (cl 0 (Ai 0 Z n j) a3 J Z) (zf 6 Adw Z Z (zl 7 pl3 Z Z (Aq 1 Z Z) (zf 8 Oo Z Z (zl 9 pl3 Z Z (Aq 3 Z Z) ?_)))));obtain⟨b0,b3,K,c5⟩:=cs3 U;refine wz 10 Z Z (QV.mul Z Z Z Z b0) (wz 11 Z Z (A6 Z Z Z Z b3) (zf 12 Nv Z Z (zl 13 Fl Z Z (Aq 3 Z Z) (zf 14 Yc Z Z (zl 15 pl3 Z Z (Aq 1 Z Z) ?_)))));obtain⟨e9,a4⟩:=j.lenMap.ix (sz:=1) Ao K;refine wz 16 Z Z (Ae Fs Z Z Z Z a4) (zl 17 pl3 Z Z (cl 0 (Ai 0 Z n j) a4 K Z) (zf 18 Adv Z Z (zl 19 pl3 Z Z (Aq 1 Z Z) (have ⟨b4,V⟩:=cs c5;wz 20 Z Z (A6 Z Z Z Z b4) (wz 21 Z Z (QV.lss Z Z Z Z) (Eh Ag (Aj ?_)))))));refine wc Z V (fun c0 c6=>?_) (fun c0 c7=>?_)
   ·skip
    refine sr (wa Z (nt (A9 (kr (tr (tr (kr (tr (tr ?_)))))))));obtain rfl:=Dr c6 F;obtain rfl:=(Ad Q).symm;exact Aw Z Z fun w d=>kg d
   refine sk (Ba (Aj (Bn (have ⟨b5,c8⟩:=cs c7;wq Z (A6 Z Z Z Z b5) (wm Z (Bk ?_))))));exact D5 (g+1) m17 (A3 c8 F) (Cc _) (sb Z) (pk [1,2,3,4,5])
  refine Cw (te (te (Am ?_)));exact Eo g (Bh c9 F) (sb Z) (pk [0,1,2,3,4])
 rintro c a e6 O;obtain⟨d9,f3,rfl,q,u⟩:=A0 O;unfold J5 at q;simp only at q;refine sr (wq Z (QV.lss Z Z Z Z) (nt (Au ?_)));refine wc Z q (fun c1 W=>?_) (fun c1 d5=>?_)
 ·skip
  refine sk (Aj (Au (Cq (sr (wm Z ?_)))));obtain⟨L,X⟩:=cs W;obtain⟨f0,a5⟩:=j.lenMap.ix (sz:=1) Ao L;refine wq Z (Ae Fs Z Z Z Z a5) (wl pl3 Z (cl 0 (Ai 4 Z n j) a5 L Z) (wa Z (wa Z (nt (Au (sr (wm Z (wq Z (QV.lss Z Z Z Z) (wm Z (gN Z (QV.move Z Z) (gn Z (fun c4=>QV.gtr Z c4 Z Z) (wq Z (Bc Z Z Z (fun h=>Fm h)) (nt ?_)))))))))))));refine wc Z X (fun c2 d0=>?_) (fun c2 Y=>?_)
  ·skip
   refine sr (wa Z (nt (A9 (tr (kr (tr (tr (kr (tr (tr ?_))))))))));obtain rfl:=Dr d0 u;obtain rfl:=(Ad s).symm;exact Aw Z Z fun w d=>kg d
  refine sk (Aj (Au (dp 14 [4,0,1,2,3] Z (zm 0 Z Z (zf 1 Oo Z Z (zl 2 pl3 Z Z (Aq 2 Z Z) ?_))))));obtain⟨b6,M,a0⟩:=cs2 Y;refine wz 3 Z Z (QV.rem Z Z Z Z b6) (zf 4 Ds Z Z (zl 5 J3 Z Z (Aq 4 Z Z) (zm 6 Z Z ?_)));obtain⟨f1,a6⟩:=P.lenMap.ix (sz:=9) Ao M;refine wz 7 Z Z (Ae Xk Z Z Z Z a6) (zf 8 Jd Z Z (zl 9 pl3 Z Z (cl 0 (Ai 0 Z n P) a6 M Z) ?_));obtain⟨f,d8,d1⟩:=An a0;refine wz 10 Z Z (QV.call Ai5 (ea Z) (fun w d=>have h:=H3 w d8 ;h)) ?_;refine wz 11 Z Z (QV.build (ps:=[(0,.tmp 33),(1,.tmp 40)]) (cells:=[i_ (Int.tmod (ele p.times a) p.pace),i_ f]) (ea Z) Ag) (Cx 12 Z Ag Z ((B9 Ah A39 (fun H=>bp [5,0,1,2,3,4] Z (pk [0,2,3,4,5]) (Ig 13 Z Ag Z ((ew 0 [i_ (Int.tmod (ele p.times a) p.pace),i_ f] A4e Z (Aj (Au (Aon (m:=7) (S:=Own noM w [kn noM w.heap.size w w,blk H [i_ (Int.tmod (ele p.times a) p.pace),i_ f] 196,Alc A kP Dv 0 c,blk G [i_ p.pace,z] 96,blk b2 t.cells 27,blk b1 [x,v,y] 47]) Ag Ag (fun w d=>Y5 2 0 Z (d.pick [5,0,1,2,3,4] Ah)) (zm 0 Z Z (wz 1 Z Z (Af Atn Z Z Z (Ac 1 Z)) (wz 2 Z Z (Abh (k:=((Int.tmod (ele p.times a) p.pace),f)) 2 0 Ab1 Ab2 R3 Z Z Z Z Z) (have ⟨b7,c76,a1⟩:=cs2 d1;wz 3 Z Z (A6 Z Z Z Z b7) (Cx 4 Z Ag Z ((EV.mapEntry Ah ((Int.tmod (ele p.times a) p.pace),f) 1 0 Ab1 Ab2 R3 Z Z Z Z Z (fun e2=>WD.b (H':=[kn noM w.heap.size w w,blk H [i_ (Int.tmod (ele p.times a) p.pace),i_ f] 196,Alc A kP Dv 0 c,blk G [i_ p.pace,z] 96,blk b2 t.cells 27,blk b1 [x,v,y] 47]) (fun w d=>Y4 2 Z (d.pick [5,0,1,2,3,4] Ah)) (pk [0,1,2,3,4,5]) (wz 5 Z Z (Bi Z Z Z) (Ig 6 Z Ag Z ((EV.entryStore (ke:=kP) (ve:=Dv) ((Int.tmod (ele p.times a) p.pace),f) 1 ((Fz c ((Int.tmod (ele p.times a) p.pace),f) 0)+1) e2 Z Z Z Z Z Z Z (Aj (Au (dp 9 [5,0,1,2,3,4] Z (zm 0 Z Z (wz 1 Z Z (Af Atn Z Z Z (Ac 1 Z)) (wz 2 Z Z (QV.lookup (k:=((Int.tmod (ele p.times a) p.pace),f)) 2 0 Ab1 Ab2 R3 Z Z Z Z Z) (wz 3 Z Z (Cr A46 Z Z Z Z Ah Ah) (zl 4 pl3 Z Z (Aq 1 Z Z) (zf 5 Yj Z Z (wz 6 Z Z (Cr Tz Z Z Z Z c76.1 c76.2) (zl 7 pl3 Z Z (Ez 4 Z (Ir (off:=0) (i:=f) c76.1 c76.2 Z Z Z) (Hu _ _ _)) (wz 8 Z Z (QV.gtr Z Z Z Z) ?_))))))))))))))))))))))))))))))))));refine Eh Ag (Aj ?_);refine wc Z a1 (fun c3 d2=>?_) (fun c3 d3=>?_)
  ·skip
   refine sr (wa Z (nt (A9 (kr (tr (tr (kr (tr (tr ?_)))))))));obtain rfl:=Dr d2 u;obtain rfl:=(Ad s).symm;exact Aw Z Z fun w d=>kg d
  refine sk (Ba (Aj (Bn (have ⟨b8,d4⟩:=cs d3;wq Z (A6 Z Z Z Z b8) (wm Z (Bk ?_))))));exact Bs (Oi c ((Int.tmod (ele p.times a) p.pace),f) ((Fz c ((Int.tmod (ele p.times a) p.pace),f) 0)+1)) (a+1) d9 (A3 d4 u) (Cc _) (sb Z) (pk [1,2,3,4,5])
 refine Cw (te (te (Am ?_)));exact Cm c a (Bh d5 u) (sb Z) (pk [0,1,2,3,4])
theorem Aae {o n q s:Al}{l:Lp}{t:Tgt}{p:Pln}{r:Bool} (w:Ak) (g:Lh l t p=some r) (i:Arr w o 1 (l.logs.map Ar)) (f:Arr w n 9 (l.body.map Stm.cells)) (j:Arr w q 1 (l.outs.map Ar)) (k:Arr w s 1 (p.times.map Ar)):Calls Tryz.prog 109 #[.agg #[o,n,q],.agg #[.int .i64 t.u0,.int .i64 t.u1,.int .i64 t.u2,.int .i64 t.w0,.int .i64 t.w1,.int .i64 t.w2,.int .i64 t.regs],.agg #[.int .i64 p.pace,s]] w (fun e w'=>e=.returned (.bool r)∧Grow w w'):=by
 unfold Lh at g;refine have b:=D0 (w:=w);cw 43 Tryz.func109 Z (sr (Ab Z ((A4 Ah Z Z (fun b1=>Ab Z ((A4 Ah Z Z (fun b2=>Ab Z ((A4 Ah Z Z (fun A=>wa Z (ns (wq Z (Af Fc Z Z Z (Ac 2 Z)) (wq Z (Af Gn Z Z Z (Ac 1 Z)) (Ab Z ?_))))))))))))))) (Av b (D3 w));obtain⟨B,x,m⟩:=An g;refine(cr [3,0,1,2] b Avf Z (Pd x i f j) Z (fun z u d=>wm Z (wq Z (Bi Z Z Z) (wq Z (Bi Z Z Z) (wa Z (wa Z (ns (wm Z (wq Z (QV.eql Z Z Z Z) (wm Z (gP Z (QV.fieldAddr Oo Z Z) (gp Z (fun a=>Cs pl3 Z a (Aq 1 Z Z)) (gp Z (fun a=>QV.geq Z a Z Z) (wq Z (A7 Z Z Z (fun h=>h)) (wm Z (gP Z (QV.fieldAddr Oo Z Z) (gp Z (fun a=>Cs pl3 Z a (Aq 1 Z Z)) (gp Z (fun a=>QV.leq Z a Z Z) (wq Z (A7 Z Z Z (fun h=>h)) (wm Z (gP Z (QV.fieldAddr Nv Z Z) (gp Z (fun a=>Cs Fl Z a (Aq 1 Z Z)) (gp Z (fun a=>A5 Tryz.underlying34 Z a (k.le d).lenMap) (gP Z (QV.fieldAddr Ds Z Z) (gp Z (fun a=>Cs J3 Z a (Aq 3 Z Z)) (gp Z (fun a=>A5 Tryz.underlying45 Z a (f.le d).lenMap) (gp Z (fun a=>QV.eql Z a Z a) (wq Z (A7 Z Z Z (fun h=>h)) (wm Z (gP Z (Af Fc Z Z Z (Ac 3 Z)) ?_))))))))))))))))))))))))))))));refine gP Z (Af Gn Z Z Z (Ac 2 Z)) (gP Z (Af T0 Z Z Z (Ac 1 Z)) (gP Z (QV.move Z Z) ?_));obtain⟨C,y,v⟩:=Dg m;refine gp Z (fun a=>QV.call en66 (De Z a (De Z a (De Z a (De Z a eN)))) (fun w c=>have h:=Acx w (y a) ((Ai 0 Z b (i.le d)) w c) ((Ai 0 Z b (f.le d)) w c) ((Ai 0 Z b (j.le d)) w c) ((Ai 0 Z b (k.le d)) w c) ((Ai 0 Z b u) w c);h)) ?_;refine wq Z (A7 Z Z Z (fun h=>h)) (wa Z (nt (A9 ?_)));obtain rfl:=(Ad v).symm;exact Aw Z Z fun w c=>kg c
end Go.Proofs.YtaimbkndebaaiaaGreatDoor
end