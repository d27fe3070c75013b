/- Texts for the law, 9. -/
import Derived.Test.YtaimbkndebaaiaaGreatDoorZLdriveTells8
import Derived.Test.YtaimbkndebaaiaaGreatDoorProg
import Derived.KernelRfl
import Derived.LaidLaws
import Derived.Shelf.Vars
import Derived.LaidMore
set_option linter.unusedVariables false
set_option linter.unusedSimpArgs false
set_option maxRecDepth 8000
set_option linter.defProp false
open Go renaming World→Ak,Value→Al,Program→Bz
open Decidable renaming decide→Ap
open Bool renaming false→Az
open Go.Value renaming cells→Ea
section
namespace Go.Proofs.YtaimbkndebaaiaaGreatDoor
open Go.Rd
open TLib TLibR TLibA TSay TNum0 TNum TLoop TPar TStable TMach TMach2 TKern TClone TNbr TSeq TKRun TKeep TOrd TCpt TDep TSched1 TEmit TCheck TRegs TBound TMake TBuild TCheck2
namespace TDrv
theorem en13:Go.Rd.Enters Tryz.prog 13:=eT Tryz.func13
theorem en15:Go.Rd.Enters Tryz.prog 15:=eT Tryz.func15
theorem An3:Go.Rd.Enters Tryz.prog 18:=eT Tryz.func18
theorem en23:Go.Rd.Enters Tryz.prog 23:=eT Tryz.func23
theorem en24:Go.Rd.Enters Tryz.prog 24:=eT Tryz.func24
theorem A1w:Go.Rd.Enters Tryz.prog 25:=eT Tryz.func25
theorem en40:Go.Rd.Enters Tryz.prog 40:=eT Tryz.func40
theorem en41:Go.Rd.Enters Tryz.prog 41:=eT Tryz.func41
theorem en42:Go.Rd.Enters Tryz.prog 42:=eT Tryz.func42
theorem en43:Go.Rd.Enters Tryz.prog 43:=eT Tryz.func43
theorem en51:Go.Rd.Enters Tryz.prog 51:=eT Tryz.func51
theorem en52:Go.Rd.Enters Tryz.prog 52:=eT Tryz.func52
theorem en53:Go.Rd.Enters Tryz.prog 53:=eT Tryz.func53
theorem en92:Go.Rd.Enters Tryz.prog 92:=eT Tryz.func92
theorem en93:Go.Rd.Enters Tryz.prog 93:=eT Tryz.func93
theorem Yh:Cb Tryz.prog 42 0 0:=fT 6 Tryz.underlying42
theorem Ahh:Cb Tryz.prog 42 1 7:=fT 0 Tryz.underlying42
theorem Ay9:Cb Tryz.prog 50 0 0:=fT 0 Tryz.underlying50
theorem Ay8:Cb Tryz.prog 50 1 1:=fT 0 Tryz.underlying50
theorem pl48:N3 Tryz.prog 48:=⟨_,Tryz.underlying48,rfl⟩
theorem A1p:Dt Tryz.prog 27 7:=by unfold Dt;kernel_rfl
theorem sz9:Dt Tryz.prog 9 1:=by unfold Dt;kernel_rfl
theorem ze27:ZeroT Tryz.prog 27 [.int .i64 0,.int .i64 0,.int .i64 0,.int .i64 0,.int .i64 0,.int .i64 0,.int .i64 0]:=by unfold ZeroT;kernel_rfl
end TDrv
open TDrv
theorem W5 {g:Nat}{s:Al}{a:Tgt}{j:List UInt8}{l:List Int}{r:List UInt8×Tgt}{c:Ak} (i:Gh a j l=some r) (b:Arr c s 1 (l.map Ar)) (M:Nat→Prop) (w:Ak) (I:GlbM Tryz.prog M w) (d:Base M c w) (F:Own M w [blk g [.int .i64 a.u0,.int .i64 a.u1,.int .i64 a.u2,.int .i64 a.w0,.int .i64 a.w1,.int .i64 a.w2,.int .i64 a.regs,B5 j] 42] w):Calls Tryz.prog 24 #[.pointer (some (⟨g,0,none⟩)),s] w (fun e w'=>∃ X:Ak,e=.returned (B5 r.1)∧Own M w (kn M w.heap.size c X::[blk g [.int .i64 r.2.u0,.int .i64 r.2.u1,.int .i64 r.2.u2,.int .i64 r.2.w0,.int .i64 r.2.w1,.int .i64 r.2.w2,.int .i64 r.2.regs,B5 j] 42]) w'∧True):=by
 unfold Gh at i;refine cw 25 Tryz.func24 Z (sr (wa Z (nt (Au (dq 14 (zm 0 Z Z ?_)))))) (Av d F);obtain⟨c1,c4,p⟩:=cs2 i;refine have v:=Ip b c1;wz 1 Z Z (Ox Fs Z Z b.lenMap Z Z c1) ?_;obtain⟨L,B,z⟩:=Aur v c4;refine wz 2 Z Z (Ak7 Tz Z Z B) (wz 3 Z Z (Af ag25 Z Z Z (A2 0 Z d z)) (zm 4 Z Z ?_));obtain⟨c7,t,m⟩:=cs2 p;refine have x:=Ip b c7;wz 5 Z Z (Aqn Fs Z Z b.lenMap Z Z Z Z c7) ?_;obtain⟨J,A,y⟩:=Aur x t;refine wz 6 Z Z (Ak7 Tz Z Z A) (wz 7 Z Z (Af ag25 Z Z Z (A2 0 Z d y)) (zm 8 Z Z ?_));obtain⟨k,n⟩:=cs m;obtain⟨K,q⟩:=b.lenMap.ix (sz:=1) Ao k;refine wz 9 Z Z (Ae Fs Z Z Z Z q) (zl 10 pl3 Z Z (cl 0 (Ai 0 Z d b) q k Z) (wz 11 Z Z (QV.build (ps:=[(0,.tmp 9),(1,.tmp 13),(2,.tmp 16)]) (cells:=[i_ (ele (sub l 0 3) 0),i_ (ele (sub l 0 3) 1),i_ (ele (sub l 0 3) 2),i_ (ele (sub l 3 6) 0),i_ (ele (sub l 3 6) 1),i_ (ele (sub l 3 6) 2),i_ (ele l 6)]) (ea Z) Ag) (Cx 12 Z Ag Z ((B9 Ah ze27 (fun H=>bp [1,0,2] Z (pk [0,2]) (Ig 13 Z Ag Z ((ew 0 [i_ (ele (sub l 0 3) 0),i_ (ele (sub l 0 3) 1),i_ (ele (sub l 0 3) 2),i_ (ele (sub l 3 6) 0),i_ (ele (sub l 3 6) 1),i_ (ele (sub l 3 6) 2),i_ (ele l 6)] A1p Z (Aj (Au (sr (wq Z (Af Gn Z Z Z (Ac 0 Z)) ?_)))))))))))));obtain⟨N,G,o⟩:=An n;refine wq Z (QV.call Avg (ea Z) (fun w f=>have h:=M6 w G ;h)) ?_;refine wq Z (QV.not Z Z) (nt ?_);refine wc Z o (fun u C=>?_) (fun u E=>?_)
 ·skip
  refine sr (wa Z (nt (A9 (tr ?_))));obtain rfl:=(Ad C).symm;refine Aw Z Z (fun w f=>?_);exact⟨c,Z,f.pick [1,2] Ah,trivial⟩
 refine sk (Aj (sr (wm Z (wq Z (Af Gn Z Z Z (Ac 0 Z)) (wq Z (QV.nilCheck Z Z) (wf Yh Z (Ab Z ((ew 2 [i_ (ele (sub l 0 3) 0),i_ (ele (sub l 0 3) 1),i_ (ele (sub l 0 3) 2),i_ (ele (sub l 3 6) 0),i_ (ele (sub l 3 6) 1),i_ (ele (sub l 3 6) 2),i_ (ele l 6)] A1p Z (ns (wa Z (nt (A9 ?_)))))))))))));obtain rfl:=(Ad E).symm;refine Aw Z Z (fun w f=>?_);exact⟨c,Z,f.pick [1,2] Ah,trivial⟩
theorem Za {u:Nat}{G F H:Al}{b:Tgt}{z:List UInt8}{l:Lp}{E:Int}{r:List UInt8}{o:Ak} (C:Dy b z l E=some r) (s:Arr o G 1 (l.logs.map Ar)) (q:Arr o F 9 (l.body.map Stm.cells)) (t:Arr o H 1 (l.outs.map Ar)) (M:Nat→Prop) (w:Ak) (B:GlbM Tryz.prog M w) (j:Base M o w) (b9:Own M w [blk u [.int .i64 b.u0,.int .i64 b.u1,.int .i64 b.u2,.int .i64 b.w0,.int .i64 b.w1,.int .i64 b.w2,.int .i64 b.regs,B5 z] 42] w):Calls Tryz.prog 53 #[.pointer (some (⟨u,0,none⟩)),.agg #[G,F,H],.int .i64 E] w (fun e w'=>∃ X:Ak,e=.returned (B5 r)∧Own M w (kn M w.heap.size o X::[blk u [.int .i64 b.u0,.int .i64 b.u1,.int .i64 b.u2,.int .i64 b.w0,.int .i64 b.w1,.int .i64 b.w2,.int .i64 b.regs,B5 z] 42]) w'∧True):=by
 unfold Dy at C;refine cw 88 Tryz.func53 Z (sr (Ab Z ((A4 Ah Z Z (fun b1=>wa Z (ns (wq Z (Af Fc Z Z Z (Ac 0 Z)) (Ab Z ?_)))))))) (Av j b9);obtain⟨d0,c2,a0⟩:=An C;refine(crG [1,0,2] B j en92 Z (Ajf c2 s q t) Z (fun x n d=>Ab Z ((B9 Ah Atf (fun L=>Ab Z ((ex 0 [x.1,x.2.1] (show Ea _=List.toArray _ from Z) Axt (oc (Cy n.1.slen) (oc (Cy n.2.slen) B3)) Z (ns (wq Z (Af Fc Z Z Z (Ac 2 Z)) (wq Z (Af Aom Z Z Z (Ac 0 Z)) (wm Z (Ab Z ?_))))))))))));obtain⟨d7,c7,a3⟩:=An a0;refine(cr [1,0,2,3] j en40 Z (Aj6 c7 (s.le d) (q.le d) (t.le d) n.1 n.2) Z (fun p A c=>wm Z (wq Z (Bi Z Z Z) (wq Z (Bi Z Z Z) (Ab Z ((B9 Ah Ate (fun K=>Ab Z ((ex 0 [p.1,p.2.1] (show Ea _=List.toArray _ from Z) Ajq (oc (Cy A.1.lenMap) (oc (Cy A.2.slen) B3)) Z (wa Z (nt (Au (sr (wm Z (wq Z (QV.neq Z Z Z Z) (nt ?_)))))))))))))))));refine wc Z a3 (fun a9 b5=>?_) (fun a9 S=>?_)
 ·skip
  refine sr (wa Z (nt (A9 (tr ?_))));obtain rfl:=(Ad b5).symm;refine Aw Z Z (fun w a=>?_);exact⟨p.2.2,Z,a.pick [1,4] Ah,trivial⟩
 refine sk (Aj (Au (dp 14 [1,0,2,3,4] Z (Yk 0 Ag (zq 0 0 1 Z (Af Fc Z Z Z (Ac 3 Z)) (zq 1 1 3 Z (QV.move Z Z) (zq 2 3 7 Z (QV.nilCheck Z Z) (zq 3 7 15 Z (QV.fieldAddr Yh Z Z) (zq 4 15 31 Z (Af Gn Z Z Z (cu 0 7 (Ac 4 Z) Z)) ?_)))))))));obtain⟨m,a4,T⟩:=An S;refine Af1 (fun g:Al×Al×Ak=>(Arr g.2.2 g.1 10 (m.1.ops.map Opr.cells)∧Arr g.2.2 g.2.1 1 (m.2.1.map Ar))∧Le p.2.2 g.2.2) (fun (y:Nat) (g:Al×Al×Ak)=>[(0,(true,.pointer (some (⟨u,0,none⟩)))),(2,(true,i_ E)),(4,(true,.pointer (some (⟨b1,0,none⟩)))),(7,(true,.pointer (some (⟨L,0,none⟩)))),(8,(true,.pointer (some (⟨K,0,none⟩)))),(9,(true,i_ m.2.2)),(10,(true,.pointer (some (⟨y,0,none⟩)))),(11,(true,g.2.1))]) (fun (y:Nat) (g:Al×Al×Ak)=>Own M w [blk y [i_ m.1.pace,i_ m.1.stages,g.1] 60,kn M w.heap.size o g.2.2,blk K [p.1,p.2.1] 106,blk L [x.1,x.2.1] 104,blk b1 [G,F,H] 47,blk u [i_ b.u0,i_ b.u1,i_ b.u2,i_ b.w0,i_ b.w1,i_ b.w2,i_ b.regs,B5 z] 42]) ?_ ?_
 ·skip
  rintro y g ⟨v,f⟩;refine Aj (Au (sr (wm Z (wq Z (QV.neq Z Z Z Z) (nt ?_)))));refine wc Z T (fun b0 b6=>?_) (fun b0 U=>?_)
  ·skip
   refine sr (wa Z (nt (A9 (tr ?_))));obtain rfl:=(Ad b6).symm;refine Aw Z Z (fun w a=>?_);exact⟨g.2.2,Z,a.pick [1,5] Ah,trivial⟩
  refine sk (Aj (Au (dp 15 [1,0,2,3,4,5] Z (wz 0 Z Z (Af Fc Z Z Z (Ac 4 Z)) (zm 1 Z Z (wz 2 Z Z (QV.nilCheck Z Z) (zf 3 Yh Z Z (wz 4 Z Z (Af Gn Z Z Z (cu 0 7 (Ac 5 Z) Z)) (wz 5 Z Z (Af Ns Z Z Z (Ac 1 Z)) (zm 6 Z Z (zf 7 Pp Z Z (zl 8 Ko Z Z (Aq 3 Z Z) (Cx 9 Z Ag Z ?_)))))))))))));obtain⟨d1,c0,V⟩:=An U;refine(cr [1,0,2,3,4,5] j en41 Z (Aak c0 (s.le ((d.trans c).trans f)) (q.le ((d.trans c).trans f)) (t.le ((d.trans c).trans f)) v.1 v.2 (n.1.le (c.trans f))) Z (fun c8 b2 i=>bp [0,1,2,3,4,5] Z (fun w a=>C8 i ((d.trans c).trans f) (a.pick [0,1,2,3,4,5] Ah)) (zm 10 Z Z (wz 11 Z Z (Bi Z Z Z) (wz 12 Z Z (Bi Z Z Z) (wz 13 Z Z (QV.assign Z Z) (wz 14 Z Z (QV.assign Z Z) (Eh Ag (Aj (Au (dq 15 (zm 0 Z Z (wz 1 Z Z (QV.nilCheck Z Z) (zf 2 Yh Z Z (wz 3 Z Z (Af Gn Z Z Z (cu 0 7 (Ac 5 Z) Z)) (wz 4 Z Z (Af Ns Z Z Z (Ac 1 Z)) (zm 5 Z Z (zf 6 R6 Z Z (zl 7 Ko Z Z (Aq 3 Z Z) (zm 8 Z Z (Cx 9 Z Ag Z ?_)))))))))))))))))))));obtain⟨d2,c1,W⟩:=An V;refine(cq j en42 Z (Ac0 c1 (v.1.le i) b2 (n.2.le ((c.trans f).trans i))) Z (fun c9 b3 k=>bp [0,1,2,3,4,5] Z (fun w a=>C8 k (((d.trans c).trans f).trans i) (a.pick [0,1,2,3,4,5] Ah)) (zm 10 Z Z (wz 11 Z Z (Bi Z Z Z) (wz 12 Z Z (Bi Z Z Z) (wz 13 Z Z (Bi Z Z Z) (wz 14 Z Z (QV.assign Z Z) (Eh Ag (Aj (Au (dq 17 (wz 0 Z Z (Af Fc Z Z Z (Ac 4 Z)) (zm 1 Z Z (wz 2 Z Z (QV.nilCheck Z Z) (zf 3 Yh Z Z (wz 4 Z Z (Af Gn Z Z Z (cu 0 7 (Ac 5 Z) Z)) (wz 5 Z Z (Af Ns Z Z Z (Ac 1 Z)) (zm 6 Z Z (zf 7 Pp Z Z (zl 8 Ko Z Z (Aq 3 Z Z) (zm 9 Z Z (zm 10 Z Z (Cx 11 Z Ag Z ?_)))))))))))))))))))))));obtain⟨d3,c3,Y⟩:=An W;refine(cq j en43 Z (Aaj c3 (s.le ((((d.trans c).trans f).trans i).trans k)) (q.le ((((d.trans c).trans f).trans i).trans k)) (t.le ((((d.trans c).trans f).trans i).trans k)) (v.1.le (i.trans k)) (v.2.le (i.trans k)) (n.1.le (((c.trans f).trans i).trans k)) b3.1) Z (fun a5 b4 P=>bp [0,1,2,3,4,5] Z (fun w a=>C8 P ((((d.trans c).trans f).trans i).trans k) (a.pick [0,1,2,3,4,5] Ah)) (zm 12 Z Z (wz 13 Z Z (Bi Z Z Z) (wz 14 Z Z (Bi Z Z Z) (wz 15 Z Z (QV.assign Z Z) (wz 16 Z Z (QV.assign Z Z) (Eh Ag (Aj (sr (wf Afx Z (wl Ty Z (Aq 2 Z Z) ?_))))))))))));obtain⟨d4,c4,b7⟩:=An Y;refine wq Z (QV.call en93 (ea Z) (fun w a=>have h:=Tb w c4 ((Ai 0 Z j (A.1.le (((f.trans i).trans k).trans P))) w a) (B.at a);h)) ?_;refine have ⟨a8,a1⟩:=cs b7;wq Z (D4 Z Z Z Z a8) (wm Z ?_);obtain⟨d5,c5,a2⟩:=An a1;refine wq Z (QV.call en93 (ea Z) (fun w a=>have h:=Tb w c5 ((Ai 0 Z j b4) w a) (B.at a);h)) ?_;obtain⟨d6,c6,b8⟩:=An a2;refine wq Z (QV.call en91 (ea Z) (fun w a=>have h:=W0 w c6 ;h)) ?_;refine wa Z (nt (A9 ?_));obtain rfl:=(Ad b8).symm;refine Aw Z Z (fun w a=>?_);exact⟨a5.2,Z,a.pick [0,5] Ah,trivial⟩
 refine WD.two 5 10 31 63 1055 Ag Z Z Z Z Ag Ag ?_ ?_
 ·skip
  refine(cr [1,0,2,3,4] j An3 Z (Ia a4 (s.le (d.trans c)) (q.le (d.trans c)) (t.le (d.trans c))) Z (fun I N Q=>bp [0,1,2,3,4] Z (fun w a=>C8 Q (d.trans c) (a)) (zq 6 63 127 Z (QV.move Z Z) (zq 7 127 255 Z (Bi Z Z Z) (zq 8 255 511 Z (Bi Z Z Z) (zq 9 511 1023 Z (Bi Z Z Z) (Hz 10 1023 2047 Z Ag Z ((B9 Ah Aal (fun a6=>bp [1,2,3,4,5] Z sm (Hz 11 2047 4095 Z Ag Z ((ex 0 [i_ m.1.pace,i_ m.1.stages,I.1] (show Ea _=List.toArray _ from Z) Tx (oc Z (oc Z (oc (Cy N.1.lenMap) B3))) Z (bp [1,2,3,4,5] Z sm (zq 12 4095 8191 Z (QV.assign Z Z) (zq 13 8191 16383 Z (QV.assign Z Z) (Up Ag ?_)))))))))))))))));exact Md a6 I ⟨N,Q⟩ (sb Z) (pk [0,1,2,3,4,5])
 refine(B9 Ah Aal (fun a7=>bp [2,1,3,4,5] Z sm (Hz 5 1055 1087 Z Ag Z ((cr [2,0,1,3,4,5] j An3 Z (Ia a4 (s.le (d.trans c)) (q.le (d.trans c)) (t.le (d.trans c))) Z (fun J O R=>bp [0,2,3,4,5] Z (fun w a=>C8 R (d.trans c) (a)) (zq 6 1087 1151 Z (QV.move Z Z) (zq 7 1151 1279 Z (Bi Z Z Z) (zq 8 1279 1535 Z (Bi Z Z Z) (zq 9 1535 2047 Z (Bi Z Z Z) (Hz 11 2047 4095 Z Ag Z ((ex 1 [i_ m.1.pace,i_ m.1.stages,J.1] (show Ea _=List.toArray _ from Z) Tx (oc Z (oc Z (oc (Cy O.1.lenMap) B3))) Z (bp [0,2,3,4,5] Z sm (zq 12 4095 8191 Z (QV.assign Z Z) (zq 13 8191 16383 Z (QV.assign Z Z) (Up Ag ?_)))))))))))))))));exact Md a7 J ⟨O,R⟩ (sb Z) (pk [1,0,2,3,4,5])
theorem Zb {k:Nat}{u t v:Al}{a:Tgt}{p:List UInt8}{l:Lp}{r:List UInt8}{i:Ak} (s:Hg a p l=some r) (G:Arr i u 1 (l.logs.map Ar)) (F:Arr i t 9 (l.body.map Stm.cells)) (H:Arr i v 1 (l.outs.map Ar)) (M:Nat→Prop) (w:Ak) (C:GlbM Tryz.prog M w) (n:Base M i w) (a6:Own M w [blk k [.int .i64 a.u0,.int .i64 a.u1,.int .i64 a.u2,.int .i64 a.w0,.int .i64 a.w1,.int .i64 a.w2,.int .i64 a.regs,B5 p] 42] w):Calls Tryz.prog 52 #[.pointer (some (⟨k,0,none⟩)),.agg #[u,t,v]] w (fun e w'=>∃ X:Ak,e=.returned (B5 r)∧Own M w (kn M w.heap.size i X::[blk k [.int .i64 a.u0,.int .i64 a.u1,.int .i64 a.u2,.int .i64 a.w0,.int .i64 a.w1,.int .i64 a.w2,.int .i64 a.regs,B5 p] 42]) w'∧True):=by
 unfold Hg at s;refine cw 47 Tryz.func52 Z (sr (Ab Z ((A4 Ah Z Z (fun b1=>wa Z (nt (Au (dp 14 [1,0,2] Z (Yk 0 Ag (zq 0 0 1 Z (Af Fc Z Z Z (Ac 1 Z)) (zq 1 1 3 Z (QV.move Z Z) (zq 2 3 7 Z (QV.nilCheck Z Z) (zq 3 7 15 Z (QV.fieldAddr Yh Z Z) (zq 4 15 31 Z (Af Gn Z Z Z (cu 0 7 (Ac 2 Z) Z)) ?_)))))))))))))) (Av n a6);obtain⟨b,S,P⟩:=An s;refine Af1 (fun f:Al×Al×Ak=>(Arr f.2.2 f.1 10 (b.1.ops.map Opr.cells)∧Arr f.2.2 f.2.1 1 (b.2.1.map Ar))∧Le i f.2.2) (fun (j:Nat) (f:Al×Al×Ak)=>[(5,(true,.pointer (some (⟨j,0,none⟩)))),(7,(true,i_ b.2.2))]) (fun (j:Nat) (f:Al×Al×Ak)=>Own M w [blk j [i_ b.1.pace,i_ b.1.stages,f.1] 60,kn M w.heap.size i f.2.2,blk b1 [u,t,v] 47,blk k [i_ a.u0,i_ a.u1,i_ a.u2,i_ a.w0,i_ a.w1,i_ a.w2,i_ a.regs,B5 p] 42]) ?_ ?_
 ·skip
  rintro j f ⟨q,b7⟩;refine Aj (Au (sr (wm Z (wq Z (QV.neq Z Z Z Z) (nt ?_)))));refine wc Z P (fun Y a4=>?_) (fun Y K=>?_)
  ·skip
   refine sr (wa Z (nt (A9 (tr ?_))));obtain rfl:=(Ad a4).symm;refine Aw Z Z (fun w d=>?_);exact⟨f.2.2,Z,d.pick [1,3] Ah,trivial⟩
  refine sk (Aj (sr (wf Uf Z (wl pl3 Z (Aq 0 Z Z) (wf Yf Z (wl pl3 Z (Aq 0 Z Z) (Ab Z ((Di Ah L7 Ah Ah (ps:=[(0,.tmp 24),(1,.tmp 26)]) (cells:=[i_ b.1.pace,i_ b.1.stages]) (ea Z) Ag (fun b4=>?_))))))))));obtain⟨b2,a7,L⟩:=An K;refine wq Z (QV.call en51 (ea Z) (fun w d=>have h:=Oz w a7 ((Bb 0 (rows:=[b.1.pace,b.1.stages].map Ar) Z Z (Bq Bd)) w d) (C.at d);h)) ?_;refine wa Z (nt (Au (sr (wf Oq Z (wl Abp Z (Aq 1 Z Z) (wq Z (A5 Tryz.underlying58 Z Z q.1.lenMap) (wm Z (nt ?_))))))));obtain⟨T,a0,b0,a5⟩:=bl L;refine B6 (dt [30,31] [0,1,2,3,4] Z) (fun (g:List UInt8) (c:Int)=>[(8,(true,B5 g)),(32,(true,i_ c))]) (fun g c=>[]) (fun g c m=>Cp (Et b) m (g,c)=some T) (fun g c=>T=.go (g,c)) b2 0 b0 a5 (sb Z) (pk [0,1,2,3,4]) ?_ ?_
  ·skip
   rintro g c rfl;refine Aj (sr (wm Z (wa Z (nt (A9 ?_)))));obtain rfl:=(Ad a0).symm;refine Aw Z Z (fun w d=>?_);exact⟨f.2.2,Z,d.pick [2,4] Ah,trivial⟩
  rintro g c b8 E;obtain⟨a9,c0,rfl,o,Q⟩:=A0 E;unfold Et at o;simp only at o;refine sr (wq Z (QV.lss Z Z Z Z) (nt (Au ?_)));refine wc Z o (fun W N=>?_) (fun W a3=>?_)
  ·skip
   refine sk (Aj (Au (Cq (sr ?_))));obtain⟨z,O⟩:=cs N;obtain⟨b9,R⟩:=q.1.lenMap.ix (sz:=10) Ao z;refine wq Z (Ae An0 Z Z Z Z R) (wq Z (Af Abr Z Z Z (el (Ai 2 Z n q.1) R z)) (Ab Z ((B9 Ah Aqs (fun b5=>Ab Z ((ew 0 (Opr.cells (ele b.1.ops c)) Aqt Z (nr (wm Z (wf Aa8 Z (wl pl3 Z (Aq 0 Z Z) (wf Ue Z (wl pl3 Z (Aq 0 Z Z) (wf Uc Z (wl pl3 Z (Aq 0 Z Z) (Ab Z ((Di Ah L7 Ah Ah (ps:=[(0,.tmp 38),(1,.tmp 40),(2,.tmp 42)]) (cells:=[i_ ((ele b.1.ops c).slot),i_ ((ele b.1.ops c).stage),i_ ((ele b.1.ops c).dest)]) (ea Z) Ag (fun b6=>?_)))))))))))))))))));obtain⟨b3,a8,a1⟩:=An O;refine wq Z (QV.call A1x (ea Z) (fun w d=>have h:=Nh w a8 ((Bb 0 (rows:=[(ele b.1.ops c).slot,(ele b.1.ops c).stage,(ele b.1.ops c).dest].map Ar) Z Z (Bq Bd)) w d) (C.at d);h)) ?_;refine wa Z (Bk (Ba (Aj (Bn (have ⟨c37,a2⟩:=cs a1;wq Z (A6 Z Z Z Z c37) (wm Z (Bk ?_)))))));exact Bs b3 (c+1) a9 (A3 a2 Q) (Cc _) (sb Z) (pk [2,3,4,5,6])
  refine Cw (te (te (Am ?_)));exact Cm g c (Bh a3 Q) (sb Z) (pk [0,1,2,3,4])
 refine WD.two 5 10 31 63 1055 Ag Z Z Z Z Ag Ag ?_ ?_
 ·skip
  refine(cr [1,0,2] n An3 Z (Ia S G F H) Z (fun x A I=>bp [0,1,2] Z (fun w d=>C8 I (Ih _) (d)) (zq 6 63 127 Z (QV.move Z Z) (zq 7 127 255 Z (Bi Z Z Z) (zq 8 255 511 Z (Bi Z Z Z) (zq 9 511 1023 Z (Bi Z Z Z) (Hz 10 1023 2047 Z Ag Z ((B9 Ah Aal (fun U=>bp [1,2,3] Z sm (Hz 11 2047 4095 Z Ag Z ((ex 0 [i_ b.1.pace,i_ b.1.stages,x.1] (show Ea _=List.toArray _ from Z) Tx (oc Z (oc Z (oc (Cy A.1.lenMap) B3))) Z (bp [1,2,3] Z sm (zq 12 4095 8191 Z (QV.assign Z Z) (zq 13 8191 16383 Z (QV.assign Z Z) (Up Ag ?_)))))))))))))))));exact Md U x ⟨A,I⟩ (sb Z) (pk [0,1,2,3])
 refine(B9 Ah Aal (fun V=>bp [2,1,3] Z sm (Hz 5 1055 1087 Z Ag Z ((cr [2,0,1,3] n An3 Z (Ia S G F H) Z (fun y B J=>bp [0,2,3] Z (fun w d=>C8 J (Ih _) (d)) (zq 6 1087 1151 Z (QV.move Z Z) (zq 7 1151 1279 Z (Bi Z Z Z) (zq 8 1279 1535 Z (Bi Z Z Z) (zq 9 1535 2047 Z (Bi Z Z Z) (Hz 11 2047 4095 Z Ag Z ((ex 1 [i_ b.1.pace,i_ b.1.stages,y.1] (show Ea _=List.toArray _ from Z) Tx (oc Z (oc Z (oc (Cy B.1.lenMap) B3))) Z (bp [0,2,3] Z sm (zq 12 4095 8191 Z (QV.assign Z Z) (zq 13 8191 16383 Z (QV.assign Z Z) (Up Ag ?_)))))))))))))))));exact Md V y ⟨B,J⟩ (sb Z) (pk [1,0,2,3])
theorem J2 {m:Nat}{N L:Al}{c:Tgt}{o:List UInt8}{words:List (List UInt8)}{K:List Int}{r:List UInt8}{j:Ak} (n:Cd c o words K=some r) (s:Arr j N 1 (words.map O0)) (q:Arr j L 1 (K.map Ar)) (M:Nat→Prop) (w:Ak) (f:GlbM Tryz.prog M w) (d:Base M j w) (a6:Own M w [blk m [.int .i64 c.u0,.int .i64 c.u1,.int .i64 c.u2,.int .i64 c.w0,.int .i64 c.w1,.int .i64 c.w2,.int .i64 c.regs,B5 o] 42] w):Calls Tryz.prog 25 #[.pointer (some (⟨m,0,none⟩)),N,L] w (fun e w'=>∃ X:Ak,e=.returned (B5 r)∧Own M w (kn M w.heap.size j X::[blk m [.int .i64 c.u0,.int .i64 c.u1,.int .i64 c.u2,.int .i64 c.w0,.int .i64 c.w1,.int .i64 c.w2,.int .i64 c.regs,B5 o] 42]) w'∧True):=by
 unfold Cd at n;refine cw 74 Tryz.func25 Z (sr (wa Z (ns (wm Z (wq Z (QV.nilCheck Z Z) (wf Ahh Z (wl pl9 Z (Aq 1 Z Z) (Ab Z ?_)))))))) (Av d a6);obtain⟨k,a8,z⟩:=An n;refine(cqG f d en15 Z (Acv a8) Z (fun i b g=>wm Z (wq Z (Bi Z Z Z) (wq Z (Bi Z Z Z) (Ab Z ((B9 Ah A1l (fun b7=>Ab Z ((B9 Ah ze50 (fun b8=>Ab Z ((ex 1 [i.1,i.2.1,i.2.2.1] (show Ea _=List.toArray _ from Z) Au6 (oc (Cy b.1.lenMap) (oc (Cy b.2.1.lenMap) (oc (Cy b.2.2.lenMap) B3))) Z (Ab Z ((ew 0 [i_ k.2.code,i_ k.2.at'] Axl Z (nt (Au (sr (wf Ay9 Z (wl pl48 Z (Aq 0 Z Z) (wq Z (QV.neq Z Z Z Z) (nt ?_)))))))))))))))))))))));refine wc Z z (fun V H=>?_) (fun V t=>?_)
 ·skip
  refine sr (wf Ay8 Z (wl pl3 Z (Aq 0 Z Z) (Ab Z ((Di Ah L7 Ah Ah (ps:=[(0,.tmp 26)]) (cells:=[i_ k.2.at']) (ea Z) Ag (fun b9=>?_))))));obtain⟨c5,a7,a1⟩:=An H;refine wq Z (QV.call A1x (ea Z) (fun w a=>have h:=Nh w a7 ((Bb 0 (rows:=[k.2.at'].map Ar) Z Z (Bq Bd)) w a) (f.at a);h)) ?_;refine wa Z (nt (A9 (tr ?_)));obtain rfl:=(Ad a1).symm;refine Aw Z Z (fun w a=>?_);exact⟨i.2.2.2,Z,a.pick [3,4] Ah,trivial⟩
 refine sk (Aj (Au (sr (wm Z ?_))));obtain⟨p,u⟩:=cs t;obtain⟨c3,I⟩:=(s.le g).lenMap.ix (sz:=1) Ao p;refine wq Z (Ae Qa Z Z Z Z I) (wl pl9 Z (cl 0 (Ai 2 Z d (s.le g)) I p Z) (nt (Cq (sr (wq Z (C4 Z Z Z Z) (wa Z (nt ?_)))))));refine wc Z u (fun S v=>?_) (fun S y=>?_)
 ·skip
  refine Au (dp 11 [2,0,1,3] Z (wz 0 Z Z (Af Fc Z Z Z (Ac 2 Z)) (zm 1 Z Z (wz 2 Z Z (QV.nilCheck Z Z) (zf 3 Yh Z Z (wz 4 Z Z (Af Gn Z Z Z (cu 0 7 (Ac 3 Z) Z)) (Cx 5 Z Ag Z ?_)))))));obtain⟨O,a9,x⟩:=An v;refine(cr [2,0,1,3] d Avf Z (Pd a9 b.1 b.2.1 b.2.2) Z (fun P W Y=>bp [0,1,2,3] Z (fun w a=>C8 Y g (a.pick [0,1,2,3] Ah)) (zm 6 Z Z (wz 7 Z Z (Bi Z Z Z) (wz 8 Z Z (Bi Z Z Z) (wz 9 Z Z (QV.assign Z Z) (wz 10 Z Z (QV.assign Z Z) (Eh Ag (Aj (sr (wm Z (wq Z (A5 Tryz.underlying53 Z Z W.lenMap) (Ab Z ((Di Ah L7 Ah Ah (ps:=[(0,.tmp 44)]) (cells:=[i_ (ln O.1)]) (ea Z) Ag (fun b5=>?_))))))))))))))));obtain⟨c6,b0,a2⟩:=An x;refine wq Z (QV.call en51 (ea Z) (fun w a=>have h:=Oz w b0 ((Bb 0 (rows:=[(ln O.1)].map Ar) Z Z (Bq Bd)) w a) (f.at a);h)) ?_;refine wa Z (nt (A9 (kr (tr ?_))));obtain rfl:=(Ad a2).symm;refine Aw Z Z (fun w a=>?_);exact⟨P.2,Z,a.pick [1,4] Ah,trivial⟩
 refine sr (wq Z (C4 Z Z Z Z) (wa Z (nt ?_)));refine wc Z y (fun T A=>?_) (fun T C=>?_)
 ·skip
  refine Au (dp 13 [2,0,1,3] Z (wz 0 Z Z (Af Fc Z Z Z (Ac 2 Z)) (zm 1 Z Z (wz 2 Z Z (QV.nilCheck Z Z) (zf 3 Yh Z Z (wz 4 Z Z (Af Gn Z Z Z (cu 0 7 (Ac 3 Z) Z)) ?_))))));obtain⟨l,b1,B⟩:=An A;refine wz 5 Z Z (QV.call en17 (ea Z) (fun w a=>have h:=Ui w b1 ((Ai 0 Z d b.1) w a) ((Ai 0 Z d b.2.1) w a) ((Ai 0 Z d b.2.2) w a);h)) ?_;refine zm 6 Z Z (wz 7 Z Z (Bi Z Z Z) (wz 8 Z Z (Bi Z Z Z) (wz 9 Z Z (Bi Z Z Z) (wz 10 Z Z (QV.assign Z Z) (wz 11 Z Z (QV.assign Z Z) (wz 12 Z Z (QV.assign Z Z) (Eh Ag (Aj (sr (wm Z (wm Z (Ab Z ((Di Ah L7 Ah Ah (ps:=[(0,.tmp 59),(1,.tmp 60)]) (cells:=[i_ l.1,i_ l.2.1]) (ea Z) Ag (fun b6=>?_)))))))))))))));obtain⟨c7,b2,a3⟩:=An B;refine wq Z (QV.call en51 (ea Z) (fun w a=>have h:=Oz w b2 ((Bb 0 (rows:=[l.1,l.2.1].map Ar) Z Z (Bq Bd)) w a) (f.at a);h)) ?_;refine wa Z (nt (A9 (kr (tr ?_))));obtain rfl:=(Ad a3).symm;refine Aw Z Z (fun w a=>?_);exact⟨i.2.2.2,Z,a.pick [3,4] Ah,trivial⟩
 refine sr (wq Z (C4 Z Z Z Z) (wa Z (nt ?_)));refine wc Z C (fun U E=>?_) (fun U F=>?_)
 ·skip
  refine sr (wm Z (wq Z (Af Fc Z Z Z (Ac 1 Z)) (Ab Z ?_)));obtain⟨c8,b3,a4⟩:=An E;refine(crG [2,3,0,1] f d en52 Z (Zb b3 b.1 b.2.1 b.2.2) Z (fun Q c0 c2=>wa Z (nt (A9 (kr (tr ?_))))));obtain rfl:=(Ad a4).symm;refine Aw Z Z (fun w a=>?_);exact⟨Q,Z,a.pick [0,1] Ah,trivial⟩
 refine sk (Ba (Aj (Au (dp 7 [2,0,1,3] Z (zm 0 Z Z (wz 1 Z Z (Af Fc Z Z Z (Ac 2 Z)) (zm 2 Z Z ?_)))))));obtain⟨c46,G⟩:=cs F;obtain⟨c4,J⟩:=(q.le g).lenMap.ix (sz:=1) Ao c46;refine wz 3 Z Z (Ae Fs Z Z Z Z J) (zl 4 pl3 Z Z (cl 0 (Ai 0 Z d (q.le g)) J c46 Z) (Cx 5 Z Ag Z ?_));obtain⟨c9,b4,a5⟩:=An G;refine(crG [2,3,0,1] f d en53 Z (Za b4 b.1 b.2.1 b.2.2) Z (fun R c1 a0=>bp [0,1,2,3] Z (fun w a=>C8 a0 g (a.pick [0,2,3,1] Ah)) (wz 6 Z Z (QV.assign Z Z) (Eh Ag (Aj (A9 ?_))))));obtain rfl:=(Ad a5).symm;refine Aw Z Z (fun w a=>?_);exact⟨R,Z,a.pick [0,1] Ah,trivial⟩
theorem Zx {n:Nat}{g:Tgt}{l s:List UInt8}{r:List UInt8×Tgt×List UInt8}{m:Ak} (o:Ep g l s=some r)  (M:Nat→Prop) (w:Ak) (d:GlbM Tryz.prog M w) (c:Base M m w) (d0:Own M w [blk n [.int .i64 g.u0,.int .i64 g.u1,.int .i64 g.u2,.int .i64 g.w0,.int .i64 g.w1,.int .i64 g.w2,.int .i64 g.regs,B5 l] 42] w):Calls Tryz.prog 13 #[.pointer (some (⟨n,0,none⟩)),B5 s] w (fun e w'=>∃ X:Ak,e=.returned (B5 r.1)∧Own M w (kn M w.heap.size m X::[blk n [.int .i64 r.2.1.u0,.int .i64 r.2.1.u1,.int .i64 r.2.1.u2,.int .i64 r.2.1.w0,.int .i64 r.2.1.w1,.int .i64 r.2.1.w2,.int .i64 r.2.1.regs,B5 r.2.2] 42]) w'∧True):=by
 unfold Ep at o;refine cw 81 Tryz.func13 Z (sr (wa Z (nt (Au (sr (wm Z ?_)))))) (Av c d0);obtain⟨p,d3,B⟩:=An o;refine wq Z (QV.call en21 (ea Z) (fun w a=>have h:=Afh w d3 ;h)) ?_;refine wm Z (wq Z (Bi Z Z Z) (wq Z (Bi Z Z Z) (wa Z (wa Z (ns (wm Z (nt ?_)))))));refine wc Z B (fun a7 J=>?_) (fun a7 v=>?_)
 ·skip
  refine sr (wm Z (wq Z (QV.nilCheck Z Z) (wf Ahh Z (wl pl9 Z (Aq 1 Z Z) (wm Z ?_)))));obtain⟨c6,c8,U⟩:=cs2 J;refine wq Z (D4 Z Z Z Z c6) (wq Z (D4 Z Z Z Z c8) (wq Z (QV.nilCheck Z Z) (wf Ahh Z (Ab Z ((ew 1 [B5 (l++(p.1++[10]))] sz9 Z (ns (wm Z (wq Z (QV.nilCheck Z Z) (wf Ahh Z (wl pl9 Z (Aq 1 Z Z) (wq Z (Ki Tryz.underlying9 Z Z) (Ab Z ((Di Ah L7 Ah Ah (ps:=[(0,.tmp 29)]) (cells:=[i_ (ln (l++(p.1++[10])))]) (ea Z) Ag (fun e1=>?_))))))))))))))));obtain⟨f5,d1,b6⟩:=An U;refine wq Z (QV.call A1x (ea Z) (fun w a=>have h:=Nh w d1 ((Bb 0 (rows:=[(ln (l++(p.1++[10])))].map Ar) Z Z (Bq Bd)) w a) (d.at a);h)) ?_;refine wa Z (nt (A9 (tr ?_)));obtain rfl:=(Ad b6).symm;refine Aw Z Z (fun w a=>?_);exact⟨m,Z,a.pick [1,2] Ah,trivial⟩
 refine sk (Aj (Au (sr (wm Z (wq Z (C4 Z Z Z Z) (nt ?_))))));refine wc Z v (fun a4 b7=>?_) (fun a4 x=>?_)
 ·skip
  refine sr (wm Z (wq Z (QV.nilCheck Z Z) (wf Ahh Z (Ab Z ((ew 1 [B5 []] sz9 Z (ns (wa Z (nt (A9 (tr ?_)))))))))));obtain rfl:=(Ad b7).symm;refine Aw Z Z (fun w a=>?_);exact⟨m,Z,a.pick [0,1] Ah,trivial⟩
 refine sk (Aj (sr (wm Z (Ab Z ?_))));obtain⟨f6,d2,y⟩:=An x;refine(cqG d c A1y Z (Af2 d2) Z (fun e0 b e7=>wa Z (ns (wm Z ?_))));obtain⟨q,z⟩:=cs y;refine have b5:=Ip b q;wq Z (Ow Qa Z Z b.lenMap Z Z q) (Ab Z ?_);obtain⟨f7,d4,A⟩:=An z;refine(cqG d c en23 Z (Afo d4 b5) Z (fun k i f=>wm Z (wq Z (Bi Z Z Z) (wq Z (Bi Z Z Z) (wa Z (wa Z (nt (Au (Cq (sr (wm Z (wq Z (QV.not Z Z) (wa Z (nt ?_))))))))))))));refine wc Z A (fun a5 b8=>?_) (fun a5 C=>?_)
 ·skip
  refine sr (wa Z (nt (A9 (kr (tr ?_)))));obtain rfl:=(Ad b8).symm;refine Aw Z Z (fun w a=>?_);exact⟨k.2,Z,a.pick [0,1] Ah,trivial⟩
 refine sr (wm Z ?_);obtain⟨t,E⟩:=cs C;obtain⟨f3,V⟩:=(b.le f).lenMap.ix (sz:=1) Ao t;refine wq Z (Ae Qa Z Z Z Z V) (wl pl9 Z (cl 0 (Ai 0 Z c (b.le f)) V t Z) (wq Z (C4 Z Z Z Z) (wm Z (gP Z (QV.move Z Z) (gp Z (fun j=>A5 Tryz.underlying34 Z j i.lenMap) (gp Z (fun j=>QV.eql Z j Z Z) (wq Z (A7 Z Z Z (fun h=>h)) (wa Z (nt ?_)))))))));refine wc Z E (fun a6 F=>?_) (fun a6 G=>?_)
 ·skip
  refine sr (wm Z (wm Z (Ab Z ?_)));obtain⟨f8,d5,b9⟩:=An F;refine(cqG d c en24 Z (W5 d5 i) Z (fun Y e2 e8=>wa Z (nt (A9 (kr (tr ?_))))));obtain rfl:=(Ad b9).symm;refine Aw Z Z (fun w a=>?_);exact⟨Y,Z,a.pick [0,1] Ah,trivial⟩
 refine Au (sr (wm Z (wq Z (C4 Z Z Z Z) (wa Z (nt ?_)))));refine wc Z G (fun a8 H=>?_) (fun a8 K=>?_)
 ·skip
  refine sk (Aj ?_);refine wc Z H (fun a9 I=>?_) (fun a9 c1=>?_)
  ·skip
   refine sr (wm Z (wm Z (wm Z (Ab Z ?_))));obtain⟨f9,d6,c0⟩:=An I;refine(cqG d c A1w Z (J2 d6 (b.le f) i) Z (fun a0 e3 e9=>wa Z (nt (A9 (kr (tr ?_))))));obtain rfl:=(Ad c0).symm;refine Aw Z Z (fun w a=>?_);exact⟨a0,Z,a.pick [0,1] Ah,trivial⟩
  refine sk (Ba (Aj (sr (wa Z (nt (A9 ?_))))));obtain rfl:=(Ad c1).symm;refine Aw Z Z (fun w a=>?_);exact⟨k.2,Z,a.pick [0,1] Ah,trivial⟩
 refine sr (wm Z (wq Z (C4 Z Z Z Z) (wa Z (nt ?_))));refine wc Z K (fun b0 L=>?_) (fun b0 O=>?_)
 ·skip
  refine sk (Aj ?_);refine wc Z L (fun b1 N=>?_) (fun b1 c3=>?_)
  ·skip
   refine sr (wm Z (wm Z (wm Z (Ab Z ?_))));obtain⟨g0,d7,c2⟩:=An N;refine(cqG d c A1w Z (J2 d7 (b.le f) i) Z (fun a1 e4 f0=>wa Z (nt (A9 (kr (tr ?_))))));obtain rfl:=(Ad c2).symm;refine Aw Z Z (fun w a=>?_);exact⟨a1,Z,a.pick [0,1] Ah,trivial⟩
  refine sk (Ba (Aj (sr (wa Z (nt (A9 ?_))))));obtain rfl:=(Ad c3).symm;refine Aw Z Z (fun w a=>?_);exact⟨k.2,Z,a.pick [0,1] Ah,trivial⟩
 refine sr (wm Z (wq Z (C4 Z Z Z Z) (wa Z (nt ?_))));refine wc Z O (fun b2 P=>?_) (fun b2 R=>?_)
 ·skip
  refine sk (Aj ?_);refine wc Z P (fun b3 Q=>?_) (fun b3 c5=>?_)
  ·skip
   refine sr (wm Z (wm Z (wm Z (Ab Z ?_))));obtain⟨g1,d8,c4⟩:=An Q;refine(cqG d c A1w Z (J2 d8 (b.le f) i) Z (fun a2 e5 f1=>wa Z (nt (A9 (kr (tr ?_))))));obtain rfl:=(Ad c4).symm;refine Aw Z Z (fun w a=>?_);exact⟨a2,Z,a.pick [0,1] Ah,trivial⟩
  refine sk (Ba (Aj (sr (wa Z (nt (A9 ?_))))));obtain rfl:=(Ad c5).symm;refine Aw Z Z (fun w a=>?_);exact⟨k.2,Z,a.pick [0,1] Ah,trivial⟩
 refine Bn (wm Z ?_);obtain⟨u,S⟩:=cs R;obtain⟨f4,W⟩:=(b.le f).lenMap.ix (sz:=1) Ao u;refine wq Z (Ae Qa Z Z Z Z W) (wl pl9 Z (cl 0 (Ai 0 Z c (b.le f)) W u Z) (wq Z (C4 Z Z Z Z) (wm Z (gP Z (QV.move Z Z) (gp Z (fun j=>A5 Tryz.underlying34 Z j i.lenMap) (gp Z (fun j=>QV.eql Z j Z Z) (wq Z (A7 Z Z Z (fun h=>h)) (wa Z (nt ?_)))))))));refine wc Z S (fun b4 T=>?_) (fun b4 c9=>?_)
 ·skip
  refine sr (wm Z (wm Z (wm Z (Ab Z ?_))));obtain⟨g2,d9,c7⟩:=An T;refine(cqG d c A1w Z (J2 d9 (b.le f) i) Z (fun a3 e6 f2=>wa Z (nt (A9 (kr (tr ?_))))));obtain rfl:=(Ad c7).symm;refine Aw Z Z (fun w a=>?_);exact⟨a3,Z,a.pick [0,1] Ah,trivial⟩
 refine sk (Ba (Aj (sr (wa Z (nt (A9 ?_))))));obtain rfl:=(Ad c9).symm;refine Aw Z Z (fun w a=>?_);exact⟨k.2,Z,a.pick [0,1] Ah,trivial⟩
theorem Anv {S r:List UInt8} (w:Ak) (C:Px S=some r) (a2:Glb Tryz.prog w):Calls Tryz.prog 7 #[B5 S] w (fun e w'=>e=.returned (B5 r)∧Grow w w'):=by
 unfold Px at C;refine have s:=D0 (w:=w);cw 45 Tryz.func7 Z (have H:=Xp a2;sr (wa Z (ns (wm Z (Ab Z ?_))))) (Av s (D3 w));obtain⟨y,b4,K⟩:=An C;refine(cqG H s A1y Z (Af2 b4) Z (fun p o c0=>wa Z (nt (Au (sr (wm Z (wm Z (wq Z (A5 Tryz.underlying22 Z Z o.lenMap) ?_))))))));obtain⟨c5,c7,N⟩:=cs2 K;refine wq Z (D2 Z Z Z Z c5) ?_;obtain⟨c3,P⟩:=o.lenMap.ix (sz:=1) Ao c7;refine wq Z (Ae Qa Z Z Z Z P) (wl pl9 Z (cl 0 (Ai 0 Z s o) P c7 Z) (wq Z (C4 Z Z Z Z) (nt ?_)));obtain⟨b8,v,a4⟩:=An N;refine Vf (dt [] [0] Z) (fun (q:List (List UInt8)) (u:Al)=>[(3,(true,u))]) (fun q u=>[]) (fun q u=>b8=.go q∧Arr p.2 u 1 (q.map O0)) (sb Z) (pk [0]) ?_ ?_
 ·skip
  rintro q u ⟨rfl,B⟩;refine sr (wq Z (QV.build (ps:=[(0,.const (i_ 2)),(1,.const (i_ 1)),(2,.const (i_ 1))]) (cells:=[i_ 2,i_ 1,i_ 1]) (ea Z) Ag) (wq Z (QV.build (ps:=[(0,.const (i_ 1)),(1,.const (i_ 3)),(2,.const (i_ 2))]) (cells:=[i_ 1,i_ 3,i_ 2]) (ea Z) Ag) (wq Z (QV.build (ps:=[(0,.tmp 22),(1,.tmp 23),(2,.const (i_ 32))]) (cells:=[i_ 2,i_ 1,i_ 1,i_ 1,i_ 3,i_ 2,i_ 32]) (ea Z) Ag) (wq Z (QV.build (ps:=[(0,.tmp 24)]) (cells:=[i_ 2,i_ 1,i_ 1,i_ 1,i_ 3,i_ 2,i_ 32,B5 []]) (ea Z) Ag) (Ab Z ((A4 Ah Z Z (fun U=>wa Z (ns (wa Z (nt (Au (sr (wm Z (wm Z (wq Z (A5 Tryz.underlying22 Z Z B.lenMap) (wq Z (QV.min2 Z Z Z Z) (have ⟨E,J⟩:=cs a4;have A:=Ip B E;wq Z (Ox Qa Z Z B.lenMap Z Z E) (wq Z (A5 Tryz.underlying22 Z Z A.lenMap) (wm Z (nt ?_)))))))))))))))))))));obtain⟨R,a5,b7,b2⟩:=bl J;refine Aiv (dt [4,31,32] [] Z) (fun (c:Int) (d:Int) (f:Int) (g:Int) (h:Int) (i:Int) (j:Int) (k:List UInt8) (a:List UInt8) (b:Int) (l:Ak)=>[(5,(true,B5 a)),(33,(true,i_ b))]) (fun c d f g h i j k a b l=>[blk U [i_ c,i_ d,i_ f,i_ g,i_ h,i_ i,i_ j,B5 k] 42,kn noM w.heap.size w l]) (fun c d f g h i j k a b l m=>Cp (J9 q) m (c,d,f,g,h,i,j,k,a,b)=some R∧Le p.2 l) (fun c d f g h i j k a b l=>R=.go (c,d,f,g,h,i,j,k,a,b)∧Le p.2 l) 2 1 1 1 3 2 32 [] [] 0 p.2 b7 ⟨b2,(Ih _)⟩ (sb Z) (pk [0,1]) ?_ ?_
  ·skip
   rintro c d f g h i j k a b l ⟨rfl,t⟩;refine Aj (sr (wm Z (wa Z (nt (A9 ?_)))));obtain rfl:=(Ad a5).symm;exact Aw Z Z fun w b3=>kg b3
  rintro c d f g h i j k a b l c1 ⟨I,t⟩;obtain⟨b6,c4,rfl,x,O⟩:=A0 I;unfold J9 at x;simp only at x;refine sr (wq Z (QV.lss Z Z Z Z) (nt (Au ?_)));refine wc Z x (fun a0 L=>?_) (fun a0 a8=>?_)
  ·skip
   refine sk (Aj (Au (Cq (sr ?_))));obtain⟨F,M⟩:=cs L;obtain⟨c2,Q⟩:=(A.le t).lenMap.ix (sz:=1) Ao F;refine wq Z (Ae Qa Z Z Z Z Q) (wl pl9 Z (cl 0 (Ai 1 Z s (A.le t)) Q F Z) (wa Z (nr (wm Z (wm Z (wm Z (Ab Z ?_)))))));obtain⟨n,b5,a6⟩:=An M;refine(crG [1,0] H s en13 Z (Zx b5) Z (fun T b9 a3=>have ⟨V,W,X,a7⟩:=cs3 a6;wq Z (D4 Z Z Z Z V) (wq Z (D4 Z Z Z Z W) (wa Z (Bk (Ba (Aj (Bn (wq Z (A6 Z Z Z Z X) (wm Z (Bk ?_)))))))))));exact Aiu n.2.1.u0 n.2.1.u1 n.2.1.u2 n.2.1.w0 n.2.1.w1 n.2.1.w2 n.2.1.regs n.2.2 (a++(n.1++[10])) (b+1) T b6 ⟨A3 a7 O,(t.trans a3)⟩ (Cc _) (sb Z) (pk [1,0])
  refine Cw (te (te (Am ?_)));exact Ap1 c d f g h i j k a b l ⟨Bh a8 O,t⟩ (sb Z) (pk [0,1])
 refine Abm Z (fun z=>?_) (fun z=>?_)
 ·skip
  have a9:=Aga z v;clear v;refine Bn (wm Z (wm Z (wq Z (A5 Tryz.underlying22 Z Z o.lenMap) (have ⟨Y,G,b0⟩:=cs2 a9;wq Z (D2 Z Z Z Z Y) (have a1:=Ip o G;wq Z (Ox Qa Z Z o.lenMap Z Z G) (wa Z (Bk ?_)))))));exact Cm (sub y 0 ((ln y) - 1)) (Np p.1 1 (Int.toNat 0) (Int.toNat ((ln y) - 1))) ⟨Ad b0,a1⟩ (sb Z) (pk [0])
 have b1:=Agb z v;clear v;refine sk ?_;exact Cm y p.1 ⟨Ad b1,o⟩ (sb Z) (pk [0])
end Go.Proofs.YtaimbkndebaaiaaGreatDoor
end
section
namespace Go.Proofs.YtaimbkndebaaiaaGreatDoor
open Go.Rd
open TLib TLibR TLibA TSay TNum0 TNum TLoop TPar TStable TMach TMach2 TKern TClone TNbr TSeq TKRun TKeep TOrd TCpt TDep TSched1 TEmit TCheck TRegs TBound TMake TBuild TCheck2 TDrv
namespace TR14
theorem sz_74:Nx Tryz.prog 74 5 1 [.int .u8 0]:=⟨Tryz.underlying74,Ag⟩
end TR14
open TR14
theorem Ac4 {j:Int}{r:List UInt8} (w:Ak) (h:Nd j=some r) :Calls Tryz.prog 14 #[.int .i64 j] w (fun e w'=>e=.returned (B5 r)∧Grow w w'):=by
 unfold Nd at h;refine have y:=D0 (w:=w);cw 29 Tryz.func14 Z (sr (wa Z (ns (wa Z (ns (wm Z (wa Z (nt (Au ?_))))))))) (Av y (D3 w));obtain⟨q,o,K,I⟩:=bl h;refine B6 (dt [0] [0] Z) (fun (c:List UInt8) (a:Int)=>[(3,(true,B5 c)),(4,(true,i_ a))]) (fun c a=>[]) (fun c a m=>Cp (Lo) m (c,a)=some q) (fun c a=>q=.go (c,a)) [] j K I (sb Z) (pk [0]) ?_ ?_
 ·skip
  rintro c a rfl;refine Aj (Au (sr (wm Z (wq Z (QV.lss Z Z Z Z) (nt ?_)))));refine wc Z o (fun x G=>?_) (fun x z=>?_)
  ·skip
   refine sr (wm Z (have ⟨c8,H⟩:=cs G;wq Z (D4 Z Z Z Z c8) (wa Z (nt (A9 (tr ?_))))));obtain rfl:=(Ad H).symm;exact Aw Z Z fun w i=>kg i
  refine sk (Aj (sr (wm Z (wa Z (nt (A9 ?_))))));obtain rfl:=(Ad z).symm;exact Aw Z Z fun w i=>kg i
 rintro c a N k;obtain⟨J,O,rfl,f,p⟩:=A0 k;unfold Lo at f;simp only at f;refine Cq (sr (wm Z (wq Z (QV.rem Z Z Z Z Ah) (wa Z (nt (Au (sr (wm Z (wq Z (QV.lss Z Z Z Z) (nt ?_))))))))));obtain⟨L,d,l⟩:=An f;refine Aef (dt [0,3,4] [0] Z) (fun (b:Int)=>[(5,(true,i_ b))]) (fun b=>[]) (fun b=>L=.go b) (sb Z) (pk [0]) ?_ ?_
 ·skip
  rintro b rfl;refine sr (wm Z ?_);obtain⟨c20,s,t,n⟩:=cs3 l;refine wq Z (A6 Z Z Z Z c20) (wq Z (Adz (Ams (48+b)) (Rj Tryz.underlying5 Tryz.underlying2 Z Z)) (Ab Z ((Di Ah sz_74 Ah Ah (ps:=[(0,.tmp 15)]) (cells:=[.int .u8 ((bt (48+b)).toNat:Int)]) (ea Z) Ag (fun M=>wq Z (A1h Tryz.underlying74 Tryz.underlying5 Tryz.underlying9 Z Z (Bb 0 (rows:=[(bt (48+b))].map Aol) Z Z (Bq Aky))) (wm Z (wq Z (D4 Z Z Z Z s) (wa Z (ns (wm Z (wq Z (QV.quo Z Z Z Z Ah t) (wa Z (ns (wm Z (wq Z (QV.eql Z Z Z Z) (nt ?_))))))))))))))));refine wc Z n (fun v A=>?_) (fun v B=>?_)
  ·skip
   refine Cw (Ai0 Ah (te (Am ?_)));exact Cm ([(bt (48+b))]++c) (Int.tdiv a 10) (Bh A p) (sb Z) (pk [1])
  refine sk (Ba ?_);exact Bs ([(bt (48+b))]++c) (Int.tdiv a 10) J (A3 B p) (Cc _) (sb Z) (pk [1])
 refine Abm Z (fun g=>?_) (fun g=>?_)
 ·skip
  have C:=Aga g d;clear d;refine Bn (wm Z (have ⟨u,E⟩:=cs C;wq Z (QV.neg Z Z u) (wa Z (Bk ?_))));exact Eo (-(Int.tmod a 10)) (Ad E) (sb Z) (pk [0])
 have F:=Agb g d;clear d;refine sk ?_;exact Eo (Int.tmod a 10) (Ad F) (sb Z) (pk [0])
end Go.Proofs.YtaimbkndebaaiaaGreatDoor
end
section
namespace Go.Proofs.YtaimbkndebaaiaaGreatDoor
open Go.Rd
open TLib TLibR TLibA TSay TNum0 TNum TLoop TPar TStable TMach TMach2 TKern TClone TNbr TSeq TKRun TKeep TOrd TCpt TDep TSched1 TEmit TCheck TRegs TBound TMake TBuild TCheck2 TDrv TR14
namespace TSaid
theorem en14:Go.Rd.Enters Tryz.prog 14:=eT Tryz.func14
theorem sz_22:Nx Tryz.prog 22 9 1 [.string ByteArray.empty]:=⟨Tryz.underlying22,Ag⟩
theorem ve22:Xj Tryz.prog 22 9 1 16:=⟨Tryz.underlying22,Ag,Ah⟩
end TSaid
open TSaid
theorem P7 {s:List UInt8}{i:UInt8}{r:List (List UInt8)}{o:Ak} (k:Gt s i=some r)  (M:Nat→Prop) (w:Ak) (t:Base M o w) (S:Own M w [] w):Calls Tryz.prog 5 #[B5 s,.int .u8 ((i).toNat:Int)] w (fun e w'=>∃ X:Al×Ak,e=.returned (X.1)∧Own M w (kn M w.heap.size o X.2::[]) w'∧Arr X.2 X.1 1 (r.map O0)):=by
 unfold Gt at k;refine cw 35 Tryz.func5 Z (sr (wa Z (ns (wa Z (ns (wa Z (nt (Au (sr (wa Z (nt (F7 (fun w n=>n.vecNil (E:=9) (sz:=1) (enc:=O0)) ?_)))))))))))) (Av t S);obtain⟨y,O,U,P⟩:=bl k;refine Kh (dt [0,1] [1] Z) (fun (c:List (List UInt8)) (b:Int) (a:Int) (d:Al)=>[(5,(true,d)),(6,(true,i_ b)),(7,(true,i_ a))]) (fun c b a d=>[vec d 9 1 (List.map O0 c)]) (fun c b a d m=>Cp (K5 s i) m (c,b,a)=some y∧SliceLen d c.length) (fun c b a d=>y=.go (c,b,a)∧SliceLen d c.length) [] 0 0 (.slice none 0 0) U ⟨P,Gq⟩ (sb Z) (pk [0,1]) ?_ ?_
 ·skip
  rintro c b a d ⟨rfl,j⟩;refine Aj (sr (wm Z (wa Z (nt (A9 ?_)))));obtain rfl:=(Ad O).symm;refine kp [1,0] Z (Gk t (fun T Y Q=>have H:=Cj Q;Aw Z Z (fun w n=>?_)));exact⟨(d,T),Z,n.pick [0] Ah,H⟩
 rintro c b a d a0 ⟨q,j⟩;obtain⟨x,a1,rfl,g,l⟩:=A0 q;unfold K5 at g;simp only at g;refine Au (sr (wm Z (wm Z (wq Z (Ki Tryz.underlying9 Z Z) (wq Z (QV.leq Z Z Z Z) (nt ?_))))));refine wc Z g (fun F I=>?_) (fun F N=>?_)
 ·skip
  refine sk (Aj (Au (Cq (sr (wm Z (wm Z (wq Z (Ki Tryz.underlying9 Z Z) (wq Z (QV.eql Z Z Z Z) (wm Z (gN Z (QV.move Z Z) (gN Z (QV.move Z Z) (have ⟨z,u⟩:=cs I;gn Z (fun f=>Ks Tryz.underlying9 Z f Z f (z f)) (gN Z (QV.move Z Z) (gn Z (fun f=>QV.eql Z f Z f) (wq Z (Bc Z Z Z (fun h=>Fm h)) (nt ?_))))))))))))))));refine wc Z u (fun G v=>?_) (fun G K=>?_)
  ·skip
   refine sr (wm Z (wm Z (wm Z (wm Z ?_))));obtain⟨c20,p,A,B,J⟩:=cs4 v;refine wq Z (A1g Tryz.underlying9 Z Z Z Z Z Z c20) (Ab Z ((Di Ah sz_22 Ah Ah (ps:=[(0,.tmp 29)]) (cells:=[B5 (sub s b a)]) (ea Z) Ag (fun W=>Ab Z ((Bt (enc:=O0) (xs:=c) (ys:=[(sub s b a)]) ((c++[(sub s b a)])) 1 Ah ve22 Z Z Z Z Z (Bb 0 (rows:=[(sub s b a)].map O0) Z Z (Bq Ad4)) Ad4 (Av0 _) Z p.1 p.2 (fun V R=>wa Z (nr (wm Z (wq Z (A6 Z Z Z Z A) (wa Z (Bk (Ba (Aj (Bn (wm Z (wq Z (A6 Z Z Z Z B) (wa Z (Bk ?_)))))))))))))))))));exact F1 (c++[(sub s b a)]) (a+1) (a+1) V x ⟨A3 J l,R⟩ (Cc _) (sb Z) (pk [1,2])
  refine sk (Ba (Aj (Bn (wm Z (have ⟨C,L⟩:=cs K;wq Z (A6 Z Z Z Z C) (wa Z (Bk ?_)))))));exact F1 c b (a+1) d x ⟨A3 L l,j⟩ (Cc _) (sb Z) (pk [0,1])
 refine Cw (te (te (Am ?_)));exact Mw c b a d ⟨Bh N l,j⟩ (sb Z) (pk [0,1])
theorem Dx {B:Al}{s:List UInt8}{l:List Int}{r:List UInt8} (w:Ak) (g:B1 s l=some r) (c:Arr w B 1 (l.map Ar)) (J:Glb Tryz.prog w):Calls Tryz.prog 8 #[B5 s,B] w (fun e w'=>e=.returned (B5 r)∧Grow w w'):=by
 unfold B1 at g;refine have f:=D0 (w:=w);cw 24 Tryz.func8 Z (have W:=Xp J;sr (wa Z (nt (Au (sr (wa Z (nt ?_))))))) (Av f (D3 w));obtain⟨A,M,T,Q⟩:=bl g;refine B6 (dt [1] [0] Z) (fun (b:List UInt8) (a:Int)=>[(0,(true,B5 b)),(5,(true,i_ a))]) (fun b a=>[]) (fun b a m=>Cp (Er l) m (b,a)=some A) (fun b a=>A=.go (b,a)) s 0 T Q (sb Z) (pk [0]) ?_ ?_
 ·skip
  rintro b a rfl;refine Aj (sr (wm Z (wa Z (nt (A9 ?_)))));obtain rfl:=(Ad M).symm;exact Aw Z Z fun w j=>kg j
 rintro b a X o;obtain⟨z,a1,rfl,d,i⟩:=A0 o;unfold Er at d;simp only at d;refine Au (sr (wm Z (wm Z (wq Z (A5 Tryz.underlying43 Z Z c.lenMap) (wq Z (QV.lss Z Z Z Z) (nt ?_))))));refine wc Z d (fun H p=>?_) (fun H P=>?_)
 ·skip
  refine sk (Aj (Au (Cq (Au (sr (wm Z (wq Z (Sd Z Z Z Z) (nt ?_))))))));refine wc Z p (fun I q=>?_) (fun I u=>?_)
  ·skip
   refine Bn (wm Z ?_);obtain⟨C,k,t⟩:=cs2 q;refine wq Z (D4 Z Z Z Z C) (wa Z (nr (wm Z (wm Z (wm Z ?_)))));obtain⟨Y,x⟩:=c.lenMap.ix (sz:=1) Ao k;refine wq Z (Ae Xl Z Z Z Z x) (wl pl2 Z (cl 0 (Ai 0 Z f c) x k Z) ?_);obtain⟨U,R,K⟩:=An t;refine wq Z (QV.call en14 (ea Z) (fun w j=>have h:=Ac4 w R ;h)) ?_;refine have ⟨E,F,L⟩:=cs2 K;wq Z (D4 Z Z Z Z E) (wa Z (Bk (Ba (Aj (Bn (wm Z (wq Z (A6 Z Z Z Z F) (wa Z (Bk ?_)))))))));exact Bs ((b++[32])++U) (a+1) z (A3 L i) (Cc _) (sb Z) (pk [0])
  refine sk (Aj (Bn (wm Z (wm Z (wm Z ?_)))));obtain⟨n,v⟩:=cs u;obtain⟨a0,y⟩:=c.lenMap.ix (sz:=1) Ao n;refine wq Z (Ae Xl Z Z Z Z y) (wl pl2 Z (cl 0 (Ai 0 Z f c) y n Z) ?_);obtain⟨V,S,N⟩:=An v;refine wq Z (QV.call en14 (ea Z) (fun w j=>have h:=Ac4 w S ;h)) ?_;refine have ⟨c37,G,O⟩:=cs2 N;wq Z (D4 Z Z Z Z c37) (wa Z (Bk (Ba (Aj (Bn (wm Z (wq Z (A6 Z Z Z Z G) (wa Z (Bk ?_)))))))));exact Bs (b++V) (a+1) z (A3 O i) (Cc _) (sb Z) (pk [0])
 refine Cw (te (te (Am ?_)));exact Cm b a (Bh P i) (sb Z) (pk [0])
theorem W3 {s:List UInt8}{r:Int×Bool} (w:Ak) (j:Gf s=some r) :Calls Tryz.prog 9 #[B5 s] w (fun e w'=>e=.returned (.tuple #[.int .i64 r.1,.bool r.2])∧Grow w w'):=by
 unfold Gf at j;refine have B:=D0 (w:=w);cw 49 Tryz.func9 Z (sr (wa Z (wa Z (nt (Au (sr (wm Z (wq Z (Ki Tryz.underlying9 Z Z) (wq Z (QV.lss Z Z Z Z) (wm Z (gN Z (QV.move Z Z) (gn Z (fun a=>Ki Tryz.underlying9 Z a) (gn Z (fun a=>QV.gtr Z a Z Z) (wq Z (Bc Z Z Z (fun h=>Fm h)) (wm Z (gN Z (QV.move Z Z) (have ⟨c1,k⟩:=cs j;gn Z (fun a=>Ks Tryz.underlying9 Z a Z Z (c1 a)) (gn Z (fun a=>QV.eql Z a Z Z) (gn Z (fun a=>QV.move Z a) (gpC Z (fun a=>QV.move Z Z) (gpC Z (fun a=>Ki Tryz.underlying9 Z a) (gpC Z (fun a=>QV.gtr Z a Z Z) (gn Z (fun a=>A7 Z a Z (fun h=>Avh a h)) (wq Z (Bc Z Z Z (fun h=>Fm h)) (nt ?_))))))))))))))))))))))))) (Av B (D3 w));refine wc Z k (fun A I=>?_) (fun A n=>?_)
 ·skip
  refine sr (wa Z (wa Z (nt (A9 (tr ?_)))));obtain rfl:=(Ad I).symm;exact Eg Z Z Z fun w d=>kg d
 refine sk (Aj (sr (wa Z (nt (Au (sr (wa Z (nt ?_))))))));obtain⟨p,o,L,J⟩:=bl n;refine B6 (dt [0] [0] Z) (fun (c:Int) (b:Int)=>[(4,(true,i_ c)),(5,(true,i_ b))]) (fun c b=>[]) (fun c b m=>Cp (Dn s) m (c,b)=some p) (fun c b=>p=.go (c,b)) 0 0 L J (sb Z) (pk [0]) ?_ ?_
 ·skip
  rintro c b rfl;refine Aj (sr (wm Z (wa Z (wa Z (nt (A9 ?_))))));obtain rfl:=(Ad o).symm;exact Eg Z Z Z fun w d=>kg d
 rintro c b M i;obtain⟨K,N,rfl,f,g⟩:=A0 i;unfold Dn at f;simp only at f;refine Au (sr (wm Z (wm Z (wq Z (Ki Tryz.underlying9 Z Z) (wq Z (QV.lss Z Z Z Z) (nt ?_))))));refine wc Z f (fun y C=>?_) (fun y H=>?_)
 ·skip
  refine sk (Aj (Au (Cq (Au (sr (wm Z (wm Z (have ⟨q,c21,l⟩:=cs2 C;wq Z (Ks Tryz.underlying9 Z Z Z Z q) (wq Z (QV.lss Z Z Z Z) (wm Z (gN Z (QV.move Z Z) (gN Z (QV.move Z Z) (gn Z (fun a=>Ks Tryz.underlying9 Z a Z a (c21 a)) (gn Z (fun a=>QV.gtr Z a Z Z) (wq Z (Bc Z Z Z (fun h=>Fm h)) (nt ?_))))))))))))))));refine wc Z l (fun z E=>?_) (fun z F=>?_)
  ·skip
   refine sr (wa Z (wa Z (nt (A9 (tr (kr (tr (tr (kr (tr (tr ?_)))))))))));obtain rfl:=Dr E g;obtain rfl:=(Ad o).symm;exact Eg Z Z Z fun w d=>kg d
  refine sk (Aj (Bn (wm Z (have ⟨t,u,v,x,G⟩:=cs4 F;wq Z (QV.mul Z Z Z Z t) (wm Z (wm Z (wq Z (Ks Tryz.underlying9 Z Z Z Z u) (wq Z (Af4 Z Z Z Z) (wq Z (Rj Tryz.underlying3 Tryz.underlying5 Z Z) (wq Z (A6 Z Z Z Z v) (wa Z (Bk (Ba (Aj (Bn (wm Z (wq Z (A6 Z Z Z Z x) (wa Z (Bk ?_)))))))))))))))))));exact Bs ((10 * c)+(IntKind.i64.wrap (IntKind.u8.wrap (((ele s b).toNat:Int) - 48)))) (b+1) K (A3 G g) (Cc _) (sb Z) (pk [0])
 refine Cw (te (te (Am ?_)));exact Cm c b (Bh H g) (sb Z) (pk [0])
end Go.Proofs.YtaimbkndebaaiaaGreatDoor
end
section
namespace Go.Proofs.YtaimbkndebaaiaaGreatDoor
open Go.Rd
open TLib TLibR TLibA TSay TNum0 TNum TLoop TPar TStable TMach TMach2 TKern TClone TNbr TSeq TKRun TKeep TOrd TCpt TDep TSched1 TEmit TCheck TRegs TBound TMake TBuild TCheck2 TDrv TR14 TSaid
namespace TPla
theorem en11:Go.Rd.Enters Tryz.prog 11:=eT Tryz.func11
theorem en19:Go.Rd.Enters Tryz.prog 19:=eT Tryz.func19
theorem en39:Go.Rd.Enters Tryz.prog 39:=eT Tryz.func39
theorem en5:Go.Rd.Enters Tryz.prog 5:=eT Tryz.func5
theorem en8:Go.Rd.Enters Tryz.prog 8:=eT Tryz.func8
theorem en9:Go.Rd.Enters Tryz.prog 9:=eT Tryz.func9
theorem Yi:Cb Tryz.prog 29 0 0:=fT 6 Tryz.underlying29
theorem Ahi:Cb Tryz.prog 29 1 7:=fT 0 Tryz.underlying29
end TPla
open TPla
theorem Ri {N:Nat}{b4 b3 b5:Al}{g:Tgt}{a1:List UInt8}{l:Lp}{b0:Int}{r:List UInt8}{y:Ak} (a9:Du g a1 l b0=some r) (G:Arr y b4 1 (l.logs.map Ar)) (L:Arr y b3 9 (l.body.map Stm.cells)) (P:Arr y b5 1 (l.outs.map Ar)) (M:Nat→Prop) (w:Ak) (a4:GlbM Tryz.prog M w) (n:Base M y w) (j8:Own M w [blk N [.int .i64 g.u0,.int .i64 g.u1,.int .i64 g.u2,.int .i64 g.w0,.int .i64 g.w1,.int .i64 g.w2,.int .i64 g.regs,B5 a1] 29] w):Calls Tryz.prog 19 #[.pointer (some (⟨N,0,none⟩)),.agg #[b4,b3,b5],.int .i64 b0] w (fun e w'=>∃ X:Ak,e=.returned (B5 r)∧Own M w (kn M w.heap.size y X::[blk N [.int .i64 g.u0,.int .i64 g.u1,.int .i64 g.u2,.int .i64 g.w0,.int .i64 g.w1,.int .i64 g.w2,.int .i64 g.regs,B5 a1] 29]) w'∧True):=by
 unfold Du at a9;refine cw 132 Tryz.func19 Z (sr (Ab Z ((A4 Ah Z Z (fun b1=>wa Z (ns (wq Z (QV.build (ps:=[]) (cells:=[.slice none 0 0,.slice none 0 0]) eN Ag) (Ab Z ((B9 Ah Atf (fun b2=>Ab Z ((ew 0 [.slice none 0 0,.slice none 0 0] Axt Z (nt (Au (sr (wa Z (nt (F7 (fun w a=>a.vecNil (E:=43) (sz:=1) (enc:=Hy)) ?_))))))))))))))))))) (Av n j8);obtain⟨f8,e6,l2,i9⟩:=bl a9;refine O6 (dt [0,2,4,7] [2,4] Z) (fun (o:List (List Int)) (A:Int) (t:Al) (j:List (Al×List Int)) (q:Ak)=>[(8,(true,i_ A))]) (fun o A t j q=>[vec t 43 1 (List.map Hy j),blk b2 [t,.slice none 0 0] 104,kn M w.heap.size y q]) (fun o A t j q m=>Cp (Fk l) m (o,A)=some f8∧SliceLen t o.length∧j.map (·.2)=o∧RowsK q j∧Le y q) (fun o A t j q=>f8=.go (o,A)∧SliceLen t o.length∧j.map (·.2)=o∧RowsK q j∧Le y q) [] 0 (.slice none 0 0) [] y l2 ⟨i9,Gq,Z,Agd,(Ih _)⟩ (sb Z) (pk [0,1,3,2,4]) ?_ ?_
 ·skip
  rintro o A t j q ⟨rfl,d3,T,V,b⟩;refine Aj (Au (sr (wa Z (nt (F7 (fun w a=>a.vecNil (E:=43) (sz:=1) (enc:=Hy)) ?_)))));obtain⟨f7,d6,l1,i8⟩:=bl e6;refine O6 (dt [0,2,4,7] [1,4,5] Z) (fun (p:List (List Int)) (B:Int) (x:Al) (k:List (Al×List Int)) (z:Ak)=>[(9,(true,i_ B))]) (fun p B x k z=>[vec x 43 1 (List.map Hy k),blk b2 [t,x] 104,kn M w.heap.size y z]) (fun p B x k z m=>Cp (C1 l) m (p,B)=some f7∧SliceLen x p.length∧k.map (·.2)=p∧RowsK z k∧Le q z) (fun p B x k z=>f7=.go (p,B)∧SliceLen x p.length∧k.map (·.2)=p∧RowsK z k∧Le q z) [] 0 (.slice none 0 0) [] q l1 ⟨i8,Gq,Z,Agd,(Ih _)⟩ (sb Z) (pk [0,2,3,1,4,5]) ?_ ?_
  ·skip
   rintro p B x k z ⟨rfl,d4,U,W,c⟩;refine Aj (sr (wq Z (Af Fc Z Z Z (Ac 4 Z)) (wq Z (Af Aom Z Z Z (Ac 1 Z)) (wm Z (Ab Z (ep [2,3,0,1,4,5] Z (Sh n (fun k7 f j1=>?_))))))));have a2:RowsA k7 t o:=⟨j,T,Cj j1,(V.le (c.trans f))⟩;refine Sh n (fun k8 d j2=>?_);have c3:RowsA k8 x p:=⟨k,U,Cj j2,(W.le (f.trans d))⟩;obtain⟨m2,j9,d7⟩:=An d6;refine(cq n en40 Z (Aj6 j9 (G.le (((b.trans c).trans f).trans d)) (L.le (((b.trans c).trans f).trans d)) (P.le (((b.trans c).trans f).trans d)) (a2.le d) c3) Z (fun K a3 i=>wm Z (wq Z (Bi Z Z Z) (wq Z (Bi Z Z Z) (Ab Z ((B9 Ah Ate (fun b9=>Ab Z ((ex 0 [K.1,K.2.1] (show Ea _=List.toArray _ from Z) Ajq (oc (Cy a3.1.lenMap) (oc (Cy a3.2.slen) B3)) Z (wa Z (nt (Au (sr (wm Z (wq Z (QV.neq Z Z Z Z) (nt ?_)))))))))))))))));refine wc Z d7 (fun h0 i2=>?_) (fun h0 d8=>?_)
   ·skip
    refine sr (wa Z (nt (A9 (tr ?_))));obtain rfl:=(Ad i2).symm;refine Aw Z Z (fun w a=>?_);exact⟨K.2.2,Z,a.pick [1,4] Ah,trivial⟩
   refine sk (Aj (Au (dp 14 [1,0,2,3,4] Z (Yk 0 Ag (zq 0 0 1 Z (Af Fc Z Z Z (Ac 3 Z)) (zq 1 1 3 Z (QV.move Z Z) (zq 2 3 7 Z (QV.nilCheck Z Z) (zq 3 7 15 Z (QV.fieldAddr Yi Z Z) (zq 4 15 31 Z (Af Gn Z Z Z (cu 0 7 (Ac 4 Z) Z)) ?_)))))))));obtain⟨F,f4,d9⟩:=An d8;refine Af1 (fun u:Al×Al×Ak=>(Arr u.2.2 u.1 10 (F.1.ops.map Opr.cells)∧Arr u.2.2 u.2.1 1 (F.2.1.map Ar))∧Le K.2.2 u.2.2) (fun (Q:Nat) (u:Al×Al×Ak)=>[(0,(true,.pointer (some (⟨N,0,none⟩)))),(2,(true,i_ b0)),(4,(true,.pointer (some (⟨b1,0,none⟩)))),(7,(true,.pointer (some (⟨b2,0,none⟩)))),(11,(true,.pointer (some (⟨b9,0,none⟩)))),(13,(true,.pointer (some (⟨Q,0,none⟩)))),(14,(true,u.2.1)),(15,(true,i_ F.2.2))]) (fun (Q:Nat) (u:Al×Al×Ak)=>Own M w [blk Q [i_ F.1.pace,i_ F.1.stages,u.1] 60,kn M w.heap.size y u.2.2,blk b9 [K.1,K.2.1] 106,blk b2 [t,x] 104,blk b1 [b4,b3,b5] 47,blk N [i_ g.u0,i_ g.u1,i_ g.u2,i_ g.w0,i_ g.w1,i_ g.w2,i_ g.regs,B5 a1] 29]) ?_ ?_
   ·skip
    rintro Q u ⟨O,s⟩;refine Aj (Au (sr (wm Z (wq Z (QV.neq Z Z Z Z) (nt ?_)))));refine wc Z d9 (fun h1 i3=>?_) (fun h1 e0=>?_)
    ·skip
     refine sr (wa Z (nt (A9 (tr ?_))));obtain rfl:=(Ad i3).symm;refine Aw Z Z (fun w a=>?_);exact⟨u.2.2,Z,a.pick [1,5] Ah,trivial⟩
    refine sk (Aj (Au (dp 15 [1,0,2,3,4,5] Z (wz 0 Z Z (Af Fc Z Z Z (Ac 4 Z)) (zm 1 Z Z (wz 2 Z Z (QV.nilCheck Z Z) (zf 3 Yi Z Z (wz 4 Z Z (Af Gn Z Z Z (cu 0 7 (Ac 5 Z) Z)) (wz 5 Z Z (Af Ns Z Z Z (Ac 1 Z)) (zm 6 Z Z (zf 7 Pp Z Z (zl 8 Ko Z Z (Aq 3 Z Z) (Cx 9 Z Ag Z ?_)))))))))))));obtain⟨m3,k0,e1⟩:=An e0;refine(cr [1,0,2,3,4,5] n en41 Z (Aak k0 (G.le (((((b.trans c).trans f).trans d).trans i).trans s)) (L.le (((((b.trans c).trans f).trans d).trans i).trans s)) (P.le (((((b.trans c).trans f).trans d).trans i).trans s)) O.1 O.2 (a2.le ((d.trans i).trans s))) Z (fun l3 h4 v=>bp [0,1,2,3,4,5] Z (fun w a=>C8 v (((((b.trans c).trans f).trans d).trans i).trans s) (a.pick [0,1,2,3,4,5] Ah)) (zm 10 Z Z (wz 11 Z Z (Bi Z Z Z) (wz 12 Z Z (Bi Z Z Z) (wz 13 Z Z (QV.assign Z Z) (wz 14 Z Z (QV.assign Z Z) (Eh Ag (Aj (Au (dq 17 (zm 0 Z Z (wz 1 Z Z (QV.nilCheck Z Z) (zf 2 Yi Z Z (wz 3 Z Z (Af Gn Z Z Z (cu 0 7 (Ac 5 Z) Z)) (wz 4 Z Z (Af Ns Z Z Z (Ac 1 Z)) (zm 5 Z Z (zf 6 R6 Z Z (zl 7 Ko Z Z (Aq 3 Z Z) (zm 8 Z Z (Cx 9 Z Ag Z ?_)))))))))))))))))))));obtain⟨m4,k1,e2⟩:=An e1;refine(cq n en42 Z (Ac0 k1 (O.1.le v) h4 (c3.le ((i.trans s).trans v))) Z (fun l4 h5 C=>bp [0,1,2,3,4,5] Z (fun w a=>C8 C ((((((b.trans c).trans f).trans d).trans i).trans s).trans v) (a.pick [0,1,2,3,4,5] Ah)) (zm 10 Z Z (wz 11 Z Z (Bi Z Z Z) (wz 12 Z Z (Bi Z Z Z) (wz 13 Z Z (Bi Z Z Z) (wz 14 Z Z (QV.assign Z Z) (wz 15 Z Z (QV.assign Z Z) (wz 16 Z Z (QV.assign Z Z) (Eh Ag (Aj (Au (dq 17 (wz 0 Z Z (Af Fc Z Z Z (Ac 4 Z)) (zm 1 Z Z (wz 2 Z Z (QV.nilCheck Z Z) (zf 3 Yi Z Z (wz 4 Z Z (Af Gn Z Z Z (cu 0 7 (Ac 5 Z) Z)) (wz 5 Z Z (Af Ns Z Z Z (Ac 1 Z)) (zm 6 Z Z (zf 7 Pp Z Z (zl 8 Ko Z Z (Aq 3 Z Z) (zm 9 Z Z (zm 10 Z Z (Cx 11 Z Ag Z ?_)))))))))))))))))))))))));obtain⟨m5,k2,e3⟩:=An e2;refine(cq n en43 Z (Aaj k2 (G.le (((((((b.trans c).trans f).trans d).trans i).trans s).trans v).trans C)) (L.le (((((((b.trans c).trans f).trans d).trans i).trans s).trans v).trans C)) (P.le (((((((b.trans c).trans f).trans d).trans i).trans s).trans v).trans C)) (O.1.le (v.trans C)) (O.2.le (v.trans C)) (a2.le ((((d.trans i).trans s).trans v).trans C)) h5.1) Z (fun b6 c5 d0=>bp [0,1,2,3,4,5] Z (fun w a=>C8 d0 (((((((b.trans c).trans f).trans d).trans i).trans s).trans v).trans C) (a.pick [0,1,2,3,4,5] Ah)) (zm 12 Z Z (wz 13 Z Z (Bi Z Z Z) (wz 14 Z Z (Bi Z Z Z) (wz 15 Z Z (QV.assign Z Z) (wz 16 Z Z (QV.assign Z Z) (Eh Ag (Aj (sr (wf Afx Z (wl Ty Z (Aq 2 Z Z) ?_))))))))))));obtain⟨m6,k3,e4⟩:=An e3;refine wq Z (QV.call en8 (ea Z) (fun w a=>have h:=Dx w k3 ((Ai 0 Z n (a3.1.le (((s.trans v).trans C).trans d0))) w a) (a4.at a);h)) ?_;refine wa Z (nt (Au (sr (wm Z (wq Z (Sd Z Z Z Z) (nt ?_))))));refine wc Z e4 (fun h2 i4=>?_) (fun h2 i6=>?_)
    ·skip
     refine Bn (wm Z (have ⟨c51,c53,e5⟩:=cs2 i4;wq Z (D4 Z Z Z Z c51) (wa Z (ns (wm Z (wq Z (D4 Z Z Z Z c53) (wm Z ?_)))))));obtain⟨m7,k4,i5⟩:=An e5;refine wq Z (QV.call en8 (ea Z) (fun w a=>have h:=Dx w k4 ((Ai 0 Z n c5) w a) (a4.at a);h)) ?_;refine wa Z (nt (A9 ?_));obtain rfl:=(Ad i5).symm;refine Aw Z Z (fun w a=>?_);exact⟨b6.2,Z,a.pick [0,5] Ah,trivial⟩
    refine sk (Aj (sr (wm Z (have ⟨g6,e7⟩:=cs i6;wq Z (D4 Z Z Z Z g6) (wm Z ?_)))));obtain⟨m8,k5,i7⟩:=An e7;refine wq Z (QV.call en8 (ea Z) (fun w a=>have h:=Dx w k5 ((Ai 0 Z n c5) w a) (a4.at a);h)) ?_;refine wa Z (nt (A9 ?_));obtain rfl:=(Ad i7).symm;refine Aw Z Z (fun w a=>?_);exact⟨b6.2,Z,a.pick [0,5] Ah,trivial⟩
   refine WD.two 5 10 31 63 1055 Ag Z Z Z Z Ag Ag ?_ ?_
   ·skip
    refine(cr [1,0,2,3,4] n An3 Z (Ia f4 (G.le ((((b.trans c).trans f).trans d).trans i)) (L.le ((((b.trans c).trans f).trans d).trans i)) (P.le ((((b.trans c).trans f).trans d).trans i))) Z (fun b7 c6 d1=>bp [0,1,2,3,4] Z (fun w a=>C8 d1 ((((b.trans c).trans f).trans d).trans i) (a)) (zq 6 63 127 Z (QV.move Z Z) (zq 7 127 255 Z (Bi Z Z Z) (zq 8 255 511 Z (Bi Z Z Z) (zq 9 511 1023 Z (Bi Z Z Z) (Hz 10 1023 2047 Z Ag Z ((B9 Ah Aal (fun g1=>bp [1,2,3,4,5] Z sm (Hz 11 2047 4095 Z Ag Z ((ex 0 [i_ F.1.pace,i_ F.1.stages,b7.1] (show Ea _=List.toArray _ from Z) Tx (oc Z (oc Z (oc (Cy c6.1.lenMap) B3))) Z (bp [1,2,3,4,5] Z sm (zq 12 4095 8191 Z (QV.assign Z Z) (zq 13 8191 16383 Z (QV.assign Z Z) (Up Ag ?_)))))))))))))))));exact Md g1 b7 ⟨c6,d1⟩ (sb Z) (pk [0,1,2,3,4,5])
   refine(B9 Ah Aal (fun g2=>bp [2,1,3,4,5] Z sm (Hz 5 1055 1087 Z Ag Z ((cr [2,0,1,3,4,5] n An3 Z (Ia f4 (G.le ((((b.trans c).trans f).trans d).trans i)) (L.le ((((b.trans c).trans f).trans d).trans i)) (P.le ((((b.trans c).trans f).trans d).trans i))) Z (fun b8 c7 d2=>bp [0,2,3,4,5] Z (fun w a=>C8 d2 ((((b.trans c).trans f).trans d).trans i) (a)) (zq 6 1087 1151 Z (QV.move Z Z) (zq 7 1151 1279 Z (Bi Z Z Z) (zq 8 1279 1535 Z (Bi Z Z Z) (zq 9 1535 2047 Z (Bi Z Z Z) (Hz 11 2047 4095 Z Ag Z ((ex 1 [i_ F.1.pace,i_ F.1.stages,b8.1] (show Ea _=List.toArray _ from Z) Tx (oc Z (oc Z (oc (Cy c7.1.lenMap) B3))) Z (bp [0,2,3,4,5] Z sm (zq 12 4095 8191 Z (QV.assign Z Z) (zq 13 8191 16383 Z (QV.assign Z Z) (Up Ag ?_)))))))))))))))));exact Md g2 b8 ⟨c7,d2⟩ (sb Z) (pk [1,0,2,3,4,5])
  rintro p B x k z l8 ⟨c9,d4,U,W,c⟩;obtain⟨l0,m1,rfl,a0,f2⟩:=A0 c9;unfold C1 at a0;simp only at a0;refine Au (sr (wm Z (wf Pm Z (wl Fl Z (Aq 4 Z Z) (wq Z (A5 Tryz.underlying34 Z Z (G.le (b.trans c)).lenMap) (wq Z (QV.lss Z Z Z Z) (nt ?_)))))));refine wc Z a0 (fun h3 e8=>?_) (fun h3 h9=>?_)
  ·skip
   refine sk (Aj (Au (Cq (sr (wf Pm Z (wl Fl Z (Aq 4 Z Z) (wm Z ?_)))))));obtain⟨c76,e9⟩:=cs e8;obtain⟨l9,f3⟩:=(G.le (b.trans c)).lenMap.ix (sz:=1) Ao c76;refine wq Z (Ae Fs Z Z Z Z f3) (wl pl3 Z (cl 0 (Ai 2 Z n (G.le (b.trans c))) f3 c76 Z) ?_);obtain⟨H,k6,f0⟩:=An e9;refine wq Z (QV.call en39 (ea Z) (fun w a=>have h:=Aw5 w k6 ;h)) ?_;refine wa Z (nt (dp 8 [2,1,3,4,5] Z (zf 0 R6 Z Z (zl 1 Ko Z Z (Aq 1 Z Z) (zm 2 Z Z (Cx 3 Z Ag Z ?_))))));obtain⟨g7,c85,c1,g8,h8⟩:=cs4 f0;refine(Ael (enc:=Ar) (0:Int) Ah Aam ze2 Z Z g7 Z c85 (fun J j6=>bp [3,2,4,5,6] Z (pk [0,1,2,3,4]) (Cx 4 Z Ag Z ((Di Ah Aa1 Ah Ah (ps:=[(0,.tmp 54)]) (cells:=[J]) (ea Z) (Wd j6) (fun l6=>bp [4,0,3,5,6,7] Z (pk [0,2,3,4,5]) (Cx 5 Z Ag Z (ep [4,1,0,2,3,5,6,7] Z (Sh n (fun f6 a8 j3=>?_))))))))));have c4:=Cj j3;have h7:RowsK f6 (k++[(J,(List.replicate H.toNat (0:Int)))]):=Vb (W.le a8) c4;have S:((k++[(J,(List.replicate H.toNat (0:Int)))]):List (Al×List Int)).map (·.2)=(p++[(List.replicate H.toNat (0:Int))]):=Yo U;refine(Bt (enc:=Hy) (xs:=k) (ys:=[(J,(List.replicate H.toNat (0:Int)))]) (k++[(J,(List.replicate H.toNat (0:Int)))]) 2 Ah Agh Z Z Z Z Z (Bb 1 (rows:=[(J,(List.replicate H.toNat (0:Int)))].map Hy) Z Z (Bq Jf)) Jf (Ab8 c4.lenMap) Z (AL.b1 S c1) (AL.b2 S c1) (fun g0 j7=>have a6:=Uw S j7;bp [0,1,2,3,4,5,6] Z (fun w a=>C8 a8 (b.trans c) (a.pick [0,1,3,4,5,6] Ah)) (zf 6 R6 Z Z (Ig 7 Z Ag Z ((ex 3 [g0] (Hr a6) Ajr (oc (Cy a6) B3) Z (Ba (Aj (Bn (wm Z (wq Z (A6 Z Z Z Z g8) (wa Z (Bk ?_)))))))))))));exact O5 (p++[(List.replicate H.toNat (0:Int))]) (B+1) g0 (k++[(J,(List.replicate H.toNat (0:Int)))]) f6 l0 ⟨A3 h8 f2,a6,S,h7,(c.trans a8)⟩ (Cc _) (sb Z) (pk [2,3,0,4,5,6])
  refine Cw (te (te (Am ?_)));exact Tm p B x k z ⟨Bh h9 f2,d4,U,W,c⟩ (sb Z) (pk [0,1,2,3,4,5])
 rintro o A t j q l7 ⟨c8,d3,T,V,b⟩;obtain⟨k9,m0,rfl,Y,f1⟩:=A0 c8;unfold Fk at Y;simp only at Y;refine Au (sr (wm Z (wf Ds Z (wl J3 Z (Aq 3 Z Z) (wq Z (A5 Tryz.underlying45 Z Z (L.le b).lenMap) (wq Z (QV.lss Z Z Z Z) (nt ?_)))))));refine wc Z Y (fun g9 d5=>?_) (fun g9 i1=>?_)
 ·skip
  refine sk (Aj (Au (Cq (dp 7 [2,1,3,4] Z (zf 0 Pp Z Z (zl 1 Ko Z Z (Aq 1 Z Z) (Cx 2 Z Ag Z ?_)))))));obtain⟨g3,g4,c0,g5,i0⟩:=cs4 d5;refine(Ael (enc:=Ar) (0:Int) Ah Aam ze2 Z Z g3 Z g4 (fun I j4=>bp [3,2,4,5] Z (pk [0,1,2,3]) (Cx 3 Z Ag Z ((Di Ah Aa1 Ah Ah (ps:=[(0,.tmp 34)]) (cells:=[I]) (ea Z) (Wd j4) (fun l5=>bp [4,0,3,5,6] Z (pk [0,2,3,4]) (Cx 4 Z Ag Z (ep [4,1,0,2,3,5,6] Z (Sh n (fun f5 a7 j0=>?_))))))))));have c2:=Cj j0;have h6:RowsK f5 (j++[(I,(List.replicate (3:Int).toNat (0:Int)))]):=Vb (V.le a7) c2;have R:((j++[(I,(List.replicate (3:Int).toNat (0:Int)))]):List (Al×List Int)).map (·.2)=(o++[(List.replicate (3:Int).toNat (0:Int))]):=Yo T;refine(Bt (enc:=Hy) (xs:=j) (ys:=[(I,(List.replicate (3:Int).toNat (0:Int)))]) (j++[(I,(List.replicate (3:Int).toNat (0:Int)))]) 2 Ah Agh Z Z Z Z Z (Bb 1 (rows:=[(I,(List.replicate (3:Int).toNat (0:Int)))].map Hy) Z Z (Bq Jf)) Jf (Ab8 c2.lenMap) Z (AL.b1 R c0) (AL.b2 R c0) (fun f9 j5=>have a5:=Uw R j5;bp [0,1,2,3,4,5] Z (fun w a=>C8 a7 b (a.pick [0,1,3,4,5] Ah)) (zf 5 Pp Z Z (Ig 6 Z Ag Z ((ex 3 [f9] (Hr a5) Ajr (oc (Cy a5) B3) Z (Ba (Aj (Bn (wm Z (wq Z (A6 Z Z Z Z g5) (wa Z (Bk ?_)))))))))))));exact O5 (o++[(List.replicate (3:Int).toNat (0:Int))]) (A+1) f9 (j++[(I,(List.replicate (3:Int).toNat (0:Int)))]) f5 k9 ⟨A3 i0 f1,a5,R,h6,(b.trans a7)⟩ (Cc _) (sb Z) (pk [2,3,0,4,5])
 refine Cw (te (te (Am ?_)));exact Tm o A t j q ⟨Bh i1 f1,d3,T,V,b⟩ (sb Z) (pk [0,1,2,3,4])
theorem La {q:Nat}{b:Tgt}{t word:List UInt8}{b0:Int}{r:List UInt8}{v:Ak} (y:Bo b t word b0=some r)  (M:Nat→Prop) (w:Ak) (n:GlbM Tryz.prog M w) (i:Base M v w) (d8:Own M w [blk q [.int .i64 b.u0,.int .i64 b.u1,.int .i64 b.u2,.int .i64 b.w0,.int .i64 b.w1,.int .i64 b.w2,.int .i64 b.regs,B5 t] 29] w):Calls Tryz.prog 11 #[.pointer (some (⟨q,0,none⟩)),B5 word,.int .i64 b0] w (fun e w'=>∃ X:Ak,e=.returned (B5 r)∧Own M w (kn M w.heap.size v X::[blk q [.int .i64 b.u0,.int .i64 b.u1,.int .i64 b.u2,.int .i64 b.w0,.int .i64 b.w1,.int .i64 b.w2,.int .i64 b.regs,B5 t] 29]) w'∧True):=by
 unfold Bo at y;refine cw 119 Tryz.func11 Z (sr (wa Z (ns (wm Z (wq Z (QV.nilCheck Z Z) (wf Ahi Z (wl pl9 Z (Aq 1 Z Z) (Ab Z ?_)))))))) (Av i d8);obtain⟨o,e1,R⟩:=An y;refine(cqG n i en15 Z (Acv e1) Z (fun j d x=>wm Z (wq Z (Bi Z Z Z) (wq Z (Bi Z Z Z) (Ab Z ((B9 Ah A1l (fun b5=>Ab Z ((B9 Ah ze50 (fun b6=>Ab Z ((ex 1 [j.1,j.2.1,j.2.2.1] (show Ea _=List.toArray _ from Z) Au6 (oc (Cy d.1.lenMap) (oc (Cy d.2.1.lenMap) (oc (Cy d.2.2.lenMap) B3))) Z (Ab Z ((ew 0 [i_ o.2.code,i_ o.2.at'] Axl Z (nt (Au (sr (wf Ay9 Z (wl pl48 Z (Aq 0 Z Z) (wq Z (QV.neq Z Z Z Z) (nt ?_)))))))))))))))))))))));refine wc Z R (fun c5 a3=>?_) (fun c5 K=>?_)
 ·skip
  refine sr (wf Ay8 Z (wl pl3 Z (Aq 0 Z Z) (Ab Z ((Di Ah Ru Ah Ah (ps:=[(0,.tmp 31)]) (cells:=[i_ o.2.at']) (ea Z) Ag (fun f6=>?_))))));obtain⟨g5,d9,c8⟩:=An a3;refine wq Z (QV.call en8 (ea Z) (fun w a=>have h:=Dx w d9 ((Bb 0 (rows:=[o.2.at'].map Ar) Z Z (Bq Bd)) w a) (n.at a);h)) ?_;refine wa Z (nt (A9 (tr ?_)));obtain rfl:=(Ad c8).symm;refine Aw Z Z (fun w a=>?_);exact⟨j.2.2.2,Z,a.pick [3,4] Ah,trivial⟩
 refine sk (Aj (Au (sr (wm Z (nt (Cq (sr (wq Z (C4 Z Z Z Z) (wa Z (nt ?_))))))))));refine wc Z K (fun c0 L=>?_) (fun c0 O=>?_)
 ·skip
  refine Au (dp 11 [2,0,1,3] Z (wz 0 Z Z (Af Fc Z Z Z (Ac 2 Z)) (zm 1 Z Z (wz 2 Z Z (QV.nilCheck Z Z) (zf 3 Yi Z Z (wz 4 Z Z (Af Gn Z Z Z (cu 0 7 (Ac 3 Z) Z)) (Cx 5 Z Ag Z ?_)))))));obtain⟨b2,e0,N⟩:=An L;refine(cr [2,0,1,3] i Avf Z (Pd e0 d.1 d.2.1 d.2.2) Z (fun b3 c6 c7=>bp [0,1,2,3] Z (fun w a=>C8 c7 x (a.pick [0,1,2,3] Ah)) (zm 6 Z Z (wz 7 Z Z (Bi Z Z Z) (wz 8 Z Z (Bi Z Z Z) (wz 9 Z Z (QV.assign Z Z) (wz 10 Z Z (QV.assign Z Z) (Eh Ag (Aj (sr (wm Z (wq Z (A5 Tryz.underlying53 Z Z c6.lenMap) (Ab Z ((Di Ah Ru Ah Ah (ps:=[(0,.tmp 47)]) (cells:=[i_ (ln b2.1)]) (ea Z) Ag (fun f2=>?_))))))))))))))));obtain⟨g6,e2,c9⟩:=An N;refine wq Z (QV.call en8 (ea Z) (fun w a=>have h:=Dx w e2 ((Bb 0 (rows:=[(ln b2.1)].map Ar) Z Z (Bq Bd)) w a) (n.at a);h)) ?_;refine wa Z (nt (A9 (kr (tr ?_))));obtain rfl:=(Ad c9).symm;refine Aw Z Z (fun w a=>?_);exact⟨b3.2,Z,a.pick [1,4] Ah,trivial⟩
 refine sr (wq Z (C4 Z Z Z Z) (wa Z (nt ?_)));refine wc Z O (fun c1 P=>?_) (fun c1 S=>?_)
 ·skip
  refine Au (dp 13 [2,0,1,3] Z (wz 0 Z Z (Af Fc Z Z Z (Ac 2 Z)) (zm 1 Z Z (wz 2 Z Z (QV.nilCheck Z Z) (zf 3 Yi Z Z (wz 4 Z Z (Af Gn Z Z Z (cu 0 7 (Ac 3 Z) Z)) ?_))))));obtain⟨u,e3,Q⟩:=An P;refine wz 5 Z Z (QV.call en17 (ea Z) (fun w a=>have h:=Ui w e3 ((Ai 0 Z i d.1) w a) ((Ai 0 Z i d.2.1) w a) ((Ai 0 Z i d.2.2) w a);h)) ?_;refine zm 6 Z Z (wz 7 Z Z (Bi Z Z Z) (wz 8 Z Z (Bi Z Z Z) (wz 9 Z Z (Bi Z Z Z) (wz 10 Z Z (QV.assign Z Z) (wz 11 Z Z (QV.assign Z Z) (wz 12 Z Z (QV.assign Z Z) (Eh Ag (Aj (sr (wm Z (wm Z (Ab Z ((Di Ah Ru Ah Ah (ps:=[(0,.tmp 62),(1,.tmp 63)]) (cells:=[i_ u.1,i_ u.2.1]) (ea Z) Ag (fun f3=>?_)))))))))))))));obtain⟨g7,e4,d0⟩:=An Q;refine wq Z (QV.call en8 (ea Z) (fun w a=>have h:=Dx w e4 ((Bb 0 (rows:=[u.1,u.2.1].map Ar) Z Z (Bq Bd)) w a) (n.at a);h)) ?_;refine wa Z (nt (A9 (kr (tr ?_))));obtain rfl:=(Ad d0).symm;refine Aw Z Z (fun w a=>?_);exact⟨j.2.2.2,Z,a.pick [3,4] Ah,trivial⟩
 refine sr (wq Z (C4 Z Z Z Z) (wa Z (nt ?_)));refine wc Z S (fun c2 T=>?_) (fun c2 a4=>?_)
 ·skip
  refine Au (dp 14 [2,0,1,3] Z (Yk 0 Ag (zq 0 0 1 Z (Af Fc Z Z Z (Ac 2 Z)) (zq 1 1 3 Z (QV.move Z Z) (zq 2 3 7 Z (QV.nilCheck Z Z) (zq 3 7 15 Z (QV.fieldAddr Yi Z Z) (zq 4 15 31 Z (Af Gn Z Z Z (cu 0 7 (Ac 3 Z) Z)) ?_)))))));obtain⟨c,a9,U⟩:=An T;refine Af1 (fun g:Al×Al×Ak=>(Arr g.2.2 g.1 10 (c.1.ops.map Opr.cells)∧Arr g.2.2 g.2.1 1 (c.2.1.map Ar))∧Le j.2.2.2 g.2.2) (fun (p:Nat) (g:Al×Al×Ak)=>[(14,(true,.pointer (some (⟨p,0,none⟩)))),(16,(true,i_ c.2.2))]) (fun (p:Nat) (g:Al×Al×Ak)=>Own M w [blk p [i_ c.1.pace,i_ c.1.stages,g.1] 60,kn M w.heap.size v g.2.2,blk b6 [i_ o.2.code,i_ o.2.at'] 50,blk b5 [j.1,j.2.1,j.2.2.1] 47,blk q [i_ b.u0,i_ b.u1,i_ b.u2,i_ b.w0,i_ b.w1,i_ b.w2,i_ b.regs,B5 t] 29]) ?_ ?_
  ·skip
   rintro p g ⟨l,f8⟩;refine Aj (Au (sr (wm Z (wq Z (QV.neq Z Z Z Z) (nt ?_)))));refine wc Z U (fun c3 d1=>?_) (fun c3 V=>?_)
   ·skip
    refine sr (wa Z (nt (A9 (tr (kr (tr ?_))))));obtain rfl:=(Ad d1).symm;refine Aw Z Z (fun w a=>?_);exact⟨g.2.2,Z,a.pick [1,4] Ah,trivial⟩
   refine sk (Aj (sr (wf Uf Z (wl pl3 Z (Aq 0 Z Z) (wf Yf Z (wl pl3 Z (Aq 0 Z Z) (Ab Z ((Di Ah Ru Ah Ah (ps:=[(0,.tmp 81),(1,.tmp 83)]) (cells:=[i_ c.1.pace,i_ c.1.stages]) (ea Z) Ag (fun f4=>?_))))))))));obtain⟨f0,e5,W⟩:=An V;refine wq Z (QV.call en8 (ea Z) (fun w a=>have h:=Dx w e5 ((Bb 0 (rows:=[c.1.pace,c.1.stages].map Ar) Z Z (Bq Bd)) w a) (n.at a);h)) ?_;refine wa Z (nt (Au (sr (wa Z (nt ?_)))));obtain⟨b1,d2,e9,d7⟩:=bl W;refine B6 (dt [14] [0,1,2,3,4,5] Z) (fun (k:List UInt8) (f:Int)=>[(17,(true,B5 k)),(18,(true,i_ f))]) (fun k f=>[]) (fun k f m=>Cp (C2 c) m (k,f)=some b1) (fun k f=>b1=.go (k,f)) f0 0 e9 d7 (sb Z) (pk [0,1,2,3,4,5]) ?_ ?_
   ·skip
    rintro k f rfl;refine Aj (sr (wm Z (wa Z (nt (A9 (kr (tr ?_)))))));obtain rfl:=(Ad d2).symm;refine Aw Z Z (fun w a=>?_);exact⟨g.2.2,Z,a.pick [2,5] Ah,trivial⟩
   rintro k f g0 H;obtain⟨e8,g4,rfl,s,a5⟩:=A0 H;unfold C2 at s;simp only at s;refine Au (sr (wm Z (wf Oq Z (wl Abp Z (Aq 1 Z Z) (wq Z (A5 Tryz.underlying58 Z Z l.1.lenMap) (wq Z (QV.lss Z Z Z Z) (nt ?_)))))));refine wc Z s (fun c4 Y=>?_) (fun c4 d5=>?_)
   ·skip
    refine sk (Aj (Au (Cq (dp 22 [2,0,1,3,4,5] Z (zm 0 Z Z (zf 1 Oq Z Z (zl 2 Abp Z Z (Aq 2 Z Z) (zm 3 Z Z ?_))))))));obtain⟨B,a0⟩:=cs Y;obtain⟨g1,a6⟩:=l.1.lenMap.ix (sz:=10) Ao B;refine wz 4 Z Z (Ae An0 Z Z Z Z a6) (zf 5 Aa8 Z Z (zl 6 pl3 Z Z (cl 0 (Ai 0 Z i l.1) a6 B Z) (zf 7 Oq Z Z (zl 8 Abp Z Z (Aq 2 Z Z) (zm 9 Z Z ?_)))));obtain⟨C,a1⟩:=cs a0;obtain⟨g2,a7⟩:=l.1.lenMap.ix (sz:=10) Ao C;refine wz 10 Z Z (Ae An0 Z Z Z Z a7) (zf 11 Ue Z Z (zl 12 pl3 Z Z (cl 1 (Ai 0 Z i l.1) a7 C Z) (zf 13 Oq Z Z (zl 14 Abp Z Z (Aq 2 Z Z) (zm 15 Z Z ?_)))));obtain⟨E,a2⟩:=cs a1;obtain⟨g3,a8⟩:=l.1.lenMap.ix (sz:=10) Ao E;refine wz 16 Z Z (Ae An0 Z Z Z Z a8) (zf 17 Uc Z Z (zl 18 pl3 Z Z (cl 3 (Ai 0 Z i l.1) a8 E Z) (Cx 19 Z Ag Z ((Di Ah Ru Ah Ah (ps:=[(0,.tmp 99),(1,.tmp 105),(2,.tmp 111)]) (cells:=[i_ ((ele c.1.ops f).slot),i_ ((ele c.1.ops f).stage),i_ ((ele c.1.ops f).dest)]) (ea Z) Ag (fun f5=>bp [3,0,1,2,4,5,6] Z (pk [0,2,3,4,5,6]) ?_))))));obtain⟨f1,e6,d3⟩:=An a2;refine wz 20 Z Z (QV.call en8 (ea Z) (fun w a=>have h:=Dx w e6 ((Bb 1 (rows:=[(ele c.1.ops f).slot,(ele c.1.ops f).stage,(ele c.1.ops f).dest].map Ar) Z Z (Bq Bd)) w a) (n.at a);h)) ?_;refine wz 21 Z Z (QV.assign Z Z) (Eh Ag (Ba (Aj (Bn (wm Z (have ⟨b9,d4⟩:=cs d3;wq Z (A6 Z Z Z Z b9) (wa Z (Bk ?_))))))));exact Bs f1 (f+1) e8 (A3 d4 a5) (Cc _) (sb Z) (pk [1,2,3,4,5,6])
   refine Cw (te (te (Am ?_)));exact Cm k f (Bh d5 a5) (sb Z) (pk [0,1,2,3,4,5])
  refine WD.two 5 10 31 63 1055 Ag Z Z Z Z Ag Ag ?_ ?_
  ·skip
   refine(cr [2,0,1,3] i An3 Z (Ia a9 d.1 d.2.1 d.2.2) Z (fun z F I=>bp [0,1,2,3] Z (fun w a=>C8 I x (a)) (zq 6 63 127 Z (QV.move Z Z) (zq 7 127 255 Z (Bi Z Z Z) (zq 8 255 511 Z (Bi Z Z Z) (zq 9 511 1023 Z (Bi Z Z Z) (Hz 10 1023 2047 Z Ag Z ((B9 Ah Aal (fun b7=>bp [1,2,3,4] Z sm (Hz 11 2047 4095 Z Ag Z ((ex 0 [i_ c.1.pace,i_ c.1.stages,z.1] (show Ea _=List.toArray _ from Z) Tx (oc Z (oc Z (oc (Cy F.1.lenMap) B3))) Z (bp [1,2,3,4] Z sm (zq 12 4095 8191 Z (QV.assign Z Z) (zq 13 8191 16383 Z (QV.assign Z Z) (Up Ag ?_)))))))))))))))));exact Md b7 z ⟨F,I⟩ (sb Z) (pk [0,1,2,3,4])
  refine(B9 Ah Aal (fun b8=>bp [3,1,2,4] Z sm (Hz 5 1055 1087 Z Ag Z ((cr [3,0,1,2,4] i An3 Z (Ia a9 d.1 d.2.1 d.2.2) Z (fun A G J=>bp [0,2,3,4] Z (fun w a=>C8 J x (a)) (zq 6 1087 1151 Z (QV.move Z Z) (zq 7 1151 1279 Z (Bi Z Z Z) (zq 8 1279 1535 Z (Bi Z Z Z) (zq 9 1535 2047 Z (Bi Z Z Z) (Hz 11 2047 4095 Z Ag Z ((ex 1 [i_ c.1.pace,i_ c.1.stages,A.1] (show Ea _=List.toArray _ from Z) Tx (oc Z (oc Z (oc (Cy G.1.lenMap) B3))) Z (bp [0,2,3,4] Z sm (zq 12 4095 8191 Z (QV.assign Z Z) (zq 13 8191 16383 Z (QV.assign Z Z) (Up Ag ?_)))))))))))))))));exact Md b8 A ⟨G,J⟩ (sb Z) (pk [1,0,2,3,4])
 refine sk (Ba (Aj (sr (wm Z (wq Z (Af Fc Z Z Z (Ac 1 Z)) (wm Z (Ab Z ?_)))))));obtain⟨g8,e7,d6⟩:=An a4;refine(crG [2,3,0,1] n i en19 Z (Ri e7 d.1 d.2.1 d.2.2) Z (fun b4 f7 f9=>wa Z (nt (A9 ?_))));obtain rfl:=(Ad d6).symm;refine Aw Z Z (fun w a=>?_);exact⟨b4,Z,a.pick [0,1] Ah,trivial⟩
theorem Sa {y:Nat}{k:Tgt}{p s:List UInt8}{r:List UInt8×Tgt×List UInt8}{t:Ak} (R:Dc k p s=some r)  (M:Nat→Prop) (w:Ak) (B:GlbM Tryz.prog M w) (o:Base M t w) (g9:Own M w [blk y [.int .i64 k.u0,.int .i64 k.u1,.int .i64 k.u2,.int .i64 k.w0,.int .i64 k.w1,.int .i64 k.w2,.int .i64 k.regs,B5 p] 29] w):Calls Tryz.prog 6 #[.pointer (some (⟨y,0,none⟩)),B5 s] w (fun e w'=>∃ X:Ak,e=.returned (B5 r.1)∧Own M w (kn M w.heap.size t X::[blk y [.int .i64 r.2.1.u0,.int .i64 r.2.1.u1,.int .i64 r.2.1.u2,.int .i64 r.2.1.w0,.int .i64 r.2.1.w1,.int .i64 r.2.1.w2,.int .i64 r.2.1.regs,B5 r.2.2] 29]) w'∧True):=by
 unfold Dc at R;refine cw 131 Tryz.func6 Z (sr (wa Z (nt (Au (sr (wm Z (wq Z (Ki Tryz.underlying9 Z Z) (wq Z (QV.geq Z Z Z Z) (wm Z (gP Z (QV.move Z Z) (have ⟨c1,a0⟩:=cs R;gp Z (fun g=>A3y Tryz.underlying9 Z g Z Z (c1 g)) (gp Z (fun g=>C4 Z g Z Z) (wq Z (A7 Z Z Z (fun h=>h)) (nt ?_)))))))))))))) (Av o g9);refine wc Z a0 (fun e4 a5=>?_) (fun e4 W=>?_)
 ·skip
  refine Au (dq 12 (zm 0 Z Z (zm 1 Z Z (wz 2 Z Z (QV.nilCheck Z Z) (zf 3 Ahi Z Z (zl 4 pl9 Z Z (Aq 1 Z Z) (zm 5 Z Z ?_)))))));obtain⟨c5,c7,c9,S⟩:=cs3 a5;refine wz 6 Z Z (A3x Tryz.underlying9 Z Z Z Z c5) (wz 7 Z Z (D4 Z Z Z Z c7) (wz 8 Z Z (D4 Z Z Z Z c9) (wz 9 Z Z (QV.nilCheck Z Z) (zf 10 Ahi Z Z (Ig 11 Z Ag Z ((ew 1 [B5 ((p++(sub s 2 (ln s)))++[10])] sz9 Z (Aj (sr (wm Z (wq Z (QV.nilCheck Z Z) (wf Ahi Z (wl pl9 Z (Aq 1 Z Z) (wq Z (Ki Tryz.underlying9 Z Z) (Ab Z ((Di Ah Ru Ah Ah (ps:=[(0,.tmp 35)]) (cells:=[i_ (ln ((p++(sub s 2 (ln s)))++[10]))]) (ea Z) Ag (fun i2=>?_))))))))))))))))));obtain⟨k1,h2,f6⟩:=An S;refine wq Z (QV.call en8 (ea Z) (fun w b=>have h:=Dx w h2 ((Bb 0 (rows:=[(ln ((p++(sub s 2 (ln s)))++[10]))].map Ar) Z Z (Bq Bd)) w b) (B.at b);h)) ?_;refine wa Z (nt (A9 (tr ?_)));obtain rfl:=(Ad f6).symm;refine Aw Z Z (fun w b=>?_);exact⟨t,Z,b.pick [1,2] Ah,trivial⟩
 refine sk (Aj (Au (sr (wm Z (wq Z (C4 Z Z Z Z) (nt ?_))))));refine wc Z W (fun e2 f7=>?_) (fun e2 Y=>?_)
 ·skip
  refine sr (wm Z (wq Z (QV.nilCheck Z Z) (wf Ahi Z (Ab Z ((ew 1 [B5 []] sz9 Z (ns (wa Z (nt (A9 (tr ?_)))))))))));obtain rfl:=(Ad f7).symm;refine Aw Z Z (fun w b=>?_);exact⟨t,Z,b.pick [0,1] Ah,trivial⟩
 refine sk (Aj (sr (wm Z (Ab Z ?_))));obtain⟨i1,h3,a1⟩:=An Y;refine(cq o en5 Z (fun M w d9 e3=>P7 h3 M w d9 e3) Z (fun u n i7=>wa Z (ns (wa Z (nt (Au (sr (wa Z (nt (F7 (fun w b=>b.vecNil (E:=3) (sz:=1) (enc:=Ar)) ?_))))))))));obtain⟨c6,C,h8,g6⟩:=bl a1;refine F2 (dt [0,1,5] [1,2] Z) (fun (a:List Int) (i:Int) (j:Al)=>[(6,(true,j)),(7,(true,i_ i))]) (fun a i j=>[vec j 3 1 (List.map Ar a)]) (fun a i j m=>Cp (Cu k p i1) m (a,i)=some c6∧SliceLen j a.length) (fun a i j=>c6=.go (a,i)∧SliceLen j a.length) [] 1 (.slice none 0 0) h8 ⟨g6,Gq⟩ (sb Z) (pk [0,1,2]) ?_ ?_
 ·skip
  rintro a i j ⟨rfl,l⟩;refine Aj (Au (sr (wm Z ?_)));obtain⟨I,a2⟩:=cs C;obtain⟨j3,b9⟩:=n.lenMap.ix (sz:=1) Ao I;refine wq Z (Ae Qa Z Z Z Z b9) (wl pl9 Z (cl 0 (Ai 1 Z o n) b9 I Z) (wq Z (C4 Z Z Z Z) (wm Z (gP Z (QV.move Z Z) (gp Z (fun g=>A5 Tryz.underlying34 Z g l) (gp Z (fun g=>QV.eql Z g Z Z) (wq Z (A7 Z Z Z (fun h=>h)) (nt ?_))))))));refine wc Z a2 (fun e5 a3=>?_) (fun e5 b0=>?_)
  ·skip
   refine sr (wm Z ?_);obtain⟨J,a4⟩:=cs a3;obtain⟨j4,c0⟩:=l.ix (sz:=1) Ao J;refine wq Z (Ae Fs Z Z Z Z c0) (wl pl3 Z (cl 0 (Cz 0 Z) c0 J Z) (wq Z (QV.build (ps:=[(2,.tmp 76)]) (cells:=[i_ 0,i_ 0,i_ 0,i_ 0,i_ 0,i_ 0,i_ (ele a 6)]) (ea Z) Ag) (Ab Z ((B9 Ah ze27 (fun d2=>Ab Z ((ew 0 [i_ 0,i_ 0,i_ 0,i_ 0,i_ 0,i_ 0,i_ (ele a 6)] A1p Z (nt (Au (sr (wa Z (nt ?_)))))))))))));obtain⟨c8,f8,h9,g7⟩:=bl a4;refine B6 (dt [0,6,10] [1,2,3] Z) (fun (f:List Int) (d:Int)=>[(11,(true,i_ d))]) (fun f d=>[blk d2 (List.map Dv f) 27]) (fun f d m=>Cp (C9 a) m (f,d)=some c8) (fun f d=>c8=.go (f,d)) ([0,0,0,0,0,0,(ele a 6)]:List Int) 0 h9 g7 (sb Z) (pk [0,1,2,3]) ?_ ?_
   ·skip
    rintro f d rfl;refine Aj (Au (sr (have ⟨d4,a6⟩:=cs f8;wq Z (Af (cs:=(Xb f).cells) Gn Z Z Z (S8 (c:=Dv) (xs:=f) 0 Z (Ae3 d4))) ?_)));obtain⟨k2,h4,a7⟩:=An a6;refine wq Z (QV.call Avg (ea Z) (fun w b=>have h:=M6 w h4 ;h)) ?_;refine wq Z (QV.not Z Z) (nt ?_);refine wc Z a7 (fun e6 f9=>?_) (fun e6 g0=>?_)
    ·skip
     refine sr (wa Z (nt (A9 (tr (tr ?_)))));obtain rfl:=(Ad f9).symm;refine Aw Z Z (fun w b=>?_);exact⟨u.2,Z,b.pick [2,3] Ah,trivial⟩
    refine sk (Aj (sr (wm Z (have ⟨c53,g1⟩:=cs g0;wq Z (Af (cs:=(Xb f).cells) Gn Z Z Z (S8 (c:=Dv) (xs:=f) 0 Z (Ae3 c53))) (wq Z (QV.nilCheck Z Z) (wf Yi Z (Ab Z ((ew 3 (Tgt.cells (Xb f)) A1p Z (ns (wa Z (nt (A9 (tr ?_))))))))))))));obtain rfl:=(Ad g1).symm;refine Aw Z Z (fun w b=>?_);exact⟨u.2,Z,b.pick [2,3] Ah,trivial⟩
   rintro f d j0 Q;obtain⟨h7,j9,rfl,x,b6⟩:=A0 Q;unfold C9 at x;simp only at x;refine Au (sr (wm Z (wq Z (QV.lss Z Z Z Z) (nt ?_))));refine wc Z x (fun e7 a8=>?_) (fun e7 g4=>?_)
   ·skip
    refine sk (Aj (Au (Cq (sr (wm Z (wm Z (wm Z ?_)))))));obtain⟨K,a9⟩:=cs a8;obtain⟨j5,c2⟩:=l.ix (sz:=1) Ao K;refine wq Z (Ae Fs Z Z Z Z c2) (wl pl3 Z (cl 0 (Cz 1 Z) c2 K Z) (wf Yj Z ?_));obtain⟨z,d5,d6,L,g2⟩:=cs4 a9;refine wq Z (Cr Tz Z Z Z Z z.1 z.2) (Ab Z ((Vj (c:=Dv) (xs:=f) 0 d (ele a d) rfl rfl rfl rfl rfl (by first | rfl | exact Ve | exact U5 _ | exact Ys (z).1) d5 rfl rfl sz3 (nr (wm Z (wm Z (wm Z (wq Z (A6 Z Z Z Z d6) ?_))))))));obtain⟨j6,c3⟩:=l.ix (sz:=1) Ao L;refine wq Z (Ae Fs Z Z Z Z c3) (wl pl3 Z (cl 0 (Cz 1 Z) c3 L Z) (wf V6 Z (have ⟨A,d7,d8,g3⟩:=cs3 g2;wq Z (Cr Tz Z Z Z Z A.1 A.2) (Ab Z ((Vj (c:=Dv) (xs:=(upd f d (ele a d))) 0 (3+d) (ele a (3+d)) rfl rfl rfl rfl rfl (by first | rfl | exact Ve | exact U5 _ | exact Ys (A).1) d7 rfl rfl sz3 (Bk (Ba (Aj (Bn (wm Z (wq Z (A6 Z Z Z Z d8) (wa Z (Bk ?_))))))))))))));exact Bs (upd (upd f d (ele a d)) (3+d) (ele a (3+d))) (d+1) h7 (A3 g3 b6) (Cc _) (sb Z) (pk [0,1,2,3])
   refine Cw (te (te (Am ?_)));exact Cm f d (Bh g4 b6) (sb Z) (pk [0,1,2,3])
  refine sk (Aj (Au (sr (wm Z (wq Z (C4 Z Z Z Z) (wm Z (gN Z (QV.move Z Z) (gn Z (fun g=>C4 Z g Z Z) (wq Z (Bc Z Z Z (fun h=>Fm h)) (wm Z (gN Z (QV.move Z Z) (gn Z (fun g=>C4 Z g Z Z) (wq Z (Bc Z Z Z (fun h=>Fm h)) (nt ?_))))))))))))));refine wc Z b0 (fun e8 b1=>?_) (fun e8 b2=>?_)
  ·skip
   refine sr (wm Z (wm Z (Ab Z ?_)));obtain⟨k3,h5,g5⟩:=An b1;refine(crG [1,2,0] B o en11 Z (La h5) Z (fun d1 i5 i8=>wa Z (nt (A9 (tr ?_)))));obtain rfl:=(Ad g5).symm;refine Aw Z Z (fun w b=>?_);exact⟨d1,Z,b.pick [0,1] Ah,trivial⟩
  refine sk (Aj (Au (sr (wm Z ?_))));obtain⟨N,b3⟩:=cs b2;obtain⟨j7,c4⟩:=n.lenMap.ix (sz:=1) Ao N;refine wq Z (Ae Qa Z Z Z Z c4) (wl pl9 Z (cl 0 (Ai 1 Z o n) c4 N Z) (wq Z (C4 Z Z Z Z) (wm Z (gP Z (QV.move Z Z) (gp Z (fun g=>A5 Tryz.underlying34 Z g l) (gp Z (fun g=>QV.eql Z g Z Z) (wq Z (A7 Z Z Z (fun h=>h)) (nt ?_))))))));refine wc Z b3 (fun e9 b4=>?_) (fun e9 f1=>?_)
  ·skip
   refine sr (wm Z (wm Z ?_));obtain⟨O,b5⟩:=cs b4;obtain⟨j1,b7⟩:=l.ix (sz:=1) Ao O;refine wq Z (Ae Fs Z Z Z Z b7) (wl pl3 Z (cl 0 (Cz 0 Z) b7 O Z) (Ab Z ?_));obtain⟨k0,h0,f0⟩:=An b5;refine(crG [1,2,0] B o en11 Z (La h0) Z (fun d0 i4 i6=>wa Z (nt (A9 (tr ?_)))));obtain rfl:=(Ad f0).symm;refine Aw Z Z (fun w b=>?_);exact⟨d0,Z,b.pick [0,1] Ah,trivial⟩
  refine sk (Aj (sr (wa Z (nt (A9 ?_)))));obtain rfl:=(Ad f1).symm;refine Aw Z Z (fun w b=>?_);exact⟨u.2,Z,b.pick [1,2] Ah,trivial⟩
 rintro a i j i9 ⟨P,l⟩;obtain⟨h6,j8,rfl,v,F⟩:=A0 P;unfold Cu at v;simp only at v;refine Au (sr (wm Z (wm Z (wq Z (A5 Tryz.underlying22 Z Z n.lenMap) (wq Z (QV.lss Z Z Z Z) (nt ?_))))));refine wc Z v (fun e0 T=>?_) (fun e0 f5=>?_)
 ·skip
  refine sk (Aj (Au (Cq (sr (wm Z (wm Z ?_))))));obtain⟨G,U⟩:=cs T;obtain⟨j2,b8⟩:=n.lenMap.ix (sz:=1) Ao G;refine wq Z (Ae Qa Z Z Z Z b8) (wl pl9 Z (cl 0 (Ai 1 Z o n) b8 G Z) ?_);obtain⟨q,h1,V⟩:=An U;refine wq Z (QV.call en9 (ea Z) (fun w b=>have h:=W3 w h1 ;h)) ?_;refine wm Z (wq Z (Bi Z Z Z) (wq Z (Bi Z Z Z) (wa Z (wa Z (nt (Au (sr (wm Z (wq Z (QV.not Z Z) (nt ?_))))))))));refine wc Z V (fun e1 f2=>?_) (fun e1 f3=>?_)
  ·skip
   refine sr (wa Z (nt (A9 (tr (kr (tr (tr (kr (tr (tr ?_))))))))));obtain rfl:=Dr f2 F;obtain rfl:=(Ad C).symm;refine Aw Z Z (fun w b=>?_);exact⟨u.2,Z,b.pick [1,2] Ah,trivial⟩
  refine sk (Aj (Bn (wm Z (wm Z (Ab Z ((Di Ah L7 Ah Ah (ps:=[(0,.tmp 62)]) (cells:=[i_ q.1]) (ea Z) Ag (fun i3=>Ab Z (have ⟨H,d3,f4⟩:=cs2 f3;(Bt (enc:=Ar) (xs:=a) (ys:=[q.1]) ((a++[q.1])) 1 Ah Xh Z Z Z Z Z (Bb 0 (rows:=[q.1].map Ar) Z Z (Bq Bd)) Bd (Dl _) Z H.1 H.2 (fun i0 g8=>wa Z (Bk (Ba (Aj (Bn (wm Z (wq Z (A6 Z Z Z Z d3) (wa Z (Bk ?_)))))))))))))))))));exact Ek (a++[q.1]) (i+1) i0 h6 ⟨A3 f4 F,g8⟩ (Cc _) (sb Z) (pk [1,2,3])
 refine Cw (te (te (Am ?_)));exact Jj a i j ⟨Bh f5 F,l⟩ (sb Z) (pk [0,1,2])
end Go.Proofs.YtaimbkndebaaiaaGreatDoor
end
section
namespace Go.Proofs.YtaimbkndebaaiaaGreatDoor
open Go.Rd
open TLib TLibR TLibA TSay TNum0 TNum TLoop TPar TStable TMach TMach2 TKern TClone TNbr TSeq TKRun TKeep TOrd TCpt TDep TSched1 TEmit TCheck TRegs TBound TMake TBuild TCheck2 TDrv TR14 TSaid TPla
namespace TLawDrive
theorem en6:Go.Rd.Enters Tryz.prog 6:=eT Tryz.func6
theorem en7:Go.Rd.Enters Tryz.prog 7:=eT Tryz.func7
end TLawDrive
open TLawDrive
theorem Tc {U:List UInt8}{r:Bool} (w:Ak) (C:Gi U=some r) (a7:Glb Tryz.prog w):Calls Tryz.prog 3 #[B5 U] w (fun e w'=>e=.returned (.bool r)∧Grow w w'):=by
 unfold Gi at C;refine have u:=D0 (w:=w);cw 51 Tryz.func3 Z (have H:=Xp a7;sr (wa Z (ns (wm Z (Ab Z ?_))))) (Av u (D3 w));obtain⟨z,b7,L⟩:=An C;refine(cq u en5 Z (fun M w a2 a3=>P7 b7 M w a2 a3) Z (fun q p c4=>wa Z (nt (Au (sr (wm Z (wm Z (wq Z (A5 Tryz.underlying22 Z Z p.lenMap) ?_))))))));obtain⟨c5,c7,P⟩:=cs2 L;refine wq Z (D2 Z Z Z Z c5) ?_;obtain⟨c9,R⟩:=p.lenMap.ix (sz:=1) Ao c7;refine wq Z (Ae Qa Z Z Z Z R) (wl pl9 Z (cl 0 (Ai 0 Z u p) R c7 Z) (wq Z (C4 Z Z Z Z) (nt ?_)));obtain⟨c2,x,J⟩:=An P;refine Vf (dt [0] [0] Z) (fun (t:List (List UInt8)) (v:Al)=>[(3,(true,v))]) (fun t v=>[]) (fun t v=>c2=.go t∧Arr q.2 v 1 (t.map O0)) (sb Z) (pk [0]) ?_ ?_
 ·skip
  rintro t v ⟨rfl,B⟩;refine sr (wq Z (QV.build (ps:=[(0,.const (i_ 2)),(1,.const (i_ 1)),(2,.const (i_ 1))]) (cells:=[i_ 2,i_ 1,i_ 1]) (ea Z) Ag) (wq Z (QV.build (ps:=[(0,.const (i_ 1)),(1,.const (i_ 3)),(2,.const (i_ 2))]) (cells:=[i_ 1,i_ 3,i_ 2]) (ea Z) Ag) (wq Z (QV.build (ps:=[(0,.tmp 22),(1,.tmp 23),(2,.const (i_ 32))]) (cells:=[i_ 2,i_ 1,i_ 1,i_ 1,i_ 3,i_ 2,i_ 32]) (ea Z) Ag) (wq Z (QV.build (ps:=[(0,.tmp 24)]) (cells:=[i_ 2,i_ 1,i_ 1,i_ 1,i_ 3,i_ 2,i_ 32,B5 []]) (ea Z) Ag) (Ab Z ((A4 Ah Z Z (fun W=>wa Z (ns (wa Z (nt (Au (sr (wa Z (nt ?_)))))))))))))));obtain⟨T,K,c1,b6⟩:=bl J;refine Aiv (dt [0,3,4] [] Z) (fun (c:Int) (d:Int) (f:Int) (g:Int) (i:Int) (j:Int) (k:Int) (l:List UInt8) (b:List UInt8) (a:Int) (n:Ak)=>[(5,(true,B5 b)),(6,(true,i_ a))]) (fun c d f g i j k l b a n=>[blk W [i_ c,i_ d,i_ f,i_ g,i_ i,i_ j,i_ k,B5 l] 29,kn noM w.heap.size w n]) (fun c d f g i j k l b a n m=>Cp (Dd t) m (c,d,f,g,i,j,k,l,b,a)=some T∧Le q.2 n) (fun c d f g i j k l b a n=>T=.go (c,d,f,g,i,j,k,l,b,a)∧Le q.2 n) 2 1 1 1 3 2 32 [] [] 0 q.2 c1 ⟨b6,(Ih _)⟩ (sb Z) (pk [0,1]) ?_ ?_
  ·skip
   rintro c d f g i j k l b a n ⟨rfl,s⟩;refine Aj (sr (wm Z ?_));obtain⟨d1,b8,a9⟩:=An K;refine wq Z (QV.call en7 (ea Z) (fun w E=>have h:=Anv w b8 (H.at E);h)) ?_;refine wm Z (wq Z (C4 Z Z Z Z) (wa Z (nt (A9 ?_))));obtain rfl:=(Ad a9).symm;exact Aw Z Z fun w E=>kg E
  rintro c d f g i j k l b a n c6 ⟨I,s⟩;obtain⟨c0,d0,rfl,y,Q⟩:=A0 I;unfold Dd at y;simp only at y;refine Au (sr (wm Z (wm Z (wq Z (A5 Tryz.underlying22 Z Z (B.le s).lenMap) (wq Z (QV.lss Z Z Z Z) (wm Z (gP Z (QV.move Z Z) (gp Z (fun a6=>QV.lss Z a6 Z Z) (wq Z (A7 Z Z Z (fun h=>h)) (nt ?_))))))))));refine wc Z y (fun a4 N=>?_) (fun a4 b2=>?_)
  ·skip
   refine sk (Aj (Au (Cq (sr (wm Z (wm Z (wm Z ?_)))))));obtain⟨F,O⟩:=cs N;obtain⟨c8,S⟩:=(B.le s).lenMap.ix (sz:=1) Ao F;refine wq Z (Ae Qa Z Z Z Z S) (wl pl9 Z (cl 0 (Ai 1 Z u (B.le s)) S F Z) (Ab Z ?_));obtain⟨o,b9,b0⟩:=An O;refine(crG [1,0] H u en6 Z (Sa b9) Z (fun V c3 a8=>wa Z (nr (wm Z (wm Z (have ⟨X,Y,a0,b1⟩:=cs3 b0;wq Z (D4 Z Z Z Z X) (wq Z (D4 Z Z Z Z Y) (wa Z (Bk (Ba (Aj (Bn (wm Z (wq Z (A6 Z Z Z Z a0) (wa Z (Bk ?_))))))))))))))));exact Aiu o.2.1.u0 o.2.1.u1 o.2.1.u2 o.2.1.w0 o.2.1.w1 o.2.1.w2 o.2.1.regs o.2.2 ((b++o.1)++[10]) (a+1) V c0 ⟨A3 b1 Q,(s.trans a8)⟩ (Cc _) (sb Z) (pk [1,0])
  refine Cw (te (te (Am ?_)));exact Ap1 c d f g i j k l b a n ⟨Bh b2 Q,s⟩ (sb Z) (pk [0,1])
 refine Abm Z (fun A=>?_) (fun A=>?_)
 ·skip
  have b3:=Aga A x;clear x;refine Bn (wm Z (wm Z (wq Z (A5 Tryz.underlying22 Z Z p.lenMap) (have ⟨a1,G,b4⟩:=cs2 b3;wq Z (D2 Z Z Z Z a1) (have a5:=Ip p G;wq Z (Ox Qa Z Z p.lenMap Z Z G) (wa Z (Bk ?_)))))));exact Cm (sub z 0 ((ln z) - 1)) (Np q.1 1 (Int.toNat 0) (Int.toNat ((ln z) - 1))) ⟨Ad b4,a5⟩ (sb Z) (pk [0])
 have b5:=Agb A x;clear x;refine sk ?_;exact Cm z q.1 ⟨Ad b5,p⟩ (sb Z) (pk [0])
end Go.Proofs.YtaimbkndebaaiaaGreatDoor
end
section
namespace Go.Rd
open Go.RowKit
theorem Akg {P:Bz}{W:Ak}:∀ {l:List (String×DataW Unit)}{ps:List MemPlace},DataW.LaidVars P W l ps→∀ {nm:String}{d:DataW Unit},(nm,d)∈l →
  ∃ g t cs b p,P.globalNamed nm=some g∧(P.globals[g]?).map (·.type)=some t∧W.var? P nm=some cs∧DataW.trod (fun _=>()) P W 0 (fun _=>true) Az b t cs.toList=some (d,p)
 | [],_,_,_,_,a=>absurd a Bf
 | (n,d0)::r,ps,⟨g,t,cs,b,p,q,h1,h2,h3,h4,h5,_⟩,nm,d,a=>by
  rcases Gw.1 a with e | a
  ·cases e;exact⟨g,t,cs,b,p,h1,h2,h3,h4⟩
  ·exact Akg h5 a
theorem Aud {P:Bz}{W:Ak}{l:List (String×DataW Unit)} (h:laidMet P l W) (i:Nat) {nm:String}{d:DataW Unit} (hi:l[i]?=some (nm,d)) :
  ∃ g t cs a p,P.globalNamed nm=some g∧(P.globals[g]?).map (·.type)=some t∧W.var? P nm=some cs∧DataW.trod (fun _=>()) P W 0 (fun _=>true) Az a t cs.toList=some (d,p):=by
 obtain⟨ps,h,_⟩:=h;exact Akg h (Xs hi)
theorem Apg {P:Bz}{W:Ak}{l:List (String×DataW Unit)} (h:laidMet P l W) (i:Nat) {nm:String}{k:IntKind}{a:List Int} (hi:l[i]?=some (nm,Lib.tabData k a)) {g:Nat}{t e:TypeId}{n:Nat}
  (q:P.globalNamed nm=some g) (s:(P.globals[g]?).map (·.type)=some t) (r:P.underlying t=some (.array n e)) (o:P.underlying e=some (.int k)) (j:P.cellsOf e=1) (m:P.cellsOf t=n):Lib.TabIs P W nm k a:=by
 obtain⟨g',v,cs,u,p,b,c,d,f⟩:=Aud h i hi;obtain rfl:=Alm (q.symm.trans b);obtain rfl:=Alm (s.symm.trans c);unfold Lib.TabIs;rw[d,←Lib.cells_of_tab r o j m f]
theorem A0r {P:Bz}{W:Ak}{l:List (String×DataW Unit)} (h:laidMet P l W) (i:Nat) {nm s:String}{d:DataW Unit} (hi:l[i]?=some (nm,.iface s d)) {g:Nat}{t:TypeId}{ms:Array (String×TypeId)}
  (j:P.globalNamed nm=some g) (m:(P.globals[g]?).map (·.type)=some t) (k:P.underlying t=some (.interface ms)):∃ t p,W.var? P nm=some #[.iface t p]:=by
 obtain⟨g',q,cs,o,p,a,b,c,e⟩:=Aud h i hi;obtain rfl:=Alm (j.symm.trans a);obtain rfl:=Alm (m.symm.trans b);obtain⟨n,u,v,f,_⟩:=iface_of_trod k e;exact⟨u,v,by rw[c];congr 1;exact Array.ext' f⟩
def A4q (l:List (String×DataW Unit)) (i:Nat) (nm:String):Bool:=match l[i]? with
 | some (n,.iface _ _)=>Ap (n=nm)
 | _=>Az
theorem Akh {P:Bz}{W:Ak}{l:List (String×DataW Unit)} (h:laidMet P l W) (i:Nat) {nm:String} (hi:A4q l i nm=true) {g:Nat}{t:TypeId}{ms:Array (String×TypeId)}
  (a:P.globalNamed nm=some g) (c:(P.globals[g]?).map (·.type)=some t) (b:P.underlying t=some (.interface ms)):∃ t p,W.var? P nm=some #[.iface t p]:=by
 unfold A4q at hi;split at hi
 ·rename_i n s d e
  obtain rfl:=Ag3 hi;exact A0r h i e a c b
 ·cases hi
def Aod:Nat→List Nat→Bool
 | _,[]=>true
 | m,k::r=>!(m.testBit k)&&Aod (m ||| (1 <<< k)) r
theorem Ae4:∀ {l:List Nat}{m:Nat},Aod m l=true→l.Nodup∧∀ k∈l,m.testBit k=Az
 | [],m,_=>⟨List.nodup_nil,Bf⟩
 | k::r,m,h=>by
  simp only[Aod,Fa,Alr] at h;obtain⟨c,d⟩:=Ae4 h.2
  have b:∀ j∈r,m.testBit j=Az∧k≠j:=fun j a=>by
   have:=d j a;rw[Nat.testBit_or,Th,Nat.one_shiftLeft,Nat.testBit_two_pow] at this;exact⟨this.1,of_decide_eq_false this.2⟩
  refine⟨Alo.2 ⟨fun e=>(b k e).2 rfl,c⟩,fun j a=>?_⟩;rcases Gw.1 a with rfl | a
  ·exact h.1
  ·exact(b j a).1
def Acm:MemPlace→Nat
 | .cell b off=>b * 512+off
 | .map b=>b * 512+511
theorem Afn {P:Bz}{w:Ak}{l:List (String×DataW Unit)} (c:Nat) (h:(DataW.laidRun P w c (l.map (·.1))).map (·.1)=some l)
  (f:(DataW.laidRun P w c (l.map (·.1))).map (fun x=>Aod 0 (x.2.map Acm))=some true) (g:(DataW.laidRun P w c (l.map (·.1))).map (fun x=>laidRowsB P w x.2)=some true):laidMet P l w:=by
 cases d:DataW.laidRun P w c (l.map (·.1)) with
 | none=>simp[d] at h
 | some x =>
  obtain⟨j,ps⟩:=x;simp only[d,Aln,Gs] at h g f;subst h;exact laidMet_of_run c d (Ls (List.Pairwise.of_map Acm (fun a b i e=>i (congrArg Acm e)) (Ae4 f).1)) g
noncomputable def Sw (P:Bz) (n g:Nat) (cs:Array Al) (os:Os):Ak :=
 { World.doorLaid P n os with heap:=match (World.doorLaid P n os).heap[g]? with
  | some (.cells _ e f)=>(World.doorLaid P n os).heap.setIfInBounds g (.cells cs e f)
  | _=>(World.doorLaid P n os).heap }
end Go.Rd
end