/- Texts for the law, 9. -/
import Derived.Test.YtaimbkndebaaiaaGreatDoorZLdriveOn8
import Derived.Test.YtaimbkndebaaiaaGreatDoorProg
import Derived.KernelRfl
import Derived.LaidLaws
import Derived.Shelf.Vars
import Derived.LaidMore
set_option linter.unusedVariables false
set_option linter.unusedSimpArgs false
set_option maxRecDepth 8000
set_option linter.defProp false
open Go renaming World→Aj,Value→Ak,Program→Bu
open Decidable renaming decide→Ao
open Bool renaming false→Ay
open Go.Value renaming cells→Ee
section
namespace Go.Proofs.YtaimbkndebaaiaaGreatDoor
open Go.Rd
open TLib TLibR TLibA TSay TNum0 TNum TLoop TPar TStable TMach TMach2 TKern TClone TNbr TSeq TKRun TKeep TOrd TCpt TDep TSched1 TEmit TCheck TRegs TBound TMake TBuild TCheck2
namespace TDrv
theorem en13:Go.Rd.Enters Tryz.prog 13:=eT Tryz.func13
theorem en15:Go.Rd.Enters Tryz.prog 15:=eT Tryz.func15
theorem A08:Go.Rd.Enters Tryz.prog 18:=eT Tryz.func18
theorem en23:Go.Rd.Enters Tryz.prog 23:=eT Tryz.func23
theorem en24:Go.Rd.Enters Tryz.prog 24:=eT Tryz.func24
theorem A06:Go.Rd.Enters Tryz.prog 25:=eT Tryz.func25
theorem en40:Go.Rd.Enters Tryz.prog 40:=eT Tryz.func40
theorem en41:Go.Rd.Enters Tryz.prog 41:=eT Tryz.func41
theorem en42:Go.Rd.Enters Tryz.prog 42:=eT Tryz.func42
theorem en43:Go.Rd.Enters Tryz.prog 43:=eT Tryz.func43
theorem en51:Go.Rd.Enters Tryz.prog 51:=eT Tryz.func51
theorem en52:Go.Rd.Enters Tryz.prog 52:=eT Tryz.func52
theorem en53:Go.Rd.Enters Tryz.prog 53:=eT Tryz.func53
theorem en92:Go.Rd.Enters Tryz.prog 92:=eT Tryz.func92
theorem en93:Go.Rd.Enters Tryz.prog 93:=eT Tryz.func93
theorem Xj:B8 Tryz.prog 42 0 0:=fT 6 Tryz.underlying42
theorem Agm:B8 Tryz.prog 42 1 7:=fT 0 Tryz.underlying42
theorem A51:B8 Tryz.prog 50 0 0:=fT 0 Tryz.underlying50
theorem A50:B8 Tryz.prog 50 1 1:=fT 0 Tryz.underlying50
theorem pl48:No Tryz.prog 48:=⟨_,Tryz.underlying48,rfl⟩
theorem sz27:Dg Tryz.prog 27 7:=by unfold Dg;kernel_rfl
theorem sz9:Dg Tryz.prog 9 1:=by unfold Dg;kernel_rfl
theorem ze27:ZeroT Tryz.prog 27 [.int .i64 0,.int .i64 0,.int .i64 0,.int .i64 0,.int .i64 0,.int .i64 0,.int .i64 0]:=by unfold ZeroT;kernel_rfl
end TDrv
open TDrv
theorem Wa {g:Nat}{s:Ak}{a:Tgt}{j:List UInt8}{l:List Int}{r:List UInt8×Tgt}{c:Aj} (i:F7 a j l=some r) (b:Arr c s 1 (l.map Ar)) (M:Nat→Prop) (w:Aj) (I:GlbM Tryz.prog M w) (d:Base M c w) (F:Own M w [blk g [.int .i64 a.u0,.int .i64 a.u1,.int .i64 a.u2,.int .i64 a.w0,.int .i64 a.w1,.int .i64 a.w2,.int .i64 a.regs,Cs j] 42] w):Calls Tryz.prog 24 #[.pointer (some (⟨g,0,none⟩)),s] w (fun e w'=>∃ X:Aj,e=.returned (Cs r.1)∧Own M w (kn M w.heap.size c X::[blk g [.int .i64 r.2.u0,.int .i64 r.2.u1,.int .i64 r.2.u2,.int .i64 r.2.w0,.int .i64 r.2.w1,.int .i64 r.2.w2,.int .i64 r.2.regs,Cs j] 42]) w'∧True):=by
 unfold F7 at i;refine cw 25 Tryz.func24 Z (sr (wa Z (nt (Ax (dq 14 (zm 0 Z Z ?_)))))) (Aw d F);obtain⟨c1,c4,p⟩:=cs2 i;refine have v:=I7 b c1;wz 1 Z Z (P6 Fy Z Z b.lenMap Z Z c1) ?_;obtain⟨L,B,z⟩:=At3 v c4;refine wz 2 Z Z (Akc Up Z Z B) (wz 3 Z Z (Af ag25 Z Z Z (A1 0 Z d z)) (zm 4 Z Z ?_));obtain⟨c7,t,m⟩:=cs2 p;refine have x:=I7 b c7;wz 5 Z Z (Apz Fy Z Z b.lenMap Z Z Z Z c7) ?_;obtain⟨J,A,y⟩:=At3 x t;refine wz 6 Z Z (Akc Up Z Z A) (wz 7 Z Z (Af ag25 Z Z Z (A1 0 Z d y)) (zm 8 Z Z ?_));obtain⟨k,n⟩:=cs m;obtain⟨K,q⟩:=b.lenMap.ix (sz:=1) Ap k;refine wz 9 Z Z (Ae Fy Z Z Z Z q) (zl 10 pl3 Z Z (cl 0 (Ah 0 Z d b) q k Z) (wz 11 Z Z (QV.build (ps:=[(0,.tmp 9),(1,.tmp 13),(2,.tmp 16)]) (cells:=[i_ (ele (sub l 0 3) 0),i_ (ele (sub l 0 3) 1),i_ (ele (sub l 0 3) 2),i_ (ele (sub l 3 6) 0),i_ (ele (sub l 3 6) 1),i_ (ele (sub l 3 6) 2),i_ (ele l 6)]) (ea Z) Ag) (Dd 12 Z Ag Z ((Ci Ai ze27 (fun H=>bp [1,0,2] Z (pk [0,2]) (WD.l 13 Z Ag Z ((ew 0 [i_ (ele (sub l 0 3) 0),i_ (ele (sub l 0 3) 1),i_ (ele (sub l 0 3) 2),i_ (ele (sub l 3 6) 0),i_ (ele (sub l 3 6) 1),i_ (ele (sub l 3 6) 2),i_ (ele l 6)] sz27 Z (Al (Ax (sr (wq Z (Af Hv Z Z Z (Ac 0 Z)) ?_)))))))))))));obtain⟨N,G,o⟩:=An n;refine wq Z (QV.call Aw0 (ea Z) (fun w f=>have h:=Pc w G ;h)) ?_;refine wq Z (QV.not Z Z) (nt ?_);refine wc Z o (fun u C=>?_) (fun u E=>?_)
 ·skip
  refine sr (wa Z (nt (Bc (tr ?_))));obtain rfl:=(Ad C).symm;refine Az Z Z (fun w f=>?_);exact⟨c,Z,f.pick [1,2] Ai,trivial⟩
 refine sk (Al (sr (wm Z (wq Z (Af Hv Z Z Z (Ac 0 Z)) (wq Z (QV.nilCheck Z Z) (wf Xj Z (Ab Z ((ew 2 [i_ (ele (sub l 0 3) 0),i_ (ele (sub l 0 3) 1),i_ (ele (sub l 0 3) 2),i_ (ele (sub l 3 6) 0),i_ (ele (sub l 3 6) 1),i_ (ele (sub l 3 6) 2),i_ (ele l 6)] sz27 Z (ns (wa Z (nt (Bc ?_)))))))))))));obtain rfl:=(Ad E).symm;refine Az Z Z (fun w f=>?_);exact⟨c,Z,f.pick [1,2] Ai,trivial⟩
theorem Yg {u:Nat}{G F H:Ak}{b:Tgt}{z:List UInt8}{l:Lp}{E:Int}{r:List UInt8}{o:Aj} (C:Dl b z l E=some r) (s:Arr o G 1 (l.logs.map Ar)) (q:Arr o F 9 (l.body.map Stm.cells)) (t:Arr o H 1 (l.outs.map Ar)) (M:Nat→Prop) (w:Aj) (B:GlbM Tryz.prog M w) (j:Base M o w) (b9:Own M w [blk u [.int .i64 b.u0,.int .i64 b.u1,.int .i64 b.u2,.int .i64 b.w0,.int .i64 b.w1,.int .i64 b.w2,.int .i64 b.regs,Cs z] 42] w):Calls Tryz.prog 53 #[.pointer (some (⟨u,0,none⟩)),.agg #[G,F,H],.int .i64 E] w (fun e w'=>∃ X:Aj,e=.returned (Cs r)∧Own M w (kn M w.heap.size o X::[blk u [.int .i64 b.u0,.int .i64 b.u1,.int .i64 b.u2,.int .i64 b.w0,.int .i64 b.w1,.int .i64 b.w2,.int .i64 b.regs,Cs z] 42]) w'∧True):=by
 unfold Dl at C;refine cw 88 Tryz.func53 Z (sr (Ab Z ((A3 Ai Z Z (fun b1=>wa Z (ns (wq Z (Af Fz Z Z Z (Ac 0 Z)) (Ab Z ?_)))))))) (Aw j b9);obtain⟨d0,c2,a0⟩:=An C;refine(crG [1,0,2] B j en92 Z (Aii c2 s q t) Z (fun x n d=>Ab Z ((Ci Ai Aw4 (fun L=>Ab Z ((ex 0 [x.1,x.2.1] (show Ee _=List.toArray _ from Z) A3r (oc (De n.1.slen) (oc (De n.2.slen) Cg)) Z (ns (wq Z (Af Fz Z Z Z (Ac 2 Z)) (wq Z (Af As1 Z Z Z (Ac 0 Z)) (wm Z (Ab Z ?_))))))))))));obtain⟨d7,c7,a3⟩:=An a0;refine(cr [1,0,2,3] j en40 Z (Au9 c7 (s.le d) (q.le d) (t.le d) n.1 n.2) Z (fun p A c=>wm Z (wq Z (Bp Z Z Z) (wq Z (Bp Z Z Z) (Ab Z ((Ci Ai Aw3 (fun K=>Ab Z ((ex 0 [p.1,p.2.1] (show Ee _=List.toArray _ from Z) Ano (oc (De A.1.lenMap) (oc (De A.2.slen) Cg)) Z (wa Z (nt (Ax (sr (wm Z (wq Z (QV.neq Z Z Z Z) (nt ?_)))))))))))))))));refine wc Z a3 (fun a9 b5=>?_) (fun a9 S=>?_)
 ·skip
  refine sr (wa Z (nt (Bc (tr ?_))));obtain rfl:=(Ad b5).symm;refine Az Z Z (fun w a=>?_);exact⟨p.2.2,Z,a.pick [1,4] Ai,trivial⟩
 refine sk (Al (Ax (dp 14 [1,0,2,3,4] Z (Ac9 0 Ag (zq 0 0 1 Z (Af Fz Z Z Z (Ac 3 Z)) (zq 1 1 3 Z (QV.move Z Z) (zq 2 3 7 Z (QV.nilCheck Z Z) (zq 3 7 15 Z (QV.fieldAddr Xj Z Z) (zq 4 15 31 Z (Af Hv Z Z Z (cu 0 7 (Ac 4 Z) Z)) ?_)))))))));obtain⟨m,a4,T⟩:=An S;refine At9 (fun g:Ak×Ak×Aj=>(Arr g.2.2 g.1 10 (m.1.ops.map Opr.cells)∧Arr g.2.2 g.2.1 1 (m.2.1.map Ar))∧Le p.2.2 g.2.2) (fun (y:Nat) (g:Ak×Ak×Aj)=>[(0,(true,.pointer (some (⟨u,0,none⟩)))),(2,(true,i_ E)),(4,(true,.pointer (some (⟨b1,0,none⟩)))),(7,(true,.pointer (some (⟨L,0,none⟩)))),(8,(true,.pointer (some (⟨K,0,none⟩)))),(9,(true,i_ m.2.2)),(10,(true,.pointer (some (⟨y,0,none⟩)))),(11,(true,g.2.1))]) (fun (y:Nat) (g:Ak×Ak×Aj)=>Own M w [blk y [i_ m.1.pace,i_ m.1.stages,g.1] 60,kn M w.heap.size o g.2.2,blk K [p.1,p.2.1] 106,blk L [x.1,x.2.1] 104,blk b1 [G,F,H] 47,blk u [i_ b.u0,i_ b.u1,i_ b.u2,i_ b.w0,i_ b.w1,i_ b.w2,i_ b.regs,Cs z] 42]) ?_ ?_
 ·skip
  rintro y g ⟨v,f⟩;refine Al (Ax (sr (wm Z (wq Z (QV.neq Z Z Z Z) (nt ?_)))));refine wc Z T (fun b0 b6=>?_) (fun b0 U=>?_)
  ·skip
   refine sr (wa Z (nt (Bc (tr ?_))));obtain rfl:=(Ad b6).symm;refine Az Z Z (fun w a=>?_);exact⟨g.2.2,Z,a.pick [1,5] Ai,trivial⟩
  refine sk (Al (Ax (dp 15 [1,0,2,3,4,5] Z (wz 0 Z Z (Af Fz Z Z Z (Ac 4 Z)) (zm 1 Z Z (wz 2 Z Z (QV.nilCheck Z Z) (zf 3 Xj Z Z (wz 4 Z Z (Af Hv Z Z Z (cu 0 7 (Ac 5 Z) Z)) (wz 5 Z Z (Af O0 Z Z Z (Ac 1 Z)) (zm 6 Z Z (zf 7 Vi Z Z (zl 8 Nn Z Z (Aq 3 Z Z) (Dd 9 Z Ag Z ?_)))))))))))));obtain⟨d1,c0,V⟩:=An U;refine(cr [1,0,2,3,4,5] j en41 Z (Ain c0 (s.le ((d.trans c).trans f)) (q.le ((d.trans c).trans f)) (t.le ((d.trans c).trans f)) v.1 v.2 (n.1.le (c.trans f))) Z (fun c8 b2 i=>bp [0,1,2,3,4,5] Z (fun w a=>Fk i ((d.trans c).trans f) (a.pick [0,1,2,3,4,5] Ai)) (zm 10 Z Z (wz 11 Z Z (Bp Z Z Z) (wz 12 Z Z (Bp Z Z Z) (wz 13 Z Z (QV.assign Z Z) (wz 14 Z Z (QV.assign Z Z) (Em Ag (Al (Ax (dq 15 (zm 0 Z Z (wz 1 Z Z (QV.nilCheck Z Z) (zf 2 Xj Z Z (wz 3 Z Z (Af Hv Z Z Z (cu 0 7 (Ac 5 Z) Z)) (wz 4 Z Z (Af O0 Z Z Z (Ac 1 Z)) (zm 5 Z Z (zf 6 Yn Z Z (zl 7 Nn Z Z (Aq 3 Z Z) (zm 8 Z Z (Dd 9 Z Ag Z ?_)))))))))))))))))))));obtain⟨d2,c1,W⟩:=An V;refine(cq j en42 Z (Am7 c1 (v.1.le i) b2 (n.2.le ((c.trans f).trans i))) Z (fun c9 b3 k=>bp [0,1,2,3,4,5] Z (fun w a=>Fk k (((d.trans c).trans f).trans i) (a.pick [0,1,2,3,4,5] Ai)) (zm 10 Z Z (wz 11 Z Z (Bp Z Z Z) (wz 12 Z Z (Bp Z Z Z) (wz 13 Z Z (Bp Z Z Z) (wz 14 Z Z (QV.assign Z Z) (Em Ag (Al (Ax (dq 17 (wz 0 Z Z (Af Fz Z Z Z (Ac 4 Z)) (zm 1 Z Z (wz 2 Z Z (QV.nilCheck Z Z) (zf 3 Xj Z Z (wz 4 Z Z (Af Hv Z Z Z (cu 0 7 (Ac 5 Z) Z)) (wz 5 Z Z (Af O0 Z Z Z (Ac 1 Z)) (zm 6 Z Z (zf 7 Vi Z Z (zl 8 Nn Z Z (Aq 3 Z Z) (zm 9 Z Z (zm 10 Z Z (Dd 11 Z Ag Z ?_)))))))))))))))))))))));obtain⟨d3,c3,Y⟩:=An W;refine(cq j en43 Z (Aim c3 (s.le ((((d.trans c).trans f).trans i).trans k)) (q.le ((((d.trans c).trans f).trans i).trans k)) (t.le ((((d.trans c).trans f).trans i).trans k)) (v.1.le (i.trans k)) (v.2.le (i.trans k)) (n.1.le (((c.trans f).trans i).trans k)) b3.1) Z (fun a5 b4 P=>bp [0,1,2,3,4,5] Z (fun w a=>Fk P ((((d.trans c).trans f).trans i).trans k) (a.pick [0,1,2,3,4,5] Ai)) (zm 12 Z Z (wz 13 Z Z (Bp Z Z Z) (wz 14 Z Z (Bp Z Z Z) (wz 15 Z Z (QV.assign Z Z) (wz 16 Z Z (QV.assign Z Z) (Em Ag (Al (sr (wf Amn Z (wl To Z (Aq 2 Z Z) ?_))))))))))));obtain⟨d4,c4,b7⟩:=An Y;refine wq Z (QV.call en93 (ea Z) (fun w a=>have h:=Sl w c4 ((Ah 0 Z j (A.1.le (((f.trans i).trans k).trans P))) w a) (B.at a);h)) ?_;refine have ⟨a8,a1⟩:=cs b7;wq Z (Ic Z Z Z Z a8) (wm Z ?_);obtain⟨d5,c5,a2⟩:=An a1;refine wq Z (QV.call en93 (ea Z) (fun w a=>have h:=Sl w c5 ((Ah 0 Z j b4) w a) (B.at a);h)) ?_;obtain⟨d6,c6,b8⟩:=An a2;refine wq Z (QV.call en91 (ea Z) (fun w a=>have h:=V7 w c6 ;h)) ?_;refine wa Z (nt (Bc ?_));obtain rfl:=(Ad b8).symm;refine Az Z Z (fun w a=>?_);exact⟨a5.2,Z,a.pick [0,5] Ai,trivial⟩
 refine WD.two 5 10 31 63 1055 Ag Z Z Z Z Ag Ag ?_ ?_
 ·skip
  refine(cr [1,0,2,3,4] j A08 Z (Qc a4 (s.le (d.trans c)) (q.le (d.trans c)) (t.le (d.trans c))) Z (fun I N Q=>bp [0,1,2,3,4] Z (fun w a=>Fk Q (d.trans c) (a)) (zq 6 63 127 Z (QV.move Z Z) (zq 7 127 255 Z (Bp Z Z Z) (zq 8 255 511 Z (Bp Z Z Z) (zq 9 511 1023 Z (Bp Z Z Z) (Lh 10 1023 2047 Z Ag Z ((Ci Ai Afd (fun a6=>bp [1,2,3,4,5] Z sm (Lh 11 2047 4095 Z Ag Z ((ex 0 [i_ m.1.pace,i_ m.1.stages,I.1] (show Ee _=List.toArray _ from Z) Wp (oc Z (oc Z (oc (De N.1.lenMap) Cg))) Z (bp [1,2,3,4,5] Z sm (zq 12 4095 8191 Z (QV.assign Z Z) (zq 13 8191 16383 Z (QV.assign Z Z) (Abf Ag ?_)))))))))))))))));exact Vw a6 I ⟨N,Q⟩ (sb Z) (pk [0,1,2,3,4,5])
 refine(Ci Ai Afd (fun a7=>bp [2,1,3,4,5] Z sm (Lh 5 1055 1087 Z Ag Z ((cr [2,0,1,3,4,5] j A08 Z (Qc a4 (s.le (d.trans c)) (q.le (d.trans c)) (t.le (d.trans c))) Z (fun J O R=>bp [0,2,3,4,5] Z (fun w a=>Fk R (d.trans c) (a)) (zq 6 1087 1151 Z (QV.move Z Z) (zq 7 1151 1279 Z (Bp Z Z Z) (zq 8 1279 1535 Z (Bp Z Z Z) (zq 9 1535 2047 Z (Bp Z Z Z) (Lh 11 2047 4095 Z Ag Z ((ex 1 [i_ m.1.pace,i_ m.1.stages,J.1] (show Ee _=List.toArray _ from Z) Wp (oc Z (oc Z (oc (De O.1.lenMap) Cg))) Z (bp [0,2,3,4,5] Z sm (zq 12 4095 8191 Z (QV.assign Z Z) (zq 13 8191 16383 Z (QV.assign Z Z) (Abf Ag ?_)))))))))))))))));exact Vw a7 J ⟨O,R⟩ (sb Z) (pk [1,0,2,3,4,5])
theorem Yh {k:Nat}{u t v:Ak}{a:Tgt}{p:List UInt8}{l:Lp}{r:List UInt8}{i:Aj} (s:G6 a p l=some r) (G:Arr i u 1 (l.logs.map Ar)) (F:Arr i t 9 (l.body.map Stm.cells)) (H:Arr i v 1 (l.outs.map Ar)) (M:Nat→Prop) (w:Aj) (C:GlbM Tryz.prog M w) (n:Base M i w) (a6:Own M w [blk k [.int .i64 a.u0,.int .i64 a.u1,.int .i64 a.u2,.int .i64 a.w0,.int .i64 a.w1,.int .i64 a.w2,.int .i64 a.regs,Cs p] 42] w):Calls Tryz.prog 52 #[.pointer (some (⟨k,0,none⟩)),.agg #[u,t,v]] w (fun e w'=>∃ X:Aj,e=.returned (Cs r)∧Own M w (kn M w.heap.size i X::[blk k [.int .i64 a.u0,.int .i64 a.u1,.int .i64 a.u2,.int .i64 a.w0,.int .i64 a.w1,.int .i64 a.w2,.int .i64 a.regs,Cs p] 42]) w'∧True):=by
 unfold G6 at s;refine cw 47 Tryz.func52 Z (sr (Ab Z ((A3 Ai Z Z (fun b1=>wa Z (nt (Ax (dp 14 [1,0,2] Z (Ac9 0 Ag (zq 0 0 1 Z (Af Fz Z Z Z (Ac 1 Z)) (zq 1 1 3 Z (QV.move Z Z) (zq 2 3 7 Z (QV.nilCheck Z Z) (zq 3 7 15 Z (QV.fieldAddr Xj Z Z) (zq 4 15 31 Z (Af Hv Z Z Z (cu 0 7 (Ac 2 Z) Z)) ?_)))))))))))))) (Aw n a6);obtain⟨b,S,P⟩:=An s;refine At9 (fun f:Ak×Ak×Aj=>(Arr f.2.2 f.1 10 (b.1.ops.map Opr.cells)∧Arr f.2.2 f.2.1 1 (b.2.1.map Ar))∧Le i f.2.2) (fun (j:Nat) (f:Ak×Ak×Aj)=>[(5,(true,.pointer (some (⟨j,0,none⟩)))),(7,(true,i_ b.2.2))]) (fun (j:Nat) (f:Ak×Ak×Aj)=>Own M w [blk j [i_ b.1.pace,i_ b.1.stages,f.1] 60,kn M w.heap.size i f.2.2,blk b1 [u,t,v] 47,blk k [i_ a.u0,i_ a.u1,i_ a.u2,i_ a.w0,i_ a.w1,i_ a.w2,i_ a.regs,Cs p] 42]) ?_ ?_
 ·skip
  rintro j f ⟨q,b7⟩;refine Al (Ax (sr (wm Z (wq Z (QV.neq Z Z Z Z) (nt ?_)))));refine wc Z P (fun Y a4=>?_) (fun Y K=>?_)
  ·skip
   refine sr (wa Z (nt (Bc (tr ?_))));obtain rfl:=(Ad a4).symm;refine Az Z Z (fun w d=>?_);exact⟨f.2.2,Z,d.pick [1,3] Ai,trivial⟩
  refine sk (Al (sr (wf U9 Z (wl pl3 Z (Aq 0 Z Z) (wf Aag Z (wl pl3 Z (Aq 0 Z Z) (Ab Z ((D4 Ai M6 Ai Ai (ps:=[(0,.tmp 24),(1,.tmp 26)]) (cells:=[i_ b.1.pace,i_ b.1.stages]) (ea Z) Ag (fun b4=>?_))))))))));obtain⟨b2,a7,L⟩:=An K;refine wq Z (QV.call en51 (ea Z) (fun w d=>have h:=Of w a7 ((Bi 0 (rows:=[b.1.pace,b.1.stages].map Ar) Z Z (B3 Bf)) w d) (C.at d);h)) ?_;refine wa Z (nt (Ax (sr (wf R7 Z (wl Ah6 Z (Aq 1 Z Z) (wq Z (A5 Tryz.underlying58 Z Z q.1.lenMap) (wm Z (nt ?_))))))));obtain⟨T,a0,b0,a5⟩:=bl L;refine Cj (dt [30,31] [0,1,2,3,4] Z) (fun (g:List UInt8) (c:Int)=>[(8,(true,Cs g)),(32,(true,i_ c))]) (fun g c=>[]) (fun g c m=>Cp (Eg b) m (g,c)=some T) (fun g c=>T=.go (g,c)) b2 0 b0 a5 (sb Z) (pk [0,1,2,3,4]) ?_ ?_
  ·skip
   rintro g c rfl;refine Al (sr (wm Z (wa Z (nt (Bc ?_)))));obtain rfl:=(Ad a0).symm;refine Az Z Z (fun w d=>?_);exact⟨f.2.2,Z,d.pick [2,4] Ai,trivial⟩
  rintro g c b8 E;obtain⟨a9,c0,rfl,o,Q⟩:=A2 E;unfold Eg at o;simp only at o;refine sr (wq Z (QV.lss Z Z Z Z) (nt (Ax ?_)));refine wc Z o (fun W N=>?_) (fun W a3=>?_)
  ·skip
   refine sk (Al (Ax (Cr (sr ?_))));obtain⟨z,O⟩:=cs N;obtain⟨b9,R⟩:=q.1.lenMap.ix (sz:=10) Ap z;refine wq Z (Ae Awu Z Z Z Z R) (wq Z (Af Aay Z Z Z (el (Ah 2 Z n q.1) R z)) (Ab Z ((Ci Ai Ap4 (fun b5=>Ab Z ((ew 0 (Opr.cells (ele b.1.ops c)) Ap5 Z (nr (wm Z (wf Ac7 Z (wl pl3 Z (Aq 0 Z Z) (wf U8 Z (wl pl3 Z (Aq 0 Z Z) (wf U7 Z (wl pl3 Z (Aq 0 Z Z) (Ab Z ((D4 Ai M6 Ai Ai (ps:=[(0,.tmp 38),(1,.tmp 40),(2,.tmp 42)]) (cells:=[i_ ((ele b.1.ops c).slot),i_ ((ele b.1.ops c).stage),i_ ((ele b.1.ops c).dest)]) (ea Z) Ag (fun b6=>?_)))))))))))))))))));obtain⟨b3,a8,a1⟩:=An O;refine wq Z (QV.call A07 (ea Z) (fun w d=>have h:=Mz w a8 ((Bi 0 (rows:=[(ele b.1.ops c).slot,(ele b.1.ops c).stage,(ele b.1.ops c).dest].map Ar) Z Z (B3 Bf)) w d) (C.at d);h)) ?_;refine wa Z (Bm (Bd (Al (Bo (have ⟨c37,a2⟩:=cs a1;wq Z (A6 Z Z Z Z c37) (wm Z (Bm ?_)))))));exact B1 b3 (c+1) a9 (A4 a2 Q) (Ck _) (sb Z) (pk [2,3,4,5,6])
  refine C1 (te (te (Am ?_)));exact Ct g c (Bh a3 Q) (sb Z) (pk [0,1,2,3,4])
 refine WD.two 5 10 31 63 1055 Ag Z Z Z Z Ag Ag ?_ ?_
 ·skip
  refine(cr [1,0,2] n A08 Z (Qc S G F H) Z (fun x A I=>bp [0,1,2] Z (fun w d=>Fk I (Jy _) (d)) (zq 6 63 127 Z (QV.move Z Z) (zq 7 127 255 Z (Bp Z Z Z) (zq 8 255 511 Z (Bp Z Z Z) (zq 9 511 1023 Z (Bp Z Z Z) (Lh 10 1023 2047 Z Ag Z ((Ci Ai Afd (fun U=>bp [1,2,3] Z sm (Lh 11 2047 4095 Z Ag Z ((ex 0 [i_ b.1.pace,i_ b.1.stages,x.1] (show Ee _=List.toArray _ from Z) Wp (oc Z (oc Z (oc (De A.1.lenMap) Cg))) Z (bp [1,2,3] Z sm (zq 12 4095 8191 Z (QV.assign Z Z) (zq 13 8191 16383 Z (QV.assign Z Z) (Abf Ag ?_)))))))))))))))));exact Vw U x ⟨A,I⟩ (sb Z) (pk [0,1,2,3])
 refine(Ci Ai Afd (fun V=>bp [2,1,3] Z sm (Lh 5 1055 1087 Z Ag Z ((cr [2,0,1,3] n A08 Z (Qc S G F H) Z (fun y B J=>bp [0,2,3] Z (fun w d=>Fk J (Jy _) (d)) (zq 6 1087 1151 Z (QV.move Z Z) (zq 7 1151 1279 Z (Bp Z Z Z) (zq 8 1279 1535 Z (Bp Z Z Z) (zq 9 1535 2047 Z (Bp Z Z Z) (Lh 11 2047 4095 Z Ag Z ((ex 1 [i_ b.1.pace,i_ b.1.stages,y.1] (show Ee _=List.toArray _ from Z) Wp (oc Z (oc Z (oc (De B.1.lenMap) Cg))) Z (bp [0,2,3] Z sm (zq 12 4095 8191 Z (QV.assign Z Z) (zq 13 8191 16383 Z (QV.assign Z Z) (Abf Ag ?_)))))))))))))))));exact Vw V y ⟨B,J⟩ (sb Z) (pk [1,0,2,3])
theorem Jp {m:Nat}{N L:Ak}{c:Tgt}{o:List UInt8}{words:List (List UInt8)}{K:List Int}{r:List UInt8}{j:Aj} (n:B7 c o words K=some r) (s:Arr j N 1 (words.map Wi)) (q:Arr j L 1 (K.map Ar)) (M:Nat→Prop) (w:Aj) (f:GlbM Tryz.prog M w) (d:Base M j w) (a6:Own M w [blk m [.int .i64 c.u0,.int .i64 c.u1,.int .i64 c.u2,.int .i64 c.w0,.int .i64 c.w1,.int .i64 c.w2,.int .i64 c.regs,Cs o] 42] w):Calls Tryz.prog 25 #[.pointer (some (⟨m,0,none⟩)),N,L] w (fun e w'=>∃ X:Aj,e=.returned (Cs r)∧Own M w (kn M w.heap.size j X::[blk m [.int .i64 c.u0,.int .i64 c.u1,.int .i64 c.u2,.int .i64 c.w0,.int .i64 c.w1,.int .i64 c.w2,.int .i64 c.regs,Cs o] 42]) w'∧True):=by
 unfold B7 at n;refine cw 74 Tryz.func25 Z (sr (wa Z (ns (wm Z (wq Z (QV.nilCheck Z Z) (wf Agm Z (wl pl9 Z (Aq 1 Z Z) (Ab Z ?_)))))))) (Aw d a6);obtain⟨k,a8,z⟩:=An n;refine(cqG f d en15 Z (Am0 a8) Z (fun i b g=>wm Z (wq Z (Bp Z Z Z) (wq Z (Bp Z Z Z) (Ab Z ((Ci Ai ze47 (fun b7=>Ab Z ((Ci Ai ze50 (fun b8=>Ab Z ((ex 1 [i.1,i.2.1,i.2.2.1] (show Ee _=List.toArray _ from Z) Awt (oc (De b.1.lenMap) (oc (De b.2.1.lenMap) (oc (De b.2.2.lenMap) Cg))) Z (Ab Z ((ew 0 [i_ k.2.code,i_ k.2.at'] A0z Z (nt (Ax (sr (wf A51 Z (wl pl48 Z (Aq 0 Z Z) (wq Z (QV.neq Z Z Z Z) (nt ?_)))))))))))))))))))))));refine wc Z z (fun V H=>?_) (fun V t=>?_)
 ·skip
  refine sr (wf A50 Z (wl pl3 Z (Aq 0 Z Z) (Ab Z ((D4 Ai M6 Ai Ai (ps:=[(0,.tmp 26)]) (cells:=[i_ k.2.at']) (ea Z) Ag (fun b9=>?_))))));obtain⟨c5,a7,a1⟩:=An H;refine wq Z (QV.call A07 (ea Z) (fun w a=>have h:=Mz w a7 ((Bi 0 (rows:=[k.2.at'].map Ar) Z Z (B3 Bf)) w a) (f.at a);h)) ?_;refine wa Z (nt (Bc (tr ?_)));obtain rfl:=(Ad a1).symm;refine Az Z Z (fun w a=>?_);exact⟨i.2.2.2,Z,a.pick [3,4] Ai,trivial⟩
 refine sk (Al (Ax (sr (wm Z ?_))));obtain⟨p,u⟩:=cs t;obtain⟨c3,I⟩:=(s.le g).lenMap.ix (sz:=1) Ap p;refine wq Z (Ae Ta Z Z Z Z I) (wl pl9 Z (cl 0 (Ah 2 Z d (s.le g)) I p Z) (nt (Cr (sr (wq Z (Ey Z Z Z Z) (wa Z (nt ?_)))))));refine wc Z u (fun S v=>?_) (fun S y=>?_)
 ·skip
  refine Ax (dp 11 [2,0,1,3] Z (wz 0 Z Z (Af Fz Z Z Z (Ac 2 Z)) (zm 1 Z Z (wz 2 Z Z (QV.nilCheck Z Z) (zf 3 Xj Z Z (wz 4 Z Z (Af Hv Z Z Z (cu 0 7 (Ac 3 Z) Z)) (Dd 5 Z Ag Z ?_)))))));obtain⟨O,a9,x⟩:=An v;refine(cr [2,0,1,3] d Awz Z (Qq a9 b.1 b.2.1 b.2.2) Z (fun P W Y=>bp [0,1,2,3] Z (fun w a=>Fk Y g (a.pick [0,1,2,3] Ai)) (zm 6 Z Z (wz 7 Z Z (Bp Z Z Z) (wz 8 Z Z (Bp Z Z Z) (wz 9 Z Z (QV.assign Z Z) (wz 10 Z Z (QV.assign Z Z) (Em Ag (Al (sr (wm Z (wq Z (A5 Tryz.underlying53 Z Z W.lenMap) (Ab Z ((D4 Ai M6 Ai Ai (ps:=[(0,.tmp 44)]) (cells:=[i_ (ln O.1)]) (ea Z) Ag (fun b5=>?_))))))))))))))));obtain⟨c6,b0,a2⟩:=An x;refine wq Z (QV.call en51 (ea Z) (fun w a=>have h:=Of w b0 ((Bi 0 (rows:=[(ln O.1)].map Ar) Z Z (B3 Bf)) w a) (f.at a);h)) ?_;refine wa Z (nt (Bc (kr (tr ?_))));obtain rfl:=(Ad a2).symm;refine Az Z Z (fun w a=>?_);exact⟨P.2,Z,a.pick [1,4] Ai,trivial⟩
 refine sr (wq Z (Ey Z Z Z Z) (wa Z (nt ?_)));refine wc Z y (fun T A=>?_) (fun T C=>?_)
 ·skip
  refine Ax (dp 13 [2,0,1,3] Z (wz 0 Z Z (Af Fz Z Z Z (Ac 2 Z)) (zm 1 Z Z (wz 2 Z Z (QV.nilCheck Z Z) (zf 3 Xj Z Z (wz 4 Z Z (Af Hv Z Z Z (cu 0 7 (Ac 3 Z) Z)) ?_))))));obtain⟨l,b1,B⟩:=An A;refine wz 5 Z Z (QV.call en17 (ea Z) (fun w a=>have h:=Zv w b1 ((Ah 0 Z d b.1) w a) ((Ah 0 Z d b.2.1) w a) ((Ah 0 Z d b.2.2) w a);h)) ?_;refine zm 6 Z Z (wz 7 Z Z (Bp Z Z Z) (wz 8 Z Z (Bp Z Z Z) (wz 9 Z Z (Bp Z Z Z) (wz 10 Z Z (QV.assign Z Z) (wz 11 Z Z (QV.assign Z Z) (wz 12 Z Z (QV.assign Z Z) (Em Ag (Al (sr (wm Z (wm Z (Ab Z ((D4 Ai M6 Ai Ai (ps:=[(0,.tmp 59),(1,.tmp 60)]) (cells:=[i_ l.1,i_ l.2.1]) (ea Z) Ag (fun b6=>?_)))))))))))))));obtain⟨c7,b2,a3⟩:=An B;refine wq Z (QV.call en51 (ea Z) (fun w a=>have h:=Of w b2 ((Bi 0 (rows:=[l.1,l.2.1].map Ar) Z Z (B3 Bf)) w a) (f.at a);h)) ?_;refine wa Z (nt (Bc (kr (tr ?_))));obtain rfl:=(Ad a3).symm;refine Az Z Z (fun w a=>?_);exact⟨i.2.2.2,Z,a.pick [3,4] Ai,trivial⟩
 refine sr (wq Z (Ey Z Z Z Z) (wa Z (nt ?_)));refine wc Z C (fun U E=>?_) (fun U F=>?_)
 ·skip
  refine sr (wm Z (wq Z (Af Fz Z Z Z (Ac 1 Z)) (Ab Z ?_)));obtain⟨c8,b3,a4⟩:=An E;refine(crG [2,3,0,1] f d en52 Z (Yh b3 b.1 b.2.1 b.2.2) Z (fun Q c0 c2=>wa Z (nt (Bc (kr (tr ?_))))));obtain rfl:=(Ad a4).symm;refine Az Z Z (fun w a=>?_);exact⟨Q,Z,a.pick [0,1] Ai,trivial⟩
 refine sk (Bd (Al (Ax (dp 7 [2,0,1,3] Z (zm 0 Z Z (wz 1 Z Z (Af Fz Z Z Z (Ac 2 Z)) (zm 2 Z Z ?_)))))));obtain⟨c46,G⟩:=cs F;obtain⟨c4,J⟩:=(q.le g).lenMap.ix (sz:=1) Ap c46;refine wz 3 Z Z (Ae Fy Z Z Z Z J) (zl 4 pl3 Z Z (cl 0 (Ah 0 Z d (q.le g)) J c46 Z) (Dd 5 Z Ag Z ?_));obtain⟨c9,b4,a5⟩:=An G;refine(crG [2,3,0,1] f d en53 Z (Yg b4 b.1 b.2.1 b.2.2) Z (fun R c1 a0=>bp [0,1,2,3] Z (fun w a=>Fk a0 g (a.pick [0,2,3,1] Ai)) (wz 6 Z Z (QV.assign Z Z) (Em Ag (Al (Bc ?_))))));obtain rfl:=(Ad a5).symm;refine Az Z Z (fun w a=>?_);exact⟨R,Z,a.pick [0,1] Ai,trivial⟩
theorem Za {n:Nat}{g:Tgt}{l s:List UInt8}{r:List UInt8×Tgt×List UInt8}{m:Aj} (o:Dc g l s=some r)  (M:Nat→Prop) (w:Aj) (d:GlbM Tryz.prog M w) (c:Base M m w) (d0:Own M w [blk n [.int .i64 g.u0,.int .i64 g.u1,.int .i64 g.u2,.int .i64 g.w0,.int .i64 g.w1,.int .i64 g.w2,.int .i64 g.regs,Cs l] 42] w):Calls Tryz.prog 13 #[.pointer (some (⟨n,0,none⟩)),Cs s] w (fun e w'=>∃ X:Aj,e=.returned (Cs r.1)∧Own M w (kn M w.heap.size m X::[blk n [.int .i64 r.2.1.u0,.int .i64 r.2.1.u1,.int .i64 r.2.1.u2,.int .i64 r.2.1.w0,.int .i64 r.2.1.w1,.int .i64 r.2.1.w2,.int .i64 r.2.1.regs,Cs r.2.2] 42]) w'∧True):=by
 unfold Dc at o;refine cw 81 Tryz.func13 Z (sr (wa Z (nt (Ax (sr (wm Z ?_)))))) (Aw c d0);obtain⟨p,d3,B⟩:=An o;refine wq Z (QV.call en21 (ea Z) (fun w a=>have h:=Aer w d3 ;h)) ?_;refine wm Z (wq Z (Bp Z Z Z) (wq Z (Bp Z Z Z) (wa Z (wa Z (ns (wm Z (nt ?_)))))));refine wc Z B (fun a7 J=>?_) (fun a7 v=>?_)
 ·skip
  refine sr (wm Z (wq Z (QV.nilCheck Z Z) (wf Agm Z (wl pl9 Z (Aq 1 Z Z) (wm Z ?_)))));obtain⟨c6,c8,U⟩:=cs2 J;refine wq Z (Ic Z Z Z Z c6) (wq Z (Ic Z Z Z Z c8) (wq Z (QV.nilCheck Z Z) (wf Agm Z (Ab Z ((ew 1 [Cs (l++(p.1++[10]))] sz9 Z (ns (wm Z (wq Z (QV.nilCheck Z Z) (wf Agm Z (wl pl9 Z (Aq 1 Z Z) (wq Z (Ro Tryz.underlying9 Z Z) (Ab Z ((D4 Ai M6 Ai Ai (ps:=[(0,.tmp 29)]) (cells:=[i_ (ln (l++(p.1++[10])))]) (ea Z) Ag (fun e1=>?_))))))))))))))));obtain⟨f5,d1,b6⟩:=An U;refine wq Z (QV.call A07 (ea Z) (fun w a=>have h:=Mz w d1 ((Bi 0 (rows:=[(ln (l++(p.1++[10])))].map Ar) Z Z (B3 Bf)) w a) (d.at a);h)) ?_;refine wa Z (nt (Bc (tr ?_)));obtain rfl:=(Ad b6).symm;refine Az Z Z (fun w a=>?_);exact⟨m,Z,a.pick [1,2] Ai,trivial⟩
 refine sk (Al (Ax (sr (wm Z (wq Z (Ey Z Z Z Z) (nt ?_))))));refine wc Z v (fun a4 b7=>?_) (fun a4 x=>?_)
 ·skip
  refine sr (wm Z (wq Z (QV.nilCheck Z Z) (wf Agm Z (Ab Z ((ew 1 [Cs []] sz9 Z (ns (wa Z (nt (Bc (tr ?_)))))))))));obtain rfl:=(Ad b7).symm;refine Az Z Z (fun w a=>?_);exact⟨m,Z,a.pick [0,1] Ai,trivial⟩
 refine sk (Al (sr (wm Z (Ab Z ?_))));obtain⟨f6,d2,y⟩:=An x;refine(cqG d c A09 Z (Afa d2) Z (fun e0 b e7=>wa Z (ns (wm Z ?_))));obtain⟨q,z⟩:=cs y;refine have b5:=I7 b q;wq Z (Od Ta Z Z b.lenMap Z Z q) (Ab Z ?_);obtain⟨f7,d4,A⟩:=An z;refine(cqG d c en23 Z (Aez d4 b5) Z (fun k i f=>wm Z (wq Z (Bp Z Z Z) (wq Z (Bp Z Z Z) (wa Z (wa Z (nt (Ax (Cr (sr (wm Z (wq Z (QV.not Z Z) (wa Z (nt ?_))))))))))))));refine wc Z A (fun a5 b8=>?_) (fun a5 C=>?_)
 ·skip
  refine sr (wa Z (nt (Bc (kr (tr ?_)))));obtain rfl:=(Ad b8).symm;refine Az Z Z (fun w a=>?_);exact⟨k.2,Z,a.pick [0,1] Ai,trivial⟩
 refine sr (wm Z ?_);obtain⟨t,E⟩:=cs C;obtain⟨f3,V⟩:=(b.le f).lenMap.ix (sz:=1) Ap t;refine wq Z (Ae Ta Z Z Z Z V) (wl pl9 Z (cl 0 (Ah 0 Z c (b.le f)) V t Z) (wq Z (Ey Z Z Z Z) (wm Z (gP Z (QV.move Z Z) (gp Z (fun j=>A5 Tryz.underlying34 Z j i.lenMap) (gp Z (fun j=>QV.eql Z j Z Z) (wq Z (A8 Z Z Z (fun h=>h)) (wa Z (nt ?_)))))))));refine wc Z E (fun a6 F=>?_) (fun a6 G=>?_)
 ·skip
  refine sr (wm Z (wm Z (Ab Z ?_)));obtain⟨f8,d5,b9⟩:=An F;refine(cqG d c en24 Z (Wa d5 i) Z (fun Y e2 e8=>wa Z (nt (Bc (kr (tr ?_))))));obtain rfl:=(Ad b9).symm;refine Az Z Z (fun w a=>?_);exact⟨Y,Z,a.pick [0,1] Ai,trivial⟩
 refine Ax (sr (wm Z (wq Z (Ey Z Z Z Z) (wa Z (nt ?_)))));refine wc Z G (fun a8 H=>?_) (fun a8 K=>?_)
 ·skip
  refine sk (Al ?_);refine wc Z H (fun a9 I=>?_) (fun a9 c1=>?_)
  ·skip
   refine sr (wm Z (wm Z (wm Z (Ab Z ?_))));obtain⟨f9,d6,c0⟩:=An I;refine(cqG d c A06 Z (Jp d6 (b.le f) i) Z (fun a0 e3 e9=>wa Z (nt (Bc (kr (tr ?_))))));obtain rfl:=(Ad c0).symm;refine Az Z Z (fun w a=>?_);exact⟨a0,Z,a.pick [0,1] Ai,trivial⟩
  refine sk (Bd (Al (sr (wa Z (nt (Bc ?_))))));obtain rfl:=(Ad c1).symm;refine Az Z Z (fun w a=>?_);exact⟨k.2,Z,a.pick [0,1] Ai,trivial⟩
 refine sr (wm Z (wq Z (Ey Z Z Z Z) (wa Z (nt ?_))));refine wc Z K (fun b0 L=>?_) (fun b0 O=>?_)
 ·skip
  refine sk (Al ?_);refine wc Z L (fun b1 N=>?_) (fun b1 c3=>?_)
  ·skip
   refine sr (wm Z (wm Z (wm Z (Ab Z ?_))));obtain⟨g0,d7,c2⟩:=An N;refine(cqG d c A06 Z (Jp d7 (b.le f) i) Z (fun a1 e4 f0=>wa Z (nt (Bc (kr (tr ?_))))));obtain rfl:=(Ad c2).symm;refine Az Z Z (fun w a=>?_);exact⟨a1,Z,a.pick [0,1] Ai,trivial⟩
  refine sk (Bd (Al (sr (wa Z (nt (Bc ?_))))));obtain rfl:=(Ad c3).symm;refine Az Z Z (fun w a=>?_);exact⟨k.2,Z,a.pick [0,1] Ai,trivial⟩
 refine sr (wm Z (wq Z (Ey Z Z Z Z) (wa Z (nt ?_))));refine wc Z O (fun b2 P=>?_) (fun b2 R=>?_)
 ·skip
  refine sk (Al ?_);refine wc Z P (fun b3 Q=>?_) (fun b3 c5=>?_)
  ·skip
   refine sr (wm Z (wm Z (wm Z (Ab Z ?_))));obtain⟨g1,d8,c4⟩:=An Q;refine(cqG d c A06 Z (Jp d8 (b.le f) i) Z (fun a2 e5 f1=>wa Z (nt (Bc (kr (tr ?_))))));obtain rfl:=(Ad c4).symm;refine Az Z Z (fun w a=>?_);exact⟨a2,Z,a.pick [0,1] Ai,trivial⟩
  refine sk (Bd (Al (sr (wa Z (nt (Bc ?_))))));obtain rfl:=(Ad c5).symm;refine Az Z Z (fun w a=>?_);exact⟨k.2,Z,a.pick [0,1] Ai,trivial⟩
 refine Bo (wm Z ?_);obtain⟨u,S⟩:=cs R;obtain⟨f4,W⟩:=(b.le f).lenMap.ix (sz:=1) Ap u;refine wq Z (Ae Ta Z Z Z Z W) (wl pl9 Z (cl 0 (Ah 0 Z c (b.le f)) W u Z) (wq Z (Ey Z Z Z Z) (wm Z (gP Z (QV.move Z Z) (gp Z (fun j=>A5 Tryz.underlying34 Z j i.lenMap) (gp Z (fun j=>QV.eql Z j Z Z) (wq Z (A8 Z Z Z (fun h=>h)) (wa Z (nt ?_)))))))));refine wc Z S (fun b4 T=>?_) (fun b4 c9=>?_)
 ·skip
  refine sr (wm Z (wm Z (wm Z (Ab Z ?_))));obtain⟨g2,d9,c7⟩:=An T;refine(cqG d c A06 Z (Jp d9 (b.le f) i) Z (fun a3 e6 f2=>wa Z (nt (Bc (kr (tr ?_))))));obtain rfl:=(Ad c7).symm;refine Az Z Z (fun w a=>?_);exact⟨a3,Z,a.pick [0,1] Ai,trivial⟩
 refine sk (Bd (Al (sr (wa Z (nt (Bc ?_))))));obtain rfl:=(Ad c9).symm;refine Az Z Z (fun w a=>?_);exact⟨k.2,Z,a.pick [0,1] Ai,trivial⟩
theorem V5 {S r:List UInt8} (w:Aj) (C:Jj S=some r) (a2:Glb Tryz.prog w):Calls Tryz.prog 7 #[Cs S] w (fun e w'=>e=.returned (Cs r)∧Grow w w'):=by
 unfold Jj at C;refine have s:=D2 (w:=w);cw 45 Tryz.func7 Z (have H:=Zb a2;sr (wa Z (ns (wm Z (Ab Z ?_))))) (Aw s (D3 w));obtain⟨y,b4,K⟩:=An C;refine(cqG H s A09 Z (Afa b4) Z (fun p o c0=>wa Z (nt (Ax (sr (wm Z (wm Z (wq Z (A5 Tryz.underlying22 Z Z o.lenMap) ?_))))))));obtain⟨c5,c7,N⟩:=cs2 K;refine wq Z (Du Z Z Z Z c5) ?_;obtain⟨c3,P⟩:=o.lenMap.ix (sz:=1) Ap c7;refine wq Z (Ae Ta Z Z Z Z P) (wl pl9 Z (cl 0 (Ah 0 Z s o) P c7 Z) (wq Z (Ey Z Z Z Z) (nt ?_)));obtain⟨b8,v,a4⟩:=An N;refine Y0 (dt [] [0] Z) (fun (q:List (List UInt8)) (u:Ak)=>[(3,(true,u))]) (fun q u=>[]) (fun q u=>b8=.go q∧Arr p.2 u 1 (q.map Wi)) (sb Z) (pk [0]) ?_ ?_
 ·skip
  rintro q u ⟨rfl,B⟩;refine sr (wq Z (QV.build (ps:=[(0,.const (i_ 2)),(1,.const (i_ 1)),(2,.const (i_ 1))]) (cells:=[i_ 2,i_ 1,i_ 1]) (ea Z) Ag) (wq Z (QV.build (ps:=[(0,.const (i_ 1)),(1,.const (i_ 3)),(2,.const (i_ 2))]) (cells:=[i_ 1,i_ 3,i_ 2]) (ea Z) Ag) (wq Z (QV.build (ps:=[(0,.tmp 22),(1,.tmp 23),(2,.const (i_ 32))]) (cells:=[i_ 2,i_ 1,i_ 1,i_ 1,i_ 3,i_ 2,i_ 32]) (ea Z) Ag) (wq Z (QV.build (ps:=[(0,.tmp 24)]) (cells:=[i_ 2,i_ 1,i_ 1,i_ 1,i_ 3,i_ 2,i_ 32,Cs []]) (ea Z) Ag) (Ab Z ((A3 Ai Z Z (fun U=>wa Z (ns (wa Z (nt (Ax (sr (wm Z (wm Z (wq Z (A5 Tryz.underlying22 Z Z B.lenMap) (wq Z (QV.min2 Z Z Z Z) (have ⟨E,J⟩:=cs a4;have A:=I7 B E;wq Z (P6 Ta Z Z B.lenMap Z Z E) (wq Z (A5 Tryz.underlying22 Z Z A.lenMap) (wm Z (nt ?_)))))))))))))))))))));obtain⟨R,a5,b7,b2⟩:=bl J;refine Ash (dt [4,31,32] [] Z) (fun (c:Int) (d:Int) (f:Int) (g:Int) (h:Int) (i:Int) (j:Int) (k:List UInt8) (a:List UInt8) (b:Int) (l:Aj)=>[(5,(true,Cs a)),(33,(true,i_ b))]) (fun c d f g h i j k a b l=>[blk U [i_ c,i_ d,i_ f,i_ g,i_ h,i_ i,i_ j,Cs k] 42,kn noM w.heap.size w l]) (fun c d f g h i j k a b l m=>Cp (Jv q) m (c,d,f,g,h,i,j,k,a,b)=some R∧Le p.2 l) (fun c d f g h i j k a b l=>R=.go (c,d,f,g,h,i,j,k,a,b)∧Le p.2 l) 2 1 1 1 3 2 32 [] [] 0 p.2 b7 ⟨b2,(Jy _)⟩ (sb Z) (pk [0,1]) ?_ ?_
  ·skip
   rintro c d f g h i j k a b l ⟨rfl,t⟩;refine Al (sr (wm Z (wa Z (nt (Bc ?_)))));obtain rfl:=(Ad a5).symm;exact Az Z Z fun w b3=>kg b3
  rintro c d f g h i j k a b l c1 ⟨I,t⟩;obtain⟨b6,c4,rfl,x,O⟩:=A2 I;unfold Jv at x;simp only at x;refine sr (wq Z (QV.lss Z Z Z Z) (nt (Ax ?_)));refine wc Z x (fun a0 L=>?_) (fun a0 a8=>?_)
  ·skip
   refine sk (Al (Ax (Cr (sr ?_))));obtain⟨F,M⟩:=cs L;obtain⟨c2,Q⟩:=(A.le t).lenMap.ix (sz:=1) Ap F;refine wq Z (Ae Ta Z Z Z Z Q) (wl pl9 Z (cl 0 (Ah 1 Z s (A.le t)) Q F Z) (wa Z (nr (wm Z (wm Z (wm Z (Ab Z ?_)))))));obtain⟨n,b5,a6⟩:=An M;refine(crG [1,0] H s en13 Z (Za b5) Z (fun T b9 a3=>have ⟨V,W,X,a7⟩:=cs3 a6;wq Z (Ic Z Z Z Z V) (wq Z (Ic Z Z Z Z W) (wa Z (Bm (Bd (Al (Bo (wq Z (A6 Z Z Z Z X) (wm Z (Bm ?_)))))))))));exact Asf n.2.1.u0 n.2.1.u1 n.2.1.u2 n.2.1.w0 n.2.1.w1 n.2.1.w2 n.2.1.regs n.2.2 (a++(n.1++[10])) (b+1) T b6 ⟨A4 a7 O,(t.trans a3)⟩ (Ck _) (sb Z) (pk [1,0])
  refine C1 (te (te (Am ?_)));exact A0s c d f g h i j k a b l ⟨Bh a8 O,t⟩ (sb Z) (pk [0,1])
 refine Aes Z (fun z=>?_) (fun z=>?_)
 ·skip
  have a9:=Akj z v;clear v;refine Bo (wm Z (wm Z (wq Z (A5 Tryz.underlying22 Z Z o.lenMap) (have ⟨Y,G,b0⟩:=cs2 a9;wq Z (Du Z Z Z Z Y) (have a1:=I7 o G;wq Z (P6 Ta Z Z o.lenMap Z Z G) (wa Z (Bm ?_)))))));exact Ct (sub y 0 ((ln y) - 1)) (Ng p.1 1 (Int.toNat 0) (Int.toNat ((ln y) - 1))) ⟨Ad b0,a1⟩ (sb Z) (pk [0])
 have b1:=Akk z v;clear v;refine sk ?_;exact Ct y p.1 ⟨Ad b1,o⟩ (sb Z) (pk [0])
end Go.Proofs.YtaimbkndebaaiaaGreatDoor
end
section
namespace Go.Proofs.YtaimbkndebaaiaaGreatDoor
open Go.Rd
open TLib TLibR TLibA TSay TNum0 TNum TLoop TPar TStable TMach TMach2 TKern TClone TNbr TSeq TKRun TKeep TOrd TCpt TDep TSched1 TEmit TCheck TRegs TBound TMake TBuild TCheck2 TDrv
namespace TR14
end TR14
open TR14
end Go.Proofs.YtaimbkndebaaiaaGreatDoor
end
section
namespace Go.Proofs.YtaimbkndebaaiaaGreatDoor
open Go.Rd
open TLib TLibR TLibA TSay TNum0 TNum TLoop TPar TStable TMach TMach2 TKern TClone TNbr TSeq TKRun TKeep TOrd TCpt TDep TSched1 TEmit TCheck TRegs TBound TMake TBuild TCheck2 TDrv TR14
namespace TSaid
end TSaid
open TSaid
end Go.Proofs.YtaimbkndebaaiaaGreatDoor
end
section
namespace Go.Proofs.YtaimbkndebaaiaaGreatDoor
open Go.Rd
open TLib TLibR TLibA TSay TNum0 TNum TLoop TPar TStable TMach TMach2 TKern TClone TNbr TSeq TKRun TKeep TOrd TCpt TDep TSched1 TEmit TCheck TRegs TBound TMake TBuild TCheck2 TDrv TR14 TSaid
namespace TPla
end TPla
open TPla
end Go.Proofs.YtaimbkndebaaiaaGreatDoor
end
section
namespace Go.Proofs.YtaimbkndebaaiaaGreatDoor
open Go.Rd
open TLib TLibR TLibA TSay TNum0 TNum TLoop TPar TStable TMach TMach2 TKern TClone TNbr TSeq TKRun TKeep TOrd TCpt TDep TSched1 TEmit TCheck TRegs TBound TMake TBuild TCheck2 TDrv TR14 TSaid TPla
namespace TLawDrive
theorem en7:Go.Rd.Enters Tryz.prog 7:=eT Tryz.func7
end TLawDrive
open TLawDrive
theorem Un {a b:List UInt8}{r:Bool} (w:Aj) (g:G8 a b=some r) (m:Glb Tryz.prog w):Calls Tryz.prog 4 #[Cs a,Cs b] w (fun e w'=>e=.returned (.bool r)∧Grow w w'):=by
 unfold G8 at g;refine have n:=D2 (w:=w);cw 32 Tryz.func4 Z (have f:=Zb m;sr (wa Z (ns (wm Z (have ⟨c1,j⟩:=cs g;wq Z (Ic Z Z Z Z c1) (wa Z (ns (wm Z ?_)))))))) (Aw n (D3 w));obtain⟨x,t,q⟩:=An j;refine wq Z (QV.call en7 (ea Z) (fun w d=>have h:=V5 w t (f.at d);h)) ?_;refine wa Z (ns (wm Z (wm Z (have ⟨c6,k⟩:=cs q;wq Z (Ic Z Z Z Z c6) ?_))));obtain⟨y,u,i⟩:=An k;refine wq Z (QV.call en7 (ea Z) (fun w d=>have h:=V5 w u (f.at d);h)) ?_;refine wa Z (ns ?_);obtain⟨v,s,o⟩:=An i;refine wq Z (QV.call en7 (ea Z) (fun w d=>have h:=V5 w s (f.at d);h)) ?_;refine wq Z (Ey Z Z Z Z) (wm Z (gP Z (QV.move Z Z) (gp Z (fun c=>Ro Tryz.underlying9 Z c) (gP Z (QV.move Z Z) (gp Z (fun c=>Ro Tryz.underlying9 Z c) (gp Z (fun c=>QV.geq Z c Z c) (wq Z (A8 Z Z Z (fun h=>h)) (wm Z (gP Z (QV.move Z Z) (gP Z (QV.move Z Z) (gp Z (fun c=>Ro Tryz.underlying9 Z c) (have ⟨l,p⟩:=cs o;gp Z (fun c=>A3b Tryz.underlying9 Z c Z c (l c)) (gP Z (QV.move Z Z) (gp Z (fun c=>Ey Z c Z c) (wq Z (A8 Z Z Z (fun h=>h)) (wa Z (nt (Bc ?_))))))))))))))))));obtain rfl:=(Ad p).symm;exact Az Z Z fun w d=>kg d
end Go.Proofs.YtaimbkndebaaiaaGreatDoor
end
section
namespace Go.Rd
open Go.RowKit
theorem Ajk {P:Bu}{W:Aj}:∀ {l:List (String×DataW Unit)}{ps:List MemPlace},DataW.LaidVars P W l ps→∀ {nm:String}{d:DataW Unit},(nm,d)∈l →
  ∃ g t cs b p,P.globalNamed nm=some g∧(P.globals[g]?).map (·.type)=some t∧W.var? P nm=some cs∧DataW.trod (fun _=>()) P W 0 (fun _=>true) Ay b t cs.toList=some (d,p)
 | [],_,_,_,_,a=>absurd a Ba
 | (n,d0)::r,ps,⟨g,t,cs,b,p,q,h1,h2,h3,h4,h5,_⟩,nm,d,a=>by
  rcases Gl.1 a with e | a
  ·cases e;exact⟨g,t,cs,b,p,h1,h2,h3,h4⟩
  ·exact Ajk h5 a
theorem Atq {P:Bu}{W:Aj}{l:List (String×DataW Unit)} (h:laidMet P l W) (i:Nat) {nm:String}{d:DataW Unit} (hi:l[i]?=some (nm,d)) :
  ∃ g t cs a p,P.globalNamed nm=some g∧(P.globals[g]?).map (·.type)=some t∧W.var? P nm=some cs∧DataW.trod (fun _=>()) P W 0 (fun _=>true) Ay a t cs.toList=some (d,p):=by
 obtain⟨ps,h,_⟩:=h;exact Ajk h (Wz hi)
theorem Aot {P:Bu}{W:Aj}{l:List (String×DataW Unit)} (h:laidMet P l W) (i:Nat) {nm:String}{k:IntKind}{a:List Int} (hi:l[i]?=some (nm,Lib.tabData k a)) {g:Nat}{t e:TypeId}{n:Nat}
  (q:P.globalNamed nm=some g) (s:(P.globals[g]?).map (·.type)=some t) (r:P.underlying t=some (.array n e)) (o:P.underlying e=some (.int k)) (j:P.cellsOf e=1) (m:P.cellsOf t=n):Lib.TabIs P W nm k a:=by
 obtain⟨g',v,cs,u,p,b,c,d,f⟩:=Atq h i hi;obtain rfl:=Akt (q.symm.trans b);obtain rfl:=Akt (s.symm.trans c);unfold Lib.TabIs;rw[d,←Lib.cells_of_tab r o j m f]
theorem Az2 {P:Bu}{W:Aj}{l:List (String×DataW Unit)} (h:laidMet P l W) (i:Nat) {nm s:String}{d:DataW Unit} (hi:l[i]?=some (nm,.iface s d)) {g:Nat}{t:TypeId}{ms:Array (String×TypeId)}
  (j:P.globalNamed nm=some g) (m:(P.globals[g]?).map (·.type)=some t) (k:P.underlying t=some (.interface ms)):∃ t p,W.var? P nm=some #[.iface t p]:=by
 obtain⟨g',q,cs,o,p,a,b,c,e⟩:=Atq h i hi;obtain rfl:=Akt (j.symm.trans a);obtain rfl:=Akt (m.symm.trans b);obtain⟨n,u,v,f,_⟩:=iface_of_trod k e;exact⟨u,v,by rw[c];congr 1;exact Array.ext' f⟩
def A33 (l:List (String×DataW Unit)) (i:Nat) (nm:String):Bool:=match l[i]? with
 | some (n,.iface _ _)=>Ao (n=nm)
 | _=>Ay
theorem Ajl {P:Bu}{W:Aj}{l:List (String×DataW Unit)} (h:laidMet P l W) (i:Nat) {nm:String} (hi:A33 l i nm=true) {g:Nat}{t:TypeId}{ms:Array (String×TypeId)}
  (a:P.globalNamed nm=some g) (c:(P.globals[g]?).map (·.type)=some t) (b:P.underlying t=some (.interface ms)):∃ t p,W.var? P nm=some #[.iface t p]:=by
 unfold A33 at hi;split at hi
 ·rename_i n s d e
  obtain rfl:=Af7 hi;exact Az2 h i e a c b
 ·cases hi
def Anr:Nat→List Nat→Bool
 | _,[]=>true
 | m,k::r=>!(m.testBit k)&&Anr (m ||| (1 <<< k)) r
theorem Aee:∀ {l:List Nat}{m:Nat},Anr m l=true→l.Nodup∧∀ k∈l,m.testBit k=Ay
 | [],m,_=>⟨List.nodup_nil,Ba⟩
 | k::r,m,h=>by
  simp only[Anr,E0,Aky] at h;obtain⟨c,d⟩:=Aee h.2
  have b:∀ j∈r,m.testBit j=Ay∧k≠j:=fun j a=>by
   have:=d j a;rw[Nat.testBit_or,Ss,Nat.one_shiftLeft,Nat.testBit_two_pow] at this;exact⟨this.1,of_decide_eq_false this.2⟩
  refine⟨Akv.2 ⟨fun e=>(b k e).2 rfl,c⟩,fun j a=>?_⟩;rcases Gl.1 a with rfl | a
  ·exact h.1
  ·exact(b j a).1
def Aby:MemPlace→Nat
 | .cell b off=>b * 512+off
 | .map b=>b * 512+511
theorem Aey {P:Bu}{w:Aj}{l:List (String×DataW Unit)} (c:Nat) (h:(DataW.laidRun P w c (l.map (·.1))).map (·.1)=some l)
  (f:(DataW.laidRun P w c (l.map (·.1))).map (fun x=>Anr 0 (x.2.map Aby))=some true) (g:(DataW.laidRun P w c (l.map (·.1))).map (fun x=>laidRowsB P w x.2)=some true):laidMet P l w:=by
 cases d:DataW.laidRun P w c (l.map (·.1)) with
 | none=>simp[d] at h
 | some x =>
  obtain⟨j,ps⟩:=x;simp only[d,Aku,Gf] at h g f;subst h;exact laidMet_of_run c d (Lr (List.Pairwise.of_map Aby (fun a b i e=>i (congrArg Aby e)) (Aee f).1)) g
noncomputable def Sa (P:Bu) (n g:Nat) (cs:Array Ak) (os:Os):Aj :=
 { World.doorLaid P n os with heap:=match (World.doorLaid P n os).heap[g]? with
  | some (.cells _ e f)=>(World.doorLaid P n os).heap.setIfInBounds g (.cells cs e f)
  | _=>(World.doorLaid P n os).heap }
end Go.Rd
end