/- Texts for the law, 8. -/
import Derived.Test.YtaimbkndebaaiacZLbuildRuns7
import Derived.Test.YtaimbkndebaaiacProg
import Derived.KernelRfl
set_option linter.unusedVariables false
set_option linter.unusedSimpArgs false
set_option maxRecDepth 8000
section
namespace Go.Proofs.Ytaimbkndebaaiac
open Go.Rd
open TNum TLoop TStable TMach TMach2 TKern TClone TNbr TSeq TKRun TKeep TOrd TCpt TDep TSched1 TEmit TCheck TRegs TBound
namespace TMake
theorem en70:Go.Rd.Enters Try.prog 70:=eT Try.func70
theorem en71:Go.Rd.Enters Try.prog 71:=eT Try.func71
theorem en72:Go.Rd.Enters Try.prog 72:=eT Try.func72
theorem Sv:C8 Try.prog 91 2:=by unfold C8;kernel_rfl
theorem Vs:ZeroT Try.prog 91 [.int .i64 0,.slice none 0 0]:=by unfold ZeroT;kernel_rfl
end TMake
open TMake
theorem Yg {v_l_logs v_l_body v_l_outs v_edges:Value}{l:Lp}{t:Tgt}{pace:Int}{edges:List Edg}{r:Pln}{K0:World} (hm:Ff l t pace edges=some r) (h_l_logs:Arr K0 v_l_logs 1 (l.logs.map Af)) (h_l_body:Arr K0 v_l_body 9 (l.body.map Stm.cells)) (h_l_outs:Arr K0 v_l_outs 1 (l.outs.map Af)) (h_edges:Arr K0 v_edges 4 (edges.map Edg.cells)) (M:Nat→Prop) (w:World) (hk:Base M K0 w) (hw0:Own M w [] w):Calls Try.prog 72 #[.agg #[v_l_logs,v_l_body,v_l_outs],.agg #[.int .i64 t.u0,.int .i64 t.u1,.int .i64 t.u2,.int .i64 t.w0,.int .i64 t.w1,.int .i64 t.w2,.int .i64 t.regs],.int .i64 pace,v_edges] w (fun e w'=>∃ X:Value×World,e=.returned (.agg #[.int .i64 r.pace,X.1])∧Own M w (kn M w.heap.size K0 X.2::[]) w'∧Arr X.2 X.1 1 (r.times.map Af)):=by
 unfold Ff at hm
 refine Ak (n:=96) (args:=[.agg #[v_l_logs,v_l_body,v_l_outs],.agg #[i_ t.u0,i_ t.u1,i_ t.u2,i_ t.w0,i_ t.w1,i_ t.w2,i_ t.regs],i_ pace,v_edges]) Try.func72 Z Z (nl Z) ?_ (An hk hw0)
 refine sr (Aa Z ?_)
 refine(Aq (by decide) Z Z (fun b1=>?_))
 refine Aa Z ?_
 refine(Aq (by decide) Z Z (fun b2=>?_))
 refine Aa Z ?_
 refine(EV.alloc (by decide) Vs (fun b3=>?_))
 refine ns (wm Z (wq Z (QV.build (ps:=[(0,.tmp 17)]) (cells:=[i_ pace,.slice none 0 0]) (ec Z eN) (by kernel_rfl)) (Aa Z ?_)))
 refine(EV.alloc (by decide) Vs (fun b4=>?_))
 refine Aa Z ?_
 refine(EV.store 0 Z Z Z Z Z Z (vs:=[i_ pace,.slice none 0 0]) (show Value.cells _=List.toArray _ from Z) Sv (nl Z) (oc Z (oc Z Aw)) ?_)
 refine ns (Aa Z ?_)
 refine(EV.makeMap (ke:=kP) (ve:=Cg) (by decide) (fun b5=>?_))
 refine wa Z (nt (WC.seq (sr (wf Co Z (wl Gv Z (Own.cell 4 Z Z) (wq Z (Ay Try.underlying23 Z Z h_l_body.lenMap) (wm Z (nt ?_))))))))
 refine WK.of (fun w hw=>hw.vecNil (E:=3) (sz:=1) (enc:=Af)) ?_
 obtain⟨o7,ho8,hm9⟩:=Ag hm;clear hm;obtain⟨n10,ho11⟩:=A0 ho8
 refine I5 (H2:=[blk b3 [i_ 0,.slice none 0 0] 91,blk b2 t.cells 28,blk b1 [v_l_logs,v_l_body,v_l_outs] 25,kn M w.heap.size K0 K0]) (τ:=[u_ 2 _,u_ 3 _,u_ 5 _,u_ 8 _,u_ 9 _,u_ 10 _,u_ 21 _,u_ 22 _]) (fun (v6_7:List Int) (m5n_7:List ((Int×Int)×Int)) (x23_7:Int) (uv6_7:Value)=>[(23,(true,i_ x23_7))]) (fun v6_7 m5n_7 x23_7 uv6_7=>[vec uv6_7 3 1 (List.map Af v6_7),Eb b5 kP Cg m5n_7,blk b4 [i_ pace,uv6_7] 91]) (fun v6_7 m5n_7 x23_7 uv6_7 m=>B3 (Fs l t pace edges) m (v6_7,m5n_7,x23_7)=some o7∧SliceLen uv6_7 v6_7.length) (fun v6_7 m5n_7 x23_7 uv6_7=>o7=.go (v6_7,m5n_7,x23_7)∧SliceLen uv6_7 v6_7.length) [] ([]:List ((Int×Int)×Int)) 0 (.slice none 0 0) n10 ⟨ho11,SliceLen.nil⟩ ⟨Z,Z,Z,Z,Z,Z,Z,Z,Z,trivial⟩ (pk [0,1,2,3,4,5,6]) ?_ ?_
 ·skip
  rintro v6_7 m5n_7 x23_7 uv6_7 ⟨rfl,hlv6_7⟩
  refine WQ.then (sr (wq Z (Ac Nt Z Z Z (Ab 2 Z)) (Aa Z ?_)))
  refine(EV.store 3 Z Z Z Z Z Z (vs:=[i_ pace,uv6_7]) (show Value.cells _=List.toArray _ from Z) Sv (nl Z) (oc Z (oc (SliceLen.one hlv6_7) Aw)) ?_)
  refine nt (WC.ret ?_)
  obtain rfl:=(Ae hm9).symm
  refine WK.of (C':=Own M w [kn M w.heap.size K0 K0,vec uv6_7 3 1 (List.map Af v6_7),Eb b5 kP Cg m5n_7,blk b4 [i_ pace,uv6_7] 91,blk b3 [i_ pace,uv6_7] 91,blk b2 t.cells 28,blk b1 [v_l_logs,v_l_body,v_l_outs] 25]) (pk [6,0,1,2,3,4,5]) ?_
  refine WK.freeze hk (fun k12 hle12 hr12=>?_)
  have hA12:=Cf hr12
  refine Sn Z Nt Z Z (Ab 3 Z) (fun w hw=>?_)
  exact⟨(uv6_7,k12),Z,hw.pick [0] (by decide),hA12⟩
 rintro v6_7 m5n_7 x23_7 uv6_7 m13 ⟨hI14,hlv6_7⟩
 obtain⟨m15,s16,rfl,hm17,hn18⟩:=Ap hI14;clear hI14;unfold Fs at hm17;simp only at hm17
 refine sr (wq Z (QV.lss Z Z Z Z) (nt (WC.seq ?_)))
 refine wc Z hm17 (fun h19 hm20=>?_) (fun h19 hm97=>?_) <;> clear hm17
 ·skip
  refine sk (WQ.then (WC.seq (WC.block (sr (wm Z ?_)))))
  obtain⟨c21,hm22⟩:=cs hm20;clear hm20
  obtain⟨p23,hp24⟩:=h_l_body.lenMap.ix (sz:=9) Au c21
  refine wq Z (Ad Pp Z Z Z Z hp24) (wq Z (Ac Kk Z Z Z (fun w hw=>((Ah 6 Z hk h_l_body) w hw).ele hp24 c21)) (Aa Z ?_))
  refine(EV.alloc (by decide) Nz (fun b25=>?_))
  refine wa Z (Aa Z ?_)
  refine(EV.store 0 Z Z Z Z Z Z (vs:=(Stm.cells (ele l.body x23_7))) (show Value.cells _=List.toArray _ from Z) N0 (nl Z) (oc Z (oc Z (oc Z (oc Z (oc Z (oc Z (oc Z (oc Z (oc Z Aw))))))))) ?_)
  refine ns (wa Z (nt (WC.seq (sr (wm Z (wq Z (Ay Try.underlying68 Z Z h_edges.lenMap) (wm Z (nt ?_))))))))
  obtain⟨o26,ho27,hm28⟩:=Ag hm22;clear hm22;obtain⟨n29,ho30⟩:=A0 ho27
  refine Bz (H2:=[blk b25 (Stm.cells (ele l.body x23_7)) 81,vec uv6_7 3 1 (List.map Af v6_7),Eb b5 kP Cg m5n_7,blk b4 [i_ pace,uv6_7] 91,blk b3 [i_ 0,.slice none 0 0] 91,blk b2 t.cells 28,blk b1 [v_l_logs,v_l_body,v_l_outs] 25,kn M w.heap.size K0 K0]) (τ:=[u_ 2 _,u_ 3 _,u_ 5 _,u_ 8 _,u_ 9 _,u_ 10 _,u_ 11 _,u_ 12 _,u_ 21 _,u_ 22 _,u_ 23 _,u_ 28 _,u_ 29 _]) (fun (time13_8:Int) (x30_8:Int)=>[(13,(true,i_ time13_8)),(30,(true,i_ x30_8))]) (fun time13_8 x30_8=>[]) (fun time13_8 x30_8 m=>B3 (G0 pace edges v6_7 x23_7) m (time13_8,x30_8)=some o26) (fun time13_8 x30_8=>o26=.go (time13_8,x30_8)) 0 0 n29 ho30 ⟨Z,Z,Z,Z,Z,Z,Z,Z,Z,Z,Z,Z,Z,Z,Z,trivial⟩ (pk [0,1,2,3,4,5,6,7]) ?_ ?_
  ·skip
   rintro time13_8 x30_8 rfl
   refine WQ.then (sr (wf F2 Z (wl pl3 Z (Own.cell 0 Z Z) ?_)))
   obtain⟨x31,hx32,hm33⟩:=Ag hm28;clear hm28
   refine wq Z (QV.call Yc (ec Z eN) (fun w hw=>have h:=Fd w hx32 ;h)) (wa Z (nt (WC.seq ?_)))
   obtain⟨o34,ho35,hm36⟩:=Ag hm33;clear hm33;obtain⟨n37,ho38⟩:=A0 ho35
   refine Ci (H2:=[blk b25 (Stm.cells (ele l.body x23_7)) 81,vec uv6_7 3 1 (List.map Af v6_7),Eb b5 kP Cg m5n_7,blk b4 [i_ pace,uv6_7] 91,blk b3 [i_ 0,.slice none 0 0] 91,blk b2 t.cells 28,blk b1 [v_l_logs,v_l_body,v_l_outs] 25,kn M w.heap.size K0 K0]) (τ:=[u_ 2 _,u_ 3 _,u_ 5 _,u_ 8 _,u_ 9 _,u_ 10 _,u_ 16 _,u_ 21 _,u_ 22 _,u_ 23 _]) (fun (time13_9:Int)=>[(13,(true,i_ time13_9))]) (fun time13_9=>[]) (fun time13_9 m=>B3 (Ir t pace m5n_7 x31) m time13_9=some o34) (fun time13_9=>o34=.go time13_9) time13_8 n37 ho38 ⟨Z,Z,Z,Z,Z,Z,Z,Z,Z,Z,Z,trivial⟩ (pk [0,1,2,3,4,5,6,7]) ?_ ?_
   ·skip
    rintro time13_9 rfl
    refine WQ.then (WC.seq (B9 (m:=11) (S:=Own M w [kn M w.heap.size K0 K0,blk b25 (Stm.cells (ele l.body x23_7)) 81,vec uv6_7 3 1 (List.map Af v6_7),Z7 b5 kP Cg 0 m5n_7,blk b4 [i_ pace,uv6_7] 91,blk b3 [i_ 0,.slice none 0 0] 91,blk b2 t.cells 28,blk b1 [v_l_logs,v_l_body,v_l_outs] 25]) (by kernel_rfl) (by kernel_rfl) (fun w hw=>Qq 3 0 Z (hw.pick [7,0,1,2,3,4,5,6] (by decide))) (zm 0 Z Z (zm 1 Z Z (zm 2 Z Z ?_)))))
    obtain⟨c39,c41,c45,c49,hm50⟩:=cs4 hm36;clear hm36
    refine wz 3 Z Z (QV.rem Z Z Z Z c39) (zm 4 Z Z (wz 5 Z Z (QV.build (ps:=[(0,.tmp 81),(1,.tmp 82)]) (cells:=[i_ (Int.tmod time13_9 pace),i_ x31]) (ec Z (ec Z eN)) (by kernel_rfl)) (wz 6 Z Z (Sr (k:=((Int.tmod time13_9 pace),x31)) 3 0 S3 S4 Md Z Z Z Z Z) (wz 7 Z Z (QV.add Z Z Z Z c41) ?_))))
    refine WD.o 8 Z (by kernel_rfl) Z ?_
    refine(EV.mapEntry (by decide) ((Int.tmod time13_9 pace),x31) 2 0 S3 S4 Md Z Z Z Z Z (fun s43=>?_))
    refine WD.b (H':=[kn M w.heap.size K0 K0,blk b25 (Stm.cells (ele l.body x23_7)) 81,vec uv6_7 3 1 (List.map Af v6_7),Z7 b5 kP Cg 0 m5n_7,blk b4 [i_ pace,uv6_7] 91,blk b3 [i_ 0,.slice none 0 0] 91,blk b2 t.cells 28,blk b1 [v_l_logs,v_l_body,v_l_outs] 25]) (fun w hw=>Qp 3 Z (hw.pick [7,0,1,2,3,4,5,6] (by decide))) (pk [0,1,2,3,4,5,6,7]) ?_
    refine wz 9 Z Z (QV.extract Z Z Z) ?_
    refine WD.l 10 Z (by kernel_rfl) Z ?_
    refine(EV.entryStore (ke:=kP) (ve:=Cg) ((Int.tmod time13_9 pace),x31) 2 ((Dm m5n_7 ((Int.tmod time13_9 pace),x31) 0)+1) s43 Z Z Z Z Z Z Z ?_)
    refine WQ.then (WC.region (wf Jl Z (wl Du Z (Own.cell 3 Z Z) (wm Z (Aa Z ?_)))))
    refine(EV.buildSlice (by decide) N5 (by decide) (by decide) (ps:=[(0,.tmp 90)]) (cells:=[i_ time13_9]) (ec Z eN) (by kernel_rfl) (fun b44=>?_))
    refine Aa Z ?_
    refine(Bx (enc:=Af) (xs:=v6_7) (ys:=[time13_9]) ((v6_7++[time13_9])) 2 (by decide) Su Z Z Z Z Z (Bj 0 (rows:=[time13_9].map Af) Z Z (B5 Bf)) Bf (Cz _) Z c45.1 c45.2 (fun u47 hu48=>?_))
    refine wf Jl Z (Aa Z ?_)
    refine(EV.store 4 Z Z Z Z Z Z (vs:=[u47]) (SliceLen.cells hu48) Aby (nl Z) (oc (SliceLen.one hu48) Aw) ?_)
    refine WL.nil (WQ.block (WQ.then (WC.region (wq Z (QV.add Z Z Z Z c49) (wm Z (WL.nil ?_))))))
    exact Ev (v6_7++[time13_9]) (Es m5n_7 ((Int.tmod time13_9 pace),x31) ((Dm m5n_7 ((Int.tmod time13_9 pace),x31) 0)+1)) (x23_7+1) u47 m15 ⟨Ax hm50 hn18,hu48⟩ (Nat.lt_succ_self _) ⟨Z,Z,Z,Z,Z,Z,Z,Z,Z,trivial⟩ (pk [2,3,4,5,6,7,8])
   rintro time13_9 m51 hI52
   obtain⟨m53,s54,rfl,hm55,hn56⟩:=Ap hI52;clear hI52;unfold Ir at hm55
   refine WC.seq (WC.seq (B9 (m:=12) (S:=Own M w [kn M w.heap.size K0 K0,blk b25 (Stm.cells (ele l.body x23_7)) 81,vec uv6_7 3 1 (List.map Af v6_7),Eb b5 kP Cg m5n_7,blk b4 [i_ pace,uv6_7] 91,blk b3 [i_ 0,.slice none 0 0] 91,blk b2 t.cells 28,blk b1 [v_l_logs,v_l_body,v_l_outs] 25]) (by kernel_rfl) (by kernel_rfl) (pk [7,0,1,2,3,4,5,6]) (zm 0 Z Z (zm 1 Z Z (zm 2 Z Z ?_)))))
   obtain⟨c57,c59,hm60⟩:=cs2 hm55;clear hm55
   refine wz 3 Z Z (QV.rem Z Z Z Z c57) (zm 4 Z Z (wz 5 Z Z (QV.build (ps:=[(0,.tmp 67),(1,.tmp 68)]) (cells:=[i_ (Int.tmod time13_9 pace),i_ x31]) (ec Z (ec Z eN)) (by kernel_rfl)) (wz 6 Z Z (QV.lookup (k:=((Int.tmod time13_9 pace),x31)) 3 0 S3 S4 Md Z Z Z Z Z) (zm 7 Z Z (zf 8 Se Z Z (wz 9 Z Z (B1 Pq Z Z Z Z c59.1 c59.2) (zl 10 pl3 Z Z (Da 6 Z (Fo (off:=0) (i:=x31) c59.1 c59.2 Z Z Z) (E8 _ _ _)) (wz 11 Z Z (QV.geq Z Z Z Z) ?_))))))))
   refine WD.e (by kernel_rfl) ?_
   refine WQ.then ?_
   refine wc Z hm60 (fun h61 hm62=>?_) (fun h61 hm65=>?_) <;> clear hm60
   ·skip
    refine sk (WQ.then (WC.block (WC.region (wm Z ?_))))
    obtain⟨c63,hm64⟩:=cs hm62;clear hm62
    refine wq Z (QV.add Z Z Z Z c63) (wa Z (WL.nil (WQ.block ?_)))
    exact Ch (time13_9+1) m53 (Ax hm64 hn56) (Nat.lt_succ_self _) ⟨Z,Z,Z,Z,Z,Z,Z,Z,Z,Z,Z,trivial⟩ (pk [0,1,2,3,4,5,6,7])
   refine WC.exit (te (te (Ai ?_)))
   exact C7 time13_9 (A6 hm65 hn56) ⟨Z,Z,Z,Z,Z,Z,Z,Z,Z,Z,Z,trivial⟩ (pk [0,1,2,3,4,5,6,7])
  rintro time13_8 x30_8 m66 hI67
  obtain⟨m68,s69,rfl,hm70,hn71⟩:=Ap hI67;clear hI67;unfold G0 at hm70;simp only at hm70
  refine sr (wq Z (QV.lss Z Z Z Z) (nt (WC.seq ?_)))
  refine wc Z hm70 (fun h72 hm73=>?_) (fun h72 hm96=>?_) <;> clear hm70
  ·skip
   refine sk (WQ.then (WC.seq (WC.block (sr ?_))))
   obtain⟨c74,hm75⟩:=cs hm73;clear hm73
   obtain⟨p76,hp77⟩:=h_edges.lenMap.ix (sz:=4) Au c74
   refine wq Z (Ad Sx Z Z Z Z hp77) (wq Z (Ac Uc Z Z Z (fun w hw=>((Ah 7 Z hk h_edges) w hw).ele hp77 c74)) (Aa Z ?_))
   refine(EV.alloc (by decide) Ad3 (fun b78=>?_))
   refine Aa Z ?_
   refine(EV.store 0 Z Z Z Z Z Z (vs:=(Edg.cells (ele edges x30_8))) (show Value.cells _=List.toArray _ from Z) Z4 (nl Z) (oc Z (oc Z (oc Z (oc Z Aw)))) ?_)
   refine ns (wf Sd Z (wl pl3 Z (Own.cell 0 Z Z) (wm Z (wq Z (QV.eql Z Z Z Z) (wm Z (gp Z (fun hG=>QV.fieldAddr P4 Z Z) (gp Z (fun hG=>QV.load pl3 Z hG (Own.cell 0 Z Z)) (gp Z (fun hG=>QV.move Z Z) (gp Z (fun hG=>QV.lss Z hG Z hG) ?_)))))))))
   refine wq Z (Az Z Z Z (fun h=>h)) (nt ?_)
   refine wc Z hm75 (fun h79 hm80=>?_) (fun h79 hm93=>?_) <;> clear hm75
   ·skip
    refine B9 (m:=17) (S:=Own M w [kn M w.heap.size K0 K0,blk b78 (Edg.cells (ele edges x30_8)) 71,blk b25 (Stm.cells (ele l.body x23_7)) 81,vec uv6_7 3 1 (List.map Af v6_7),Eb b5 kP Cg m5n_7,blk b4 [i_ pace,uv6_7] 91,blk b3 [i_ 0,.slice none 0 0] 91,blk b2 t.cells 28,blk b1 [v_l_logs,v_l_body,v_l_outs] 25]) (by kernel_rfl) (by kernel_rfl) (pk [8,0,1,2,3,4,5,6,7]) (zm 0 Z Z (zf 1 Jl Z Z (zl 2 Du Z Z (Own.cell 5 Z Z) (zf 3 P4 Z Z (zl 4 pl3 Z Z (Own.cell 1 Z Z) ?_)))))
    obtain⟨c81,hm82⟩:=cs hm80;clear hm80
    obtain⟨p83,hp84⟩:=hlv6_7.ix (sz:=1) Au c81
    refine wz 5 Z Z (Ad Ei Z Z Z Z hp84) (zl 6 pl3 Z Z (fun w hw=>CellsAt.one 0 (((C1 3 Z) w hw).ele hp84 c81) Z) (zf 7 Uh Z Z (zl 8 pl3 Z Z (Own.cell 1 Z Z) ?_)))
    obtain⟨c85,c87,c89,c91,hm92⟩:=cs4 hm82;clear hm82
    refine wz 9 Z Z (QV.add Z Z Z Z c85) (zm 10 Z Z (zf 11 Ui Z Z (zl 12 pl3 Z Z (Own.cell 1 Z Z) (wz 13 Z Z (QV.mul Z Z Z Z c87) (wz 14 Z Z (QV.sub Z Z Z Z c89) (wz 15 Z Z (QV.max2 Z Z Z Z) (wz 16 Z Z (QV.assign Z Z) ?_)))))))
    refine WD.e (by kernel_rfl) ?_
    refine WQ.block (WQ.then (WC.region (wq Z (QV.add Z Z Z Z c91) (wm Z (WL.nil ?_)))))
    exact Bn (max time13_8 (((ele v6_7 ((ele edges x30_8).fr))+(ele edges x30_8).wt) - (pace * (ele edges x30_8).bk))) (x30_8+1) m68 (Ax hm92 hn71) (Nat.lt_succ_self _) ⟨Z,Z,Z,Z,Z,Z,Z,Z,Z,Z,Z,Z,Z,Z,Z,trivial⟩ (pk [1,2,3,4,5,6,7,8])
   refine sk (WQ.block (WQ.then (WC.region ?_)))
   obtain⟨c94,hm95⟩:=cs hm93;clear hm93
   refine wq Z (QV.add Z Z Z Z c94) (wm Z (WL.nil ?_))
   exact Bn time13_8 (x30_8+1) m68 (Ax hm95 hn71) (Nat.lt_succ_self _) ⟨Z,Z,Z,Z,Z,Z,Z,Z,Z,Z,Z,Z,Z,Z,Z,trivial⟩ (pk [1,2,3,4,5,6,7,8])
  refine WC.exit (te (te (Ai ?_)))
  exact Cb time13_8 x30_8 (A6 hm96 hn71) ⟨Z,Z,Z,Z,Z,Z,Z,Z,Z,Z,Z,Z,Z,Z,Z,trivial⟩ (pk [0,1,2,3,4,5,6,7])
 refine WC.exit (te (te (Ai ?_)))
 exact Ko v6_7 m5n_7 x23_7 uv6_7 ⟨A6 hm97 hn18,hlv6_7⟩ ⟨Z,Z,Z,Z,Z,Z,Z,Z,Z,trivial⟩ (pk [0,1,2,3,4,5,6])
theorem Ov {v_l_logs v_l_body v_l_outs:Value}{l:Lp}{t:Tgt}{pace:Int}{r:Pln×Int}{K0:World} (hm:Fj l t pace=some r) (h_l_logs:Arr K0 v_l_logs 1 (l.logs.map Af)) (h_l_body:Arr K0 v_l_body 9 (l.body.map Stm.cells)) (h_l_outs:Arr K0 v_l_outs 1 (l.outs.map Af)) (M:Nat→Prop) (w:World) (hk:Base M K0 w) (hw0:Own M w [] w):Calls Try.prog 71 #[.agg #[v_l_logs,v_l_body,v_l_outs],.agg #[.int .i64 t.u0,.int .i64 t.u1,.int .i64 t.u2,.int .i64 t.w0,.int .i64 t.w1,.int .i64 t.w2,.int .i64 t.regs],.int .i64 pace] w (fun e w'=>∃ X:Value×World,e=.returned (.tuple #[.agg #[.int .i64 r.1.pace,X.1],.int .i64 r.2])∧Own M w (kn M w.heap.size K0 X.2::[]) w'∧Arr X.2 X.1 1 (r.1.times.map Af)):=by
 unfold Fj at hm
 refine Ak (n:=36) (args:=[.agg #[v_l_logs,v_l_body,v_l_outs],.agg #[i_ t.u0,i_ t.u1,i_ t.u2,i_ t.w0,i_ t.w1,i_ t.w2,i_ t.regs],i_ pace]) Try.func71 Z Z (nl Z) ?_ (An hk hw0)
 refine sr (Aa Z ?_)
 refine(Aq (by decide) Z Z (fun b1=>?_))
 refine Aa Z ?_
 refine(Aq (by decide) Z Z (fun b2=>?_))
 refine Aa Z ?_
 refine(EV.alloc (by decide) Vs (fun b3=>?_))
 refine wa Z (ns (wm Z (wq Z (QV.build (ps:=[(0,.tmp 12)]) (cells:=[i_ pace,.slice none 0 0]) (ec Z eN) (by kernel_rfl)) (Aa Z ?_))))
 refine(EV.alloc (by decide) Vs (fun b4=>?_))
 refine Aa Z ?_
 refine(EV.store 0 Z Z Z Z Z Z (vs:=[i_ pace,.slice none 0 0]) (show Value.cells _=List.toArray _ from Z) Sv (nl Z) (oc Z (oc Z Aw)) ?_)
 refine ns (wa Z (nt (WC.seq (sr (wf Co Z (wl Gv Z (Own.cell 3 Z Z) (wq Z (Ay Try.underlying23 Z Z h_l_body.lenMap) (wm Z (nt ?_)))))))))
 refine WK.of (fun w hw=>hw.vecNil (E:=3) (sz:=1) (enc:=Af)) ?_
 obtain⟨o6,ho7,hm8⟩:=Ag hm;clear hm;obtain⟨n9,ho10⟩:=A0 ho7
 refine I5 (H2:=[blk b3 [i_ 0,.slice none 0 0] 91,blk b2 t.cells 28,blk b1 [v_l_logs,v_l_body,v_l_outs] 25,kn M w.heap.size K0 K0]) (τ:=[u_ 4 _,u_ 6 _,u_ 8 _,u_ 15 _,u_ 16 _]) (fun (v5_1:List Int) (time9_1:Int) (x17_1:Int) (uv5_1:Value)=>[(9,(true,i_ time9_1)),(17,(true,i_ x17_1))]) (fun v5_1 time9_1 x17_1 uv5_1=>[vec uv5_1 3 1 (List.map Af v5_1),blk b4 [i_ pace,uv5_1] 91]) (fun v5_1 time9_1 x17_1 uv5_1 m=>B3 (Dx l t) m (v5_1,time9_1,x17_1)=some o6∧SliceLen uv5_1 v5_1.length) (fun v5_1 time9_1 x17_1 uv5_1=>o6=.go (v5_1,time9_1,x17_1)∧SliceLen uv5_1 v5_1.length) [] 0 0 (.slice none 0 0) n9 ⟨ho10,SliceLen.nil⟩ ⟨Z,Z,Z,Z,Z,Z,Z,trivial⟩ (pk [0,1,2,3,4,5]) ?_ ?_
 ·skip
  rintro v5_1 time9_1 x17_1 uv5_1 ⟨rfl,hlv5_1⟩
  refine WQ.then (sr (wq Z (Ac Nt Z Z Z (Ab 1 Z)) (wm Z (Aa Z ?_))))
  refine(EV.store 2 Z Z Z Z Z Z (vs:=[i_ pace,uv5_1]) (show Value.cells _=List.toArray _ from Z) Sv (nl Z) (oc Z (oc (SliceLen.one hlv5_1) Aw)) ?_)
  refine wa Z (nt (WC.ret ?_))
  obtain rfl:=(Ae hm8).symm
  refine WK.of (C':=Own M w [kn M w.heap.size K0 K0,vec uv5_1 3 1 (List.map Af v5_1),blk b4 [i_ pace,uv5_1] 91,blk b3 [i_ pace,uv5_1] 91,blk b2 t.cells 28,blk b1 [v_l_logs,v_l_body,v_l_outs] 25]) (pk [5,0,1,2,3,4]) ?_
  refine WK.freeze hk (fun k11 hle11 hr11=>?_)
  have hA11:=Cf hr11
  refine Cx Z Nt Z Z Z (Ab 2 Z) (fun w hw=>?_)
  exact⟨(uv5_1,k11),Z,hw.pick [0] (by decide),hA11⟩
 rintro v5_1 time9_1 x17_1 uv5_1 m12 ⟨hI13,hlv5_1⟩
 obtain⟨m14,s15,rfl,hm16,hn17⟩:=Ap hI13;clear hI13;unfold Dx at hm16;simp only at hm16
 refine sr (wq Z (QV.lss Z Z Z Z) (nt (WC.seq ?_)))
 refine wc Z hm16 (fun h18 hm19=>?_) (fun h18 hm37=>?_) <;> clear hm16
 ·skip
  refine sk (WQ.then (WC.seq (WC.block (sr ?_))))
  obtain⟨c20,hm21⟩:=cs hm19;clear hm19
  obtain⟨p22,hp23⟩:=h_l_body.lenMap.ix (sz:=9) Au c20
  refine wq Z (Ad Pp Z Z Z Z hp23) (wq Z (Ac Kk Z Z Z (fun w hw=>((Ah 5 Z hk h_l_body) w hw).ele hp23 c20)) (Aa Z ?_))
  refine(EV.alloc (by decide) Nz (fun b24=>?_))
  refine Aa Z ?_
  refine(EV.store 0 Z Z Z Z Z Z (vs:=(Stm.cells (ele l.body x17_1))) (show Value.cells _=List.toArray _ from Z) N0 (nl Z) (oc Z (oc Z (oc Z (oc Z (oc Z (oc Z (oc Z (oc Z (oc Z Aw))))))))) ?_)
  refine ns (wf Jl Z (wl Du Z (Own.cell 2 Z Z) (wm Z (Aa Z ?_))))
  refine(EV.buildSlice (by decide) N5 (by decide) (by decide) (ps:=[(0,.tmp 23)]) (cells:=[i_ time9_1]) (ec Z eN) (by kernel_rfl) (fun b25=>?_))
  refine Aa Z ?_
  obtain⟨c26,hm27⟩:=cs hm21;clear hm21
  refine(Bx (enc:=Af) (xs:=v5_1) (ys:=[time9_1]) ((v5_1++[time9_1])) 2 (by decide) Su Z Z Z Z Z (Bj 0 (rows:=[time9_1].map Af) Z Z (B5 Bf)) Bf (Cz _) Z c26.1 c26.2 (fun u28 hu29=>?_))
  refine wf Jl Z (Aa Z ?_)
  refine(EV.store 3 Z Z Z Z Z Z (vs:=[u28]) (SliceLen.cells hu29) Aby (nl Z) (oc (SliceLen.one hu29) Aw) ?_)
  refine nr (wm Z (wq Z (Ac Gk Z Z Z (Ab 5 Z)) (wf F2 Z (wl pl3 Z (Own.cell 1 Z Z) ?_))))
  obtain⟨x30,hx31,hm32⟩:=Ag hm27;clear hm27
  refine wq Z (QV.call Ail (ec Z (ec Z eN)) (fun w hw=>have h:=Js w hx31 ;h)) ?_
  obtain⟨c33,c35,hm36⟩:=cs2 hm32;clear hm32
  refine wq Z (QV.add Z Z Z Z c33) (wa Z (WL.nil (WQ.block (WQ.then (WC.region (wq Z (QV.add Z Z Z Z c35) (wm Z (WL.nil ?_))))))))
  exact Ev (v5_1++[time9_1]) (time9_1+x30) (x17_1+1) u28 m14 ⟨Ax hm36 hn17,hu29⟩ (Nat.lt_succ_self _) ⟨Z,Z,Z,Z,Z,Z,Z,trivial⟩ (pk [2,3,4,5,6,7])
 refine WC.exit (te (te (Ai ?_)))
 exact Ko v5_1 time9_1 x17_1 uv5_1 ⟨A6 hm37 hn17,hlv5_1⟩ ⟨Z,Z,Z,Z,Z,Z,Z,trivial⟩ (pk [0,1,2,3,4,5])
theorem Abp {v_l_logs v_l_body v_l_outs:Value}{l:Lp}{t:Tgt}{least:Int}{r:Pln×Int}{K0:World} (hm:Ku l t least=some r) (h_l_logs:Arr K0 v_l_logs 1 (l.logs.map Af)) (h_l_body:Arr K0 v_l_body 9 (l.body.map Stm.cells)) (h_l_outs:Arr K0 v_l_outs 1 (l.outs.map Af)) (M:Nat→Prop) (w:World) (hk:Base M K0 w) (hw0:Own M w [] w):Calls Try.prog 41 #[.agg #[v_l_logs,v_l_body,v_l_outs],.agg #[.int .i64 t.u0,.int .i64 t.u1,.int .i64 t.u2,.int .i64 t.w0,.int .i64 t.w1,.int .i64 t.w2,.int .i64 t.regs],.int .i64 least] w (fun e w'=>∃ X:Value×World,e=.returned (.tuple #[.agg #[.int .i64 r.1.pace,X.1],.int .i64 r.2])∧Own M w (kn M w.heap.size K0 X.2::[]) w'∧Arr X.2 X.1 1 (r.1.times.map Af)):=by
 unfold Ku at hm
 refine Ak (n:=84) (args:=[.agg #[v_l_logs,v_l_body,v_l_outs],.agg #[i_ t.u0,i_ t.u1,i_ t.u2,i_ t.w0,i_ t.w1,i_ t.w2,i_ t.regs],i_ least]) Try.func41 Z Z (nl Z) ?_ (An hk hw0)
 refine sr (Aa Z ?_)
 refine(Aq (by decide) Z Z (fun b1=>?_))
 refine Aa Z ?_
 refine(Aq (by decide) Z Z (fun b2=>?_))
 refine Aa Z ?_
 refine(EV.alloc (by decide) Vs (fun b3=>?_))
 refine wa Z (ns (wq Z (Ac Fh Z Z Z (Ab 2 Z)) (wq Z (Ac Gk Z Z Z (Ab 1 Z)) (Aa Z ?_))))
 obtain⟨x4,hx5,hm6⟩:=Ag hm;clear hm
 refine EV.of (C':=Own M w [kn M w.heap.size K0 K0,blk b3 [i_ 0,.slice none 0 0] 91,blk b2 t.cells 28,blk b1 [v_l_logs,v_l_body,v_l_outs] 25]) (pk [3,0,1,2]) ?_
 refine(A4 (X:=Value×World) (R:=[]) (fun X=>.tuple #[X.1,i_ x4.2]) (fun X=>[]) (fun X=>X.2) (fun X=>Arr X.2 X.1 4 (x4.1.map Edg.cells)) hk (fun _ h=>by cases h;decide) Alt (ec Z (ec Z eN)) (fun M w h1 h2=>have h:=Nn hx5 h_l_logs h_l_body h_l_outs M w h1 h2;h) (fun X7 hF7 hle7=>?_))
 refine wm Z (wq Z (QV.extract Z Z Z) (wq Z (QV.extract Z Z Z) (wa Z (wa Z (nt (WC.seq (WC.block (sr (wm Z (wq Z (QV.neq Z Z Z Z) (wa Z (nt ?_))))))))))))
 refine wc Z hm6 (fun h8 hm9=>?_) (fun h8 hm10=>?_) <;> clear hm6
 ·skip
  refine sr (wq Z (QV.build (ps:=[]) (cells:=[i_ 0,.slice none 0 0]) eN (by kernel_rfl)) (wm Z (Aa Z ?_)))
  refine(EV.store 1 Z Z Z Z Z Z (vs:=[i_ 0,.slice none 0 0]) (show Value.cells _=List.toArray _ from Z) Sv (nl Z) (oc Z (oc Z Aw)) ?_)
  refine wa Z (nt (WC.ret (kr (tr ?_))))
  obtain rfl:=(Ae hm9).symm
  refine Cx Z Nt Z Z Z (Ab 1 Z) (fun w hw=>?_)
  exact⟨(.slice none 0 0,X7.2),Z,hw.pick [0] (by decide),Arr.nil⟩
 refine sr (wm Z (wq Z (QV.lss Z Z Z Z) (wm Z (gn Z (fun hG=>QV.move Z Z) (gn Z (fun hG=>QV.gtr Z hG Z Z) (wq Z (A2 Z Z Z (fun h=>Dv h)) (wa Z (nt ?_))))))))
 refine wc Z hm10 (fun h11 hm12=>?_) (fun h11 hm13=>?_) <;> clear hm10
 ·skip
  refine sr (wq Z (QV.build (ps:=[]) (cells:=[i_ 0,.slice none 0 0]) eN (by kernel_rfl)) (Aa Z ?_))
  refine(EV.store 1 Z Z Z Z Z Z (vs:=[i_ 0,.slice none 0 0]) (show Value.cells _=List.toArray _ from Z) Sv (nl Z) (oc Z (oc Z Aw)) ?_)
  refine wa Z (nt (WC.ret (kr (tr ?_))))
  obtain rfl:=(Ae hm12).symm
  refine Cx Z Nt Z Z Z (Ab 1 Z) (fun w hw=>?_)
  exact⟨(.slice none 0 0,X7.2),Z,hw.pick [0] (by decide),Arr.nil⟩
 refine sk (WQ.block (WQ.then (sr (wq Z (Ac Fh Z Z Z (Ab 3 Z)) (wq Z (Ac Gk Z Z Z (Ab 2 Z)) ?_)))))
 obtain⟨x14,hx15,hm16⟩:=Ag hm13;clear hm13
 refine wq Z (QV.call en70 (ec Z (ec Z eN)) (fun w hw=>have h:=Ys w hx15 ((Ah 0 Z hk (h_l_logs.le hle7)) w hw) ((Ah 0 Z hk (h_l_body.le hle7)) w hw) ((Ah 0 Z hk (h_l_outs.le hle7)) w hw);h)) (wm Z (wq Z (QV.extract Z Z Z) (wq Z (QV.extract Z Z Z) (wq Z (QV.extract Z Z Z) (wa Z (wa Z (wa Z (ns (wq Z (Ac Fh Z Z Z (Ab 3 Z)) ?_)))))))))
 refine wq Z (Ac Gk Z Z Z (Ab 2 Z)) (Aa Z ?_)
 obtain⟨x17,hx18,hm19⟩:=Ag hm16;clear hm16
 refine(A4 (X:=Value×World) (R:=[]) (fun X=>.tuple #[.agg #[i_ x17.1.pace,X.1],i_ x17.2]) (fun X=>[]) (fun X=>X.2) (fun X=>Arr X.2 X.1 1 (x17.1.times.map Af)) hk (fun _ h=>by cases h;decide) en71 (ec Z (ec Z (ec Z eN))) (fun M w h1 h2=>have h:=Ov hx18 (h_l_logs.le hle7) (h_l_body.le hle7) (h_l_outs.le hle7) M w h1 h2;h) (fun X20 hF20 hle20=>?_))
 refine wm Z (wq Z (QV.extract Z Z Z) (wq Z (QV.extract Z Z Z) (Aa Z ?_)))
 refine(EV.alloc (by decide) Vs (fun b21=>?_))
 refine Aa Z ?_
 refine(EV.store 0 Z Z Z Z Z Z (vs:=[i_ x17.1.pace,X20.1]) (show Value.cells _=List.toArray _ from Z) Sv (nl Z) (oc Z (oc (SliceLen.one hF20.lenMap) Aw)) ?_)
 refine wa Z (nt (WC.seq (sr (wm Z (wm Z (wm Z (wq Z (Anp Z Z Z Z Z Z) (wa Z (nt ?_)))))))))
 obtain⟨o22,ho23,hm24⟩:=Ag hm19;clear hm19;obtain⟨n25,ho26⟩:=A0 ho23
 refine Bz (H2:=[blk b21 [i_ x17.1.pace,X20.1] 91,blk b3 [i_ 0,.slice none 0 0] 91,blk b2 t.cells 28,blk b1 [v_l_logs,v_l_body,v_l_outs] 25]) (τ:=[u_ 2 _,u_ 3 _,u_ 4 _,u_ 6 _,u_ 8 _,u_ 14 _]) (fun (pace15_1:Int) (k_1:World)=>[(15,(true,i_ pace15_1))]) (fun pace15_1 k_1=>[kn M w.heap.size K0 k_1]) (fun pace15_1 k_1 m=>B3 (Hp l t least x4 x17) m pace15_1=some o22∧Le X20.2 k_1) (fun pace15_1 k_1=>o22=.go pace15_1∧Le X20.2 k_1) (max (max least x14.1) x14.2.1) X20.2 n25 ⟨ho26,(Le.refl _)⟩ ⟨Z,Z,Z,Z,Z,Z,Z,trivial⟩ (pk [1,0,2,3,4]) ?_ ?_
 ·skip
  rintro pace15_1 k_1 ⟨rfl,hle_1⟩
  refine WQ.then (sr (wq Z (Ac Fh Z Z Z (Ab 4 Z)) (wq Z (Ac Gk Z Z Z (Ab 3 Z)) (wm Z (wm Z (wq Z (QV.max2 Z Z Z Z) (Aa Z ?_)))))))
  obtain⟨x27,hx28,hm29⟩:=Ag hm24;clear hm24
  refine(A4 (X:=Value×World) (R:=[]) (fun X=>.tuple #[.agg #[i_ x27.1.pace,X.1],i_ x27.2]) (fun X=>[]) (fun X=>X.2) (fun X=>Arr X.2 X.1 1 (x27.1.times.map Af)) hk (fun _ h=>by cases h;decide) en71 (ec Z (ec Z (ec Z eN))) (fun M w h1 h2=>have h:=Ov hx28 (h_l_logs.le ((hle7.trans hle20).trans hle_1)) (h_l_body.le ((hle7.trans hle20).trans hle_1)) (h_l_outs.le ((hle7.trans hle20).trans hle_1)) M w h1 h2;h) (fun X30 hF30 hle30=>?_))
  refine wm Z (wq Z (QV.extract Z Z Z) (wq Z (QV.extract Z Z Z) (Aa Z ?_)))
  refine(EV.alloc (by decide) Vs (fun b31=>?_))
  refine Aa Z ?_
  refine(EV.store 0 Z Z Z Z Z Z (vs:=[i_ x27.1.pace,X30.1]) (show Value.cells _=List.toArray _ from Z) Sv (nl Z) (oc Z (oc (SliceLen.one hF30.lenMap) Aw)) ?_)
  refine wa Z (ns (wq Z (Ac Nt Z Z Z (Ab 0 Z)) (Aa Z ?_)))
  refine(EV.store 3 Z Z Z Z Z Z (vs:=[i_ x27.1.pace,X30.1]) (show Value.cells _=List.toArray _ from Z) Sv (nl Z) (oc Z (oc (SliceLen.one hF30.lenMap) Aw)) ?_)
  refine wa Z (nt (WC.ret ?_))
  obtain rfl:=(Ae hm29).symm
  refine Cx Z Nt Z Z Z (Ab 3 Z) (fun w hw=>?_)
  exact⟨(X30.1,X30.2),Z,hw.pick [1] (by decide),hF30⟩
 rintro pace15_1 k_1 m32 ⟨hI33,hle_1⟩
 obtain⟨m34,s35,rfl,hm36,hn37⟩:=Ap hI33;clear hI33;unfold Hp at hm36
 refine WC.seq (sr (wm Z (wm Z ?_)))
 obtain⟨c38,hm39⟩:=cs hm36;clear hm36
 refine wq Z (QV.add Z Z Z Z c38) (wm Z (wq Z (QV.max2 Z Z Z Z) (wq Z (QV.lss Z Z Z Z) (nt ?_))))
 refine wc Z hm39 (fun h40 hm41=>?_) (fun h40 hm55=>?_) <;> clear hm39
 ·skip
  refine sk (WQ.then (WC.seq (WC.block (sr (wq Z (Ac Fh Z Z Z (Ab 4 Z)) (wq Z (Ac Gk Z Z Z (Ab 3 Z)) (wm Z (wm Z (Aa Z ?_)))))))))
  obtain⟨x42,hx43,hm44⟩:=Ag hm41;clear hm41
  refine(A4 (X:=Value×World) (R:=[]) (fun X=>.agg #[i_ x42.pace,X.1]) (fun X=>[]) (fun X=>X.2) (fun X=>Arr X.2 X.1 1 (x42.times.map Af)) hk (fun _ h=>by cases h;decide) en72 (ec Z (ec Z (ec Z (ec Z eN)))) (fun M w h1 h2=>have h:=Yg hx43 (h_l_logs.le ((hle7.trans hle20).trans hle_1)) (h_l_body.le ((hle7.trans hle20).trans hle_1)) (h_l_outs.le ((hle7.trans hle20).trans hle_1)) (hF7.le (hle20.trans hle_1)) M w h1 h2;h) (fun X45 hF45 hle45=>?_))
  refine Aa Z ?_
  refine(EV.alloc (by decide) Vs (fun b46=>?_))
  refine Aa Z ?_
  refine(EV.store 0 Z Z Z Z Z Z (vs:=[i_ x42.pace,X45.1]) (show Value.cells _=List.toArray _ from Z) Sv (nl Z) (oc Z (oc (SliceLen.one hF45.lenMap) Aw)) ?_)
  refine ns (wq Z (Ac Fh Z Z Z (Ab 5 Z)) (wq Z (Ac Gk Z Z Z (Ab 4 Z)) (wq Z (Ac Nt Z Z Z (Ab 0 Z)) (wm Z ?_))))
  obtain⟨x47,hx48,hm49⟩:=Ag hm44;clear hm44
  refine wq Z (QV.call en73 (ec Z (ec Z (ec Z (ec Z eN)))) (fun w hw=>have h:=Tx w hx48 ((Ah 1 Z hk (h_l_logs.le (((hle7.trans hle20).trans hle_1).trans hle45))) w hw) ((Ah 1 Z hk (h_l_body.le (((hle7.trans hle20).trans hle_1).trans hle45))) w hw) ((Ah 1 Z hk (h_l_outs.le (((hle7.trans hle20).trans hle_1).trans hle45))) w hw) ((Ah 1 Z hk hF45) w hw) ((Ah 1 Z hk (hF7.le ((hle20.trans hle_1).trans hle45))) w hw);h)) (nt ?_)
  refine wc Z hm49 (fun h50 hm51=>?_) (fun h50 hm52=>?_) <;> clear hm49
  ·skip
   refine sr (wq Z (Ac Nt Z Z Z (Ab 0 Z)) (Aa Z ?_))
   refine(EV.store 3 Z Z Z Z Z Z (vs:=[i_ x42.pace,X45.1]) (show Value.cells _=List.toArray _ from Z) Sv (nl Z) (oc Z (oc (SliceLen.one hF45.lenMap) Aw)) ?_)
   refine wa Z (nt (WC.ret (kr (tr (tr (kr (tr (tr ?_))))))))
   obtain rfl:=Cy hm51 hn37
   obtain rfl:=(Ae hm24).symm
   refine Cx Z Nt Z Z Z (Ab 3 Z) (fun w hw=>?_)
   exact⟨(X45.1,X45.2),Z,hw.pick [1] (by decide),hF45⟩
  refine sk (WQ.block (WQ.then (WC.region (wm Z ?_))))
  obtain⟨c53,hm54⟩:=cs hm52;clear hm52
  refine wq Z (QV.add Z Z Z Z c53) (wa Z (WL.nil ?_))
  exact Bn (pace15_1+1) X45.2 m34 ⟨Ax hm54 hn37,(hle_1.trans hle45)⟩ (Nat.lt_succ_self _) ⟨Z,Z,Z,Z,Z,Z,Z,trivial⟩ (pk [1,2,3,4,5])
 refine WC.exit (te (te (Ai ?_)))
 exact Cb pace15_1 k_1 ⟨A6 hm55 hn37,hle_1⟩ ⟨Z,Z,Z,Z,Z,Z,Z,trivial⟩ (pk [0,1,2,3,4])
end Go.Proofs.Ytaimbkndebaaiac
end
section
namespace Go.Proofs.Ytaimbkndebaaiac
open Go.Rd
open TNum TLoop TStable TMach TMach2 TKern TClone TNbr TSeq TKRun TKeep TOrd TCpt TDep TSched1 TEmit TCheck TRegs TBound TMake
namespace TBuild
theorem en40:Go.Rd.Enters Try.prog 40:=eT Try.func40
theorem en41:Go.Rd.Enters Try.prog 41:=eT Try.func41
theorem en42:Go.Rd.Enters Try.prog 42:=eT Try.func42
theorem en7:Go.Rd.Enters Try.prog 7:=eT Try.func7
theorem en74:Go.Rd.Enters Try.prog 74:=eT Try.func74
theorem en75:Go.Rd.Enters Try.prog 75:=eT Try.func75
end TBuild
open TBuild
theorem Vn {v_l_logs v_l_body v_l_outs v_p_times:Value}{l:Lp}{t:Tgt}{p:Pln}{r:Krn×List Int×Bool}{K0:World} (hm:Il l t p=some r) (h_l_logs:Arr K0 v_l_logs 1 (l.logs.map Af)) (h_l_body:Arr K0 v_l_body 9 (l.body.map Stm.cells)) (h_l_outs:Arr K0 v_l_outs 1 (l.outs.map Af)) (h_p_times:Arr K0 v_p_times 1 (p.times.map Af)) (M:Nat→Prop) (w:World) (hk:Base M K0 w) (hw0:Own M w [] w):Calls Try.prog 42 #[.agg #[v_l_logs,v_l_body,v_l_outs],.agg #[.int .i64 t.u0,.int .i64 t.u1,.int .i64 t.u2,.int .i64 t.w0,.int .i64 t.w1,.int .i64 t.w2,.int .i64 t.regs],.agg #[.int .i64 p.pace,v_p_times]] w (fun e w'=>∃ X:Value×Value×World,e=.returned (.tuple #[.agg #[.int .i64 r.1.pace,.int .i64 r.1.stages,X.1],X.2.1,.bool r.2.2])∧Own M w (kn M w.heap.size K0 X.2.2::[]) w'∧Arr X.2.2 X.1 10 (r.1.ops.map Opr.cells)∧Arr X.2.2 X.2.1 1 (r.2.1.map Af)):=by
 unfold Il at hm
 refine Ak (n:=54) (args:=[.agg #[v_l_logs,v_l_body,v_l_outs],.agg #[i_ t.u0,i_ t.u1,i_ t.u2,i_ t.w0,i_ t.w1,i_ t.w2,i_ t.regs],.agg #[i_ p.pace,v_p_times]]) Try.func42 Z Z (nl Z) ?_ (An hk hw0)
 refine sr (Aa Z ?_)
 refine(Aq (by decide) Z Z (fun b1=>?_))
 refine Aa Z ?_
 refine(Aq (by decide) Z Z (fun b2=>?_))
 refine Aa Z ?_
 refine(Aq (by decide) Z Z (fun b3=>?_))
 refine Aa Z ?_
 refine(EV.alloc (by decide) Abx (fun b4=>?_))
 refine wa Z (wa Z (ns (wq Z (Ac Fh Z Z Z (Ab 3 Z)) (wq Z (Ac Gk Z Z Z (Ab 2 Z)) (wq Z (Ac Nt Z Z Z (Ab 1 Z)) (Aa Z ?_))))))
 obtain⟨x5,hx6,hm7⟩:=Ag hm;clear hm
 refine EV.of (C':=Own M w [kn M w.heap.size K0 K0,blk b4 [i_ 0,i_ 0,.slice none 0 0] 31,blk b3 [i_ p.pace,v_p_times] 91,blk b2 t.cells 28,blk b1 [v_l_logs,v_l_body,v_l_outs] 25]) (pk [4,0,1,2,3]) ?_
 refine(A4 (X:=Value×World) (R:=[]) (fun X=>.tuple #[X.1,i_ x5.2]) (fun X=>[]) (fun X=>X.2) (fun X=>Arr X.2 X.1 1 (x5.1.map Af)) hk (fun _ h=>by cases h;decide) en74 (ec Z (ec Z (ec Z eN))) (fun M w h1 h2=>have h:=Adq hx6 h_l_logs h_l_body h_l_outs h_p_times M w h1 h2;h) (fun X8 hF8 hle8=>?_))
 refine wm Z (wq Z (QV.extract Z Z Z) (wq Z (QV.extract Z Z Z) (wa Z (wa Z (nt (WC.seq (sr (wm Z (wq Z (QV.neq Z Z Z Z) (nt ?_))))))))))
 refine wc Z hm7 (fun h9 hm10=>?_) (fun h9 hm11=>?_) <;> clear hm7
 ·skip
  refine sr (wq Z (QV.build (ps:=[]) (cells:=[i_ 0,i_ 0,.slice none 0 0]) eN (by kernel_rfl)) (Aa Z ?_))
  refine(EV.store 1 Z Z Z Z Z Z (vs:=[i_ 0,i_ 0,.slice none 0 0]) (show Value.cells _=List.toArray _ from Z) Sw (nl Z) (oc Z (oc Z (oc Z Aw))) ?_)
  refine wa Z (wa Z (nt (WC.ret (tr ?_))))
  obtain rfl:=(Ae hm10).symm
  refine G1 Z Kj Z Z Z Z (Ab 1 Z) (fun w hw=>?_)
  exact⟨(.slice none 0 0,.slice none 0 0,X8.2),Z,hw.pick [0] (by decide),Arr.nil,Arr.nil⟩
 refine sk (WQ.then (sr (wq Z (Ac Fh Z Z Z (Ab 4 Z)) (wq Z (Ac Gk Z Z Z (Ab 3 Z)) (wq Z (Ac Nt Z Z Z (Ab 2 Z)) (wm Z (Aa Z ?_)))))))
 obtain⟨x12,hx13,hm14⟩:=Ag hm11;clear hm11
 refine(A4 (X:=Value×World) (R:=[]) (fun X=>.tuple #[.agg #[i_ x12.1.pace,i_ x12.1.stages,X.1],i_ x12.2]) (fun X=>[]) (fun X=>X.2) (fun X=>Arr X.2 X.1 10 (x12.1.ops.map Opr.cells)) hk (fun _ h=>by cases h;decide) en75 (ec Z (ec Z (ec Z (ec Z eN)))) (fun M w h1 h2=>have h:=Adw hx13 (h_l_logs.le hle8) (h_l_body.le hle8) (h_l_outs.le hle8) (h_p_times.le hle8) hF8 M w h1 h2;h) (fun X15 hF15 hle15=>?_))
 refine wm Z (wq Z (QV.extract Z Z Z) (wq Z (QV.extract Z Z Z) (Aa Z ?_)))
 refine(EV.alloc (by decide) Abx (fun b16=>?_))
 refine Aa Z ?_
 refine(EV.store 0 Z Z Z Z Z Z (vs:=[i_ x12.1.pace,i_ x12.1.stages,X15.1]) (show Value.cells _=List.toArray _ from Z) Sw (nl Z) (oc Z (oc Z (oc (SliceLen.one hF15.lenMap) Aw))) ?_)
 refine wa Z (ns (wa Z (nt (WC.seq (sr (wf Co Z (wl Gv Z (Own.cell 5 Z Z) (wq Z (Ay Try.underlying23 Z Z (h_l_body.le (hle8.trans hle15)).lenMap) (wm Z (nt ?_))))))))))
 refine WK.of (fun w hw=>hw.vecNil (E:=3) (sz:=1) (enc:=Af)) ?_
 obtain⟨o18,ho19,hm20⟩:=Ag hm14;clear hm14;obtain⟨n21,ho22⟩:=A0 ho19
 refine D2 (H2:=[blk b16 [i_ x12.1.pace,i_ x12.1.stages,X15.1] 31,kn M w.heap.size K0 X15.2,blk b4 [i_ 0,i_ 0,.slice none 0 0] 31,blk b3 [i_ p.pace,v_p_times] 91,blk b2 t.cells 28,blk b1 [v_l_logs,v_l_body,v_l_outs] 25]) (τ:=[u_ 3 _,u_ 4 _,u_ 6 _,u_ 10 _,u_ 11 _,u_ 34 _]) (fun (v17_1:List Int) (x35_1:Int) (uv17_1:Value)=>[(12,(true,uv17_1)),(35,(true,i_ x35_1))]) (fun v17_1 x35_1 uv17_1=>[vec uv17_1 3 1 (List.map Af v17_1)]) (fun v17_1 x35_1 uv17_1 m=>B3 (Hi l) m (v17_1,x35_1)=some o18∧SliceLen uv17_1 v17_1.length) (fun v17_1 x35_1 uv17_1=>o18=.go (v17_1,x35_1)∧SliceLen uv17_1 v17_1.length) [] 0 (.slice none 0 0) n21 ⟨ho22,SliceLen.nil⟩ ⟨Z,Z,Z,Z,Z,Z,Z,Z,trivial⟩ (pk [0,1,2,3,4,5,6]) ?_ ?_
 ·skip
  rintro v17_1 x35_1 uv17_1 ⟨rfl,hlv17_1⟩
  refine WQ.then (WC.seq (B9 (m:=14) (S:=Own M w [kn M w.heap.size K0 X15.2,vec uv17_1 3 1 (List.map Af v17_1),blk b16 [i_ x12.1.pace,i_ x12.1.stages,X15.1] 31,blk b3 [i_ p.pace,v_p_times] 91,blk b2 t.cells 28,blk b1 [v_l_logs,v_l_body,v_l_outs] 25]) (by kernel_rfl) (by kernel_rfl) (pk [2,0,1,4,5,6]) (wz 0 Z Z (Ac Kj Z Z Z (Ab 2 Z)) (zm 1 Z Z (zm 2 Z Z (wz 3 Z Z (QV.eql Z Z Z Z) (zm 4 Z Z (zp 5 Z Z (fun hG=>Ac Fh Z Z Z (Ab 5 Z)) (zp 6 Z Z (fun hG=>Ac Gk Z Z Z (Ab 4 Z)) (zp 7 Z Z (fun hG=>Ac Kj Z Z Z (Ab 2 Z)) ?_))))))))))
  refine zp 8 Z Z (fun hG=>QV.move Z Z) ?_
  obtain⟨x23,hx24,hm25⟩:=Ce hm20;clear hm20
  refine zp 9 Z Z (fun hG=>QV.call en7 (EvAll.cons Z hG (EvAll.cons Z hG (EvAll.cons Z hG (EvAll.cons Z hG eN)))) (fun w hw=>have h:=Yo w (hx24 hG) ((Ah 0 Z hk (h_l_logs.le (hle8.trans hle15))) w hw) ((Ah 0 Z hk (h_l_body.le (hle8.trans hle15))) w hw) ((Ah 0 Z hk (h_l_outs.le (hle8.trans hle15))) w hw) ((Ah 0 Z hk hF15) w hw) ((C1 1 Z) w hw);h)) (wz 10 Z Z (Az Z Z Z (fun h=>h)) ?_)
  refine WD.o 11 Z (by kernel_rfl) Z ?_
  refine(EV.store 3 Z Z Z Z Z Z (vs:=[i_ x12.1.pace,i_ x12.1.stages,X15.1]) (show Value.cells _=List.toArray _ from Z) Sw (nl Z) (oc Z (oc Z (oc (SliceLen.one hF15.lenMap) Aw))) ?_)
  refine WD.b (H':=[kn M w.heap.size K0 X15.2,vec uv17_1 3 1 (List.map Af v17_1),blk b16 [i_ x12.1.pace,i_ x12.1.stages,X15.1] 31,blk b4 [i_ x12.1.pace,i_ x12.1.stages,X15.1] 31,blk b3 [i_ p.pace,v_p_times] 91,blk b2 t.cells 28,blk b1 [v_l_logs,v_l_body,v_l_outs] 25]) (pk [2,0,1,3,4,5,6]) (pk [0,1,2,4,5,6]) ?_
  refine wz 12 Z Z (QV.assign Z Z) (wz 13 Z Z (QV.assign Z Z) ?_)
  refine WD.e (by kernel_rfl) ?_
  refine WQ.then (WC.ret ?_)
  obtain rfl:=(Ae hm25).symm
  refine WK.of (C':=Own M w [kn M w.heap.size K0 X15.2,vec uv17_1 3 1 (List.map Af v17_1),blk b16 [i_ x12.1.pace,i_ x12.1.stages,X15.1] 31,blk b4 [i_ x12.1.pace,i_ x12.1.stages,X15.1] 31,blk b3 [i_ p.pace,v_p_times] 91,blk b2 t.cells 28,blk b1 [v_l_logs,v_l_body,v_l_outs] 25]) (pk [2,0,1,3,4,5,6]) ?_
  refine WK.freeze hk (fun k26 hle26 hr26=>?_)
  have hA26:=Cf hr26
  refine G1 Z Kj Z Z Z Z (Ab 2 Z) (fun w hw=>?_)
  exact⟨(X15.1,uv17_1,k26),Z,hw.pick [0] (by decide),(hF15.le hle26),hA26⟩
 rintro v17_1 x35_1 uv17_1 m27 ⟨hI28,hlv17_1⟩
 obtain⟨m29,s30,rfl,hm31,hn32⟩:=Ap hI28;clear hI28;unfold Hi at hm31;simp only at hm31
 refine sr (wq Z (QV.lss Z Z Z Z) (nt (WC.seq ?_)))
 refine wc Z hm31 (fun h33 hm34=>?_) (fun h33 hm42=>?_) <;> clear hm31
 ·skip
  refine sk (WQ.then (WC.seq (WC.block (sr (wm Z (wa Z (nr (wm Z (wm Z (Aa Z ?_))))))))))
  refine(EV.buildSlice (by decide) N5 (by decide) (by decide) (ps:=[(0,.tmp 39)]) (cells:=[i_ x35_1]) (ec Z eN) (by kernel_rfl) (fun b35=>?_))
  refine Aa Z ?_
  obtain⟨c36,c40,hm41⟩:=cs2 hm34;clear hm34
  refine(Bx (enc:=Af) (xs:=v17_1) (ys:=[x35_1]) ((v17_1++[x35_1])) 1 (by decide) Su Z Z Z Z Z (Bj 0 (rows:=[x35_1].map Af) Z Z (B5 Bf)) Bf (Cz _) Z c36.1 c36.2 (fun u38 hu39=>?_))
  refine wa Z (WL.nil (WQ.block (WQ.then (WC.region (wq Z (QV.add Z Z Z Z c40) (wm Z (WL.nil ?_)))))))
  exact C4 (v17_1++[x35_1]) (x35_1+1) u38 m29 ⟨Ax hm41 hn32,hu39⟩ (Nat.lt_succ_self _) ⟨Z,Z,Z,Z,Z,Z,Z,Z,trivial⟩ (pk [1,2,3,4,5,6,7])
 refine WC.exit (te (te (Ai ?_)))
 exact Gw v17_1 x35_1 uv17_1 ⟨A6 hm42 hn32,hlv17_1⟩ ⟨Z,Z,Z,Z,Z,Z,Z,Z,trivial⟩ (pk [0,1,2,3,4,5,6])
theorem U6 {v_l_logs v_l_body v_l_outs:Value}{l:Lp}{t:Tgt}{r:Pln}{K0:World} (hm:G3 l t=some r) (h_l_logs:Arr K0 v_l_logs 1 (l.logs.map Af)) (h_l_body:Arr K0 v_l_body 9 (l.body.map Stm.cells)) (h_l_outs:Arr K0 v_l_outs 1 (l.outs.map Af)) (M:Nat→Prop) (w:World) (hk:Base M K0 w) (hw0:Own M w [] w):Calls Try.prog 40 #[.agg #[v_l_logs,v_l_body,v_l_outs],.agg #[.int .i64 t.u0,.int .i64 t.u1,.int .i64 t.u2,.int .i64 t.w0,.int .i64 t.w1,.int .i64 t.w2,.int .i64 t.regs]] w (fun e w'=>∃ X:Value×World,e=.returned (.agg #[.int .i64 r.pace,X.1])∧Own M w (kn M w.heap.size K0 X.2::[]) w'∧Arr X.2 X.1 1 (r.times.map Af)):=by
 unfold G3 at hm
 refine Ak (n:=32) (args:=[.agg #[v_l_logs,v_l_body,v_l_outs],.agg #[i_ t.u0,i_ t.u1,i_ t.u2,i_ t.w0,i_ t.w1,i_ t.w2,i_ t.regs]]) Try.func40 Z Z (nl Z) ?_ (An hk hw0)
 refine sr (Aa Z ?_)
 refine(Aq (by decide) Z Z (fun b1=>?_))
 refine Aa Z ?_
 refine(Aq (by decide) Z Z (fun b2=>?_))
 refine Aa Z ?_
 refine(EV.alloc (by decide) Vs (fun b3=>?_))
 refine ns (Aa Z ?_)
 refine(EV.alloc (by decide) Vs (fun b4=>?_))
 refine nt (WC.seq (sr (wf Co Z (wl Gv Z (Own.cell 3 Z Z) (wq Z (Ay Try.underlying23 Z Z h_l_body.lenMap) (wm Z (nt ?_)))))))
 refine WK.of (fun w hw=>hw.vecNil (E:=3) (sz:=1) (enc:=Af)) ?_
 obtain⟨o6,ho7,hm8⟩:=Ag hm;clear hm;obtain⟨n9,ho10⟩:=A0 ho7
 refine I5 (H2:=[blk b3 [i_ 0,.slice none 0 0] 91,blk b2 t.cells 28,blk b1 [v_l_logs,v_l_body,v_l_outs] 25,kn M w.heap.size K0 K0]) (τ:=[u_ 3 _,u_ 4 _,u_ 5 _,u_ 9 _,u_ 10 _]) (fun (v5_1:List Int) (b4c0_1:Int) (x11_1:Int) (uv5_1:Value)=>[(11,(true,i_ x11_1))]) (fun v5_1 b4c0_1 x11_1 uv5_1=>[vec uv5_1 3 1 (List.map Af v5_1),blk b4 [i_ b4c0_1,uv5_1] 91]) (fun v5_1 b4c0_1 x11_1 uv5_1 m=>B3 (Dy l t) m (v5_1,b4c0_1,x11_1)=some o6∧SliceLen uv5_1 v5_1.length) (fun v5_1 b4c0_1 x11_1 uv5_1=>o6=.go (v5_1,b4c0_1,x11_1)∧SliceLen uv5_1 v5_1.length) [] 0 0 (.slice none 0 0) n9 ⟨ho10,SliceLen.nil⟩ ⟨Z,Z,Z,Z,Z,Z,trivial⟩ (pk [0,1,2,3,4,5]) ?_ ?_
 ·skip
  rintro v5_1 b4c0_1 x11_1 uv5_1 ⟨rfl,hlv5_1⟩
  refine WQ.then (sr (wq Z (Ac Nt Z Z Z (Ab 1 Z)) (Aa Z ?_)))
  refine(EV.store 2 Z Z Z Z Z Z (vs:=[i_ b4c0_1,uv5_1]) (show Value.cells _=List.toArray _ from Z) Sv (nl Z) (oc Z (oc (SliceLen.one hlv5_1) Aw)) ?_)
  refine nt (WC.ret ?_)
  obtain rfl:=(Ae hm8).symm
  refine WK.of (C':=Own M w [kn M w.heap.size K0 K0,vec uv5_1 3 1 (List.map Af v5_1),blk b4 [i_ b4c0_1,uv5_1] 91,blk b3 [i_ b4c0_1,uv5_1] 91,blk b2 t.cells 28,blk b1 [v_l_logs,v_l_body,v_l_outs] 25]) (pk [5,0,1,2,3,4]) ?_
  refine WK.freeze hk (fun k11 hle11 hr11=>?_)
  have hA11:=Cf hr11
  refine Sn Z Nt Z Z (Ab 2 Z) (fun w hw=>?_)
  exact⟨(uv5_1,k11),Z,hw.pick [0] (by decide),hA11⟩
 rintro v5_1 b4c0_1 x11_1 uv5_1 m12 ⟨hI13,hlv5_1⟩
 obtain⟨m14,s15,rfl,hm16,hn17⟩:=Ap hI13;clear hI13;unfold Dy at hm16;simp only at hm16
 refine sr (wq Z (QV.lss Z Z Z Z) (nt (WC.seq ?_)))
 refine wc Z hm16 (fun h18 hm19=>?_) (fun h18 hm37=>?_) <;> clear hm16
 ·skip
  refine sk (WQ.then (WC.seq (WC.block (sr ?_))))
  obtain⟨c20,hm21⟩:=cs hm19;clear hm19
  obtain⟨p22,hp23⟩:=h_l_body.lenMap.ix (sz:=9) Au c20
  refine wq Z (Ad Pp Z Z Z Z hp23) (wq Z (Ac Kk Z Z Z (fun w hw=>((Ah 5 Z hk h_l_body) w hw).ele hp23 c20)) (Aa Z ?_))
  refine(EV.alloc (by decide) Nz (fun b24=>?_))
  refine Aa Z ?_
  refine(EV.store 0 Z Z Z Z Z Z (vs:=(Stm.cells (ele l.body x11_1))) (show Value.cells _=List.toArray _ from Z) N0 (nl Z) (oc Z (oc Z (oc Z (oc Z (oc Z (oc Z (oc Z (oc Z (oc Z Aw))))))))) ?_)
  refine ns (wf Jl Z (wl Du Z (Own.cell 2 Z Z) (wf J3 Z (wl pl3 Z (Own.cell 2 Z Z) (Aa Z ?_)))))
  refine(EV.buildSlice (by decide) N5 (by decide) (by decide) (ps:=[(0,.tmp 18)]) (cells:=[i_ b4c0_1]) (ec Z eN) (by kernel_rfl) (fun b25=>?_))
  refine Aa Z ?_
  obtain⟨c26,hm27⟩:=cs hm21;clear hm21
  refine(Bx (enc:=Af) (xs:=v5_1) (ys:=[b4c0_1]) ((v5_1++[b4c0_1])) 2 (by decide) Su Z Z Z Z Z (Bj 0 (rows:=[b4c0_1].map Af) Z Z (B5 Bf)) Bf (Cz _) Z c26.1 c26.2 (fun u28 hu29=>?_))
  refine wf Jl Z (Aa Z ?_)
  refine(EV.store 3 Z Z Z Z Z Z (vs:=[u28]) (SliceLen.cells hu29) Aby (nl Z) (oc (SliceLen.one hu29) Aw) ?_)
  refine nt (B9 (m:=9) (S:=Own M w [kn M w.heap.size K0 K0,blk b25 [i_ b4c0_1] 3,blk b24 (Stm.cells (ele l.body x11_1)) 81,vec u28 3 1 (List.map Af (v5_1++[b4c0_1])),blk b4 [i_ b4c0_1,u28] 91,blk b3 [i_ 0,.slice none 0 0] 91,blk b2 t.cells 28,blk b1 [v_l_logs,v_l_body,v_l_outs] 25]) (by kernel_rfl) (by kernel_rfl) (pk [7,0,1,2,3,4,5,6]) (zf 0 J3 Z Z (zl 1 pl3 Z Z (Own.cell 4 Z Z) (wz 2 Z Z (Ac Gk Z Z Z (Ab 6 Z)) (zf 3 F2 Z Z (zl 4 pl3 Z Z (Own.cell 2 Z Z) ?_))))))
  obtain⟨x30,hx31,hm32⟩:=Ag hm27;clear hm27
  refine wz 5 Z Z (QV.call Ail (ec Z (ec Z eN)) (fun w hw=>have h:=Js w hx31 ;h)) ?_
  obtain⟨c33,c35,hm36⟩:=cs2 hm32;clear hm32
  refine wz 6 Z Z (QV.add Z Z Z Z c33) (zf 7 J3 Z Z ?_)
  refine WD.l 8 Z (by kernel_rfl) Z ?_
  refine(EV.store 3 Z Z Z Z Z Z (vs:=[i_ (b4c0_1+x30)]) (show Value.cells _=List.toArray _ from Z) sz3 (nl Z) (oc Z Aw) ?_)
  refine WQ.block (WQ.then (WC.region (wq Z (QV.add Z Z Z Z c35) (wm Z (WL.nil ?_)))))
  exact Ev (v5_1++[b4c0_1]) (b4c0_1+x30) (x11_1+1) u28 m14 ⟨Ax hm36 hn17,hu29⟩ (Nat.lt_succ_self _) ⟨Z,Z,Z,Z,Z,Z,trivial⟩ (pk [2,3,4,5,6,7])
 refine WC.exit (te (te (Ai ?_)))
 exact Ko v5_1 b4c0_1 x11_1 uv5_1 ⟨A6 hm37 hn17,hlv5_1⟩ ⟨Z,Z,Z,Z,Z,Z,trivial⟩ (pk [0,1,2,3,4,5])
theorem Yr {v_l_logs v_l_body v_l_outs:Value}{l:Lp}{t:Tgt}{r:Krn×List Int×Int}{K0:World} (hm:Ef l t=some r) (h_l_logs:Arr K0 v_l_logs 1 (l.logs.map Af)) (h_l_body:Arr K0 v_l_body 9 (l.body.map Stm.cells)) (h_l_outs:Arr K0 v_l_outs 1 (l.outs.map Af)) (M:Nat→Prop) (w:World) (hk:Base M K0 w) (hw0:Own M w [] w):Calls Try.prog 15 #[.agg #[v_l_logs,v_l_body,v_l_outs],.agg #[.int .i64 t.u0,.int .i64 t.u1,.int .i64 t.u2,.int .i64 t.w0,.int .i64 t.w1,.int .i64 t.w2,.int .i64 t.regs]] w (fun e w'=>∃ X:Value×Value×World,e=.returned (.tuple #[.agg #[.int .i64 r.1.pace,.int .i64 r.1.stages,X.1],X.2.1,.int .i64 r.2.2])∧Own M w (kn M w.heap.size K0 X.2.2::[]) w'∧Arr X.2.2 X.1 10 (r.1.ops.map Opr.cells)∧Arr X.2.2 X.2.1 1 (r.2.1.map Af)):=by
 unfold Ef at hm
 refine Ak (n:=71) (args:=[.agg #[v_l_logs,v_l_body,v_l_outs],.agg #[i_ t.u0,i_ t.u1,i_ t.u2,i_ t.w0,i_ t.w1,i_ t.w2,i_ t.regs]]) Try.func15 Z Z (nl Z) ?_ (An hk hw0)
 refine sr (Aa Z ?_)
 refine(Aq (by decide) Z Z (fun b1=>?_))
 refine Aa Z ?_
 refine(Aq (by decide) Z Z (fun b2=>?_))
 refine Aa Z ?_
 refine(EV.alloc (by decide) Abx (fun b3=>?_))
 refine wa Z (wa Z (nt (WC.seq (sr (wq Z (Ac Fh Z Z Z (Ab 2 Z)) ?_)))))
 obtain⟨x4,hx5,hm6⟩:=Ag hm;clear hm
 refine wq Z (QV.call Aim (ec Z eN) (fun w hw=>have h:=M6 w hx5 ((Ah 3 Z hk h_l_logs) w hw) ((Ah 3 Z hk h_l_body) w hw) ((Ah 3 Z hk h_l_outs) w hw);h)) (wq Z (QV.not Z Z) (wm Z (gn Z (fun hG=>Ac Gk Z Z Z (Ab 1 Z)) ?_)))
 obtain⟨x7,hx8,hm9⟩:=Ce hm6;clear hm6
 refine gn Z (fun hG=>QV.call Alu (EvAll.cons Z hG eN) (fun w hw=>have h:=Mg w (hx8 hG) ;h)) (gn Z (fun hG=>QV.not Z hG) (wq Z (A2 Z Z Z (fun h=>Dv h)) (nt ?_)))
 refine wc Z hm9 (fun h10 hm11=>?_) (fun h10 hm12=>?_) <;> clear hm9
 ·skip
  refine sr (wq Z (QV.build (ps:=[]) (cells:=[i_ 0,i_ 0,.slice none 0 0]) eN (by kernel_rfl)) (Aa Z ?_))
  refine(EV.store 0 Z Z Z Z Z Z (vs:=[i_ 0,i_ 0,.slice none 0 0]) (show Value.cells _=List.toArray _ from Z) Sw (nl Z) (oc Z (oc Z (oc Z Aw))) ?_)
  refine wa Z (wa Z (nt (WC.ret (tr ?_))))
  obtain rfl:=(Ae hm11).symm
  refine G1 Z Kj Z Z Z Z (Ab 0 Z) (fun w hw=>?_)
  exact⟨(.slice none 0 0,.slice none 0 0,K0),Z,hw.pick [3] (by decide),Arr.nil,Arr.nil⟩
 refine sk (WQ.then (sr (wq Z (Ac Fh Z Z Z (Ab 2 Z)) (wq Z (Ac Gk Z Z Z (Ab 1 Z)) (Aa Z ?_)))))
 obtain⟨x13,hx14,hm15⟩:=Ag hm12;clear hm12
 refine EV.of (C':=Own M w [kn M w.heap.size K0 K0,blk b3 [i_ 0,i_ 0,.slice none 0 0] 31,blk b2 t.cells 28,blk b1 [v_l_logs,v_l_body,v_l_outs] 25]) (pk [3,0,1,2]) ?_
 refine(A4 (X:=Value×World) (R:=[]) (fun X=>.agg #[i_ x13.pace,X.1]) (fun X=>[]) (fun X=>X.2) (fun X=>Arr X.2 X.1 1 (x13.times.map Af)) hk (fun _ h=>by cases h;decide) en40 (ec Z (ec Z eN)) (fun M w h1 h2=>have h:=U6 hx14 h_l_logs h_l_body h_l_outs M w h1 h2;h) (fun X16 hF16 hle16=>?_))
 refine Aa Z ?_
 refine(EV.alloc (by decide) Vs (fun b17=>?_))
 refine Aa Z ?_
 refine(EV.store 0 Z Z Z Z Z Z (vs:=[i_ x13.pace,X16.1]) (show Value.cells _=List.toArray _ from Z) Sv (nl Z) (oc Z (oc (SliceLen.one hF16.lenMap) Aw)) ?_)
 refine nt (WC.seq (sr (wa Z (nt ?_))))
 obtain⟨o18,ho19,hm20⟩:=Ag hm15;clear hm15;obtain⟨n21,ho22⟩:=A0 ho19
 refine Bz (H2:=[blk b17 [i_ x13.pace,X16.1] 91,blk b3 [i_ 0,i_ 0,.slice none 0 0] 31,blk b2 t.cells 28,blk b1 [v_l_logs,v_l_body,v_l_outs] 25]) (τ:=[u_ 2 _,u_ 3 _,u_ 4 _,u_ 7 _]) (fun (least8_1:Int) (k_1:World)=>[(8,(true,i_ least8_1))]) (fun least8_1 k_1=>[kn M w.heap.size K0 k_1]) (fun least8_1 k_1 m=>B3 (Iv l t x13) m least8_1=some o18∧Le X16.2 k_1) (fun least8_1 k_1=>o18=.go least8_1∧Le X16.2 k_1) 1 X16.2 n21 ⟨ho22,(Le.refl _)⟩ ⟨Z,Z,Z,Z,Z,trivial⟩ (pk [1,0,2,3,4]) ?_ ?_
 ·skip
  rintro least8_1 k_1 ⟨rfl,hle_1⟩
  refine WQ.then (WC.seq (sr (wq Z (Ac Fh Z Z Z (Ab 4 Z)) (wq Z (Ac Gk Z Z Z (Ab 3 Z)) (wq Z (Ac Nt Z Z Z (Ab 1 Z)) (Aa Z ?_))))))
  obtain⟨x23,hx24,hm25⟩:=Ag hm20;clear hm20
  refine(A4 (X:=Value×Value×World) (R:=[]) (fun X=>.tuple #[.agg #[i_ x23.1.pace,i_ x23.1.stages,X.1],X.2.1,.bool x23.2.2]) (fun X=>[]) (fun X=>X.2.2) (fun X=>Arr X.2.2 X.1 10 (x23.1.ops.map Opr.cells)∧Arr X.2.2 X.2.1 1 (x23.2.1.map Af)) hk (fun _ h=>by cases h;decide) en42 (ec Z (ec Z (ec Z eN))) (fun M w h1 h2=>have h:=Vn hx24 (h_l_logs.le (hle16.trans hle_1)) (h_l_body.le (hle16.trans hle_1)) (h_l_outs.le (hle16.trans hle_1)) (hF16.le hle_1) M w h1 h2;h) (fun X26 hF26 hle26=>?_))
  refine wm Z (wq Z (QV.extract Z Z Z) (wq Z (QV.extract Z Z Z) (wq Z (QV.extract Z Z Z) (Aa Z ?_))))
  refine(EV.alloc (by decide) Abx (fun b27=>?_))
  refine Aa Z ?_
  refine(EV.store 0 Z Z Z Z Z Z (vs:=[i_ x23.1.pace,i_ x23.1.stages,X26.1]) (show Value.cells _=List.toArray _ from Z) Sw (nl Z) (oc Z (oc Z (oc (SliceLen.one hF26.1.lenMap) Aw))) ?_)
  refine wa Z (wa Z (ns (wm Z (nt ?_))))
  refine wc Z hm25 (fun h28 hm29=>?_) (fun h28 hm30=>?_) <;> clear hm25
  ·skip
   refine sr (wq Z (Ac Kj Z Z Z (Ab 0 Z)) (wm Z (Aa Z ?_)))
   refine(EV.store 3 Z Z Z Z Z Z (vs:=[i_ x23.1.pace,i_ x23.1.stages,X26.1]) (show Value.cells _=List.toArray _ from Z) Sw (nl Z) (oc Z (oc Z (oc (SliceLen.one hF26.1.lenMap) Aw))) ?_)
   refine wa Z (wa Z (nt (WC.ret (tr ?_))))
   obtain rfl:=(Ae hm29).symm
   refine G1 Z Kj Z Z Z Z (Ab 3 Z) (fun w hw=>?_)
   exact⟨(X26.1,X26.2.1,X26.2.2),Z,hw.pick [1] (by decide),hF26.1,hF26.2⟩
  refine sk (WQ.then (sr (wq Z (QV.build (ps:=[]) (cells:=[i_ 0,i_ 0,.slice none 0 0]) eN (by kernel_rfl)) (Aa Z ?_))))
  refine(EV.store 3 Z Z Z Z Z Z (vs:=[i_ 0,i_ 0,.slice none 0 0]) (show Value.cells _=List.toArray _ from Z) Sw (nl Z) (oc Z (oc Z (oc Z Aw))) ?_)
  refine wa Z (wa Z (nt (WC.ret ?_)))
  obtain rfl:=(Ae hm30).symm
  refine G1 Z Kj Z Z Z Z (Ab 3 Z) (fun w hw=>?_)
  exact⟨(.slice none 0 0,.slice none 0 0,X26.2.2),Z,hw.pick [1] (by decide),Arr.nil,Arr.nil⟩
 rintro least8_1 k_1 m31 ⟨hI32,hle_1⟩
 obtain⟨m33,s34,rfl,hm35,hn36⟩:=Ap hI32;clear hI32;unfold Iv at hm35
 refine WC.seq (sr (wm Z (wf J3 Z (wl pl3 Z (Own.cell 1 Z Z) (wq Z (QV.leq Z Z Z Z) (nt ?_))))))
 refine wc Z hm35 (fun h37 hm38=>?_) (fun h37 hm58=>?_) <;> clear hm35
 ·skip
  refine sk (WQ.then (WC.block (sr (wq Z (Ac Fh Z Z Z (Ab 4 Z)) (wq Z (Ac Gk Z Z Z (Ab 3 Z)) (wm Z (Aa Z ?_)))))))
  obtain⟨x39,hx40,hm41⟩:=Ag hm38;clear hm38
  refine(A4 (X:=Value×World) (R:=[]) (fun X=>.tuple #[.agg #[i_ x39.1.pace,X.1],i_ x39.2]) (fun X=>[]) (fun X=>X.2) (fun X=>Arr X.2 X.1 1 (x39.1.times.map Af)) hk (fun _ h=>by cases h;decide) en41 (ec Z (ec Z (ec Z eN))) (fun M w h1 h2=>have h:=Abp hx40 (h_l_logs.le (hle16.trans hle_1)) (h_l_body.le (hle16.trans hle_1)) (h_l_outs.le (hle16.trans hle_1)) M w h1 h2;h) (fun X42 hF42 hle42=>?_))
  refine wm Z (wq Z (QV.extract Z Z Z) (wq Z (QV.extract Z Z Z) (Aa Z ?_)))
  refine(EV.alloc (by decide) Vs (fun b43=>?_))
  refine Aa Z ?_
  refine(EV.store 0 Z Z Z Z Z Z (vs:=[i_ x39.1.pace,X42.1]) (show Value.cells _=List.toArray _ from Z) Sv (nl Z) (oc Z (oc (SliceLen.one hF42.lenMap) Aw)) ?_)
  refine wa Z (nt (WC.seq (sr (wq Z (Ac Fh Z Z Z (Ab 5 Z)) (wq Z (Ac Gk Z Z Z (Ab 4 Z)) (wq Z (Ac Nt Z Z Z (Ab 0 Z)) (Aa Z ?_)))))))
  obtain⟨x44,hx45,hm46⟩:=Ag hm41;clear hm41
  refine EV.of (C':=Own M w [kn M w.heap.size K0 X42.2,blk b43 [i_ x39.1.pace,X42.1] 91,blk b17 [i_ x13.pace,X16.1] 91,blk b3 [i_ 0,i_ 0,.slice none 0 0] 31,blk b2 t.cells 28,blk b1 [v_l_logs,v_l_body,v_l_outs] 25]) (pk [1,0,2,3,4,5]) ?_
  refine(A4 (X:=Value×Value×World) (R:=[]) (fun X=>.tuple #[.agg #[i_ x44.1.pace,i_ x44.1.stages,X.1],X.2.1,.bool x44.2.2]) (fun X=>[]) (fun X=>X.2.2) (fun X=>Arr X.2.2 X.1 10 (x44.1.ops.map Opr.cells)∧Arr X.2.2 X.2.1 1 (x44.2.1.map Af)) hk (fun _ h=>by cases h;decide) en42 (ec Z (ec Z (ec Z eN))) (fun M w h1 h2=>have h:=Vn hx45 (h_l_logs.le ((hle16.trans hle_1).trans hle42)) (h_l_body.le ((hle16.trans hle_1).trans hle42)) (h_l_outs.le ((hle16.trans hle_1).trans hle42)) hF42 M w h1 h2;h) (fun X47 hF47 hle47=>?_))
  refine wm Z (wq Z (QV.extract Z Z Z) (wq Z (QV.extract Z Z Z) (wq Z (QV.extract Z Z Z) (Aa Z ?_))))
  refine(EV.alloc (by decide) Abx (fun b48=>?_))
  refine Aa Z ?_
  refine(EV.store 0 Z Z Z Z Z Z (vs:=[i_ x44.1.pace,i_ x44.1.stages,X47.1]) (show Value.cells _=List.toArray _ from Z) Sw (nl Z) (oc Z (oc Z (oc (SliceLen.one hF47.1.lenMap) Aw))) ?_)
  refine wa Z (wa Z (ns (wm Z (nt ?_))))
  refine wc Z hm46 (fun h49 hm50=>?_) (fun h49 hm51=>?_) <;> clear hm46
  ·skip
   refine sr (wq Z (Ac Kj Z Z Z (Ab 0 Z)) (wm Z (Aa Z ?_)))
   refine(EV.store 4 Z Z Z Z Z Z (vs:=[i_ x44.1.pace,i_ x44.1.stages,X47.1]) (show Value.cells _=List.toArray _ from Z) Sw (nl Z) (oc Z (oc Z (oc (SliceLen.one hF47.1.lenMap) Aw))) ?_)
   refine wa Z (wa Z (nt (WC.ret (tr (kr (tr (kr (tr (tr ?_)))))))))
   obtain rfl:=Cy hm50 hn36
   obtain rfl:=(Ae hm20).symm
   refine G1 Z Kj Z Z Z Z (Ab 4 Z) (fun w hw=>?_)
   exact⟨(X47.1,X47.2.1,X47.2.2),Z,hw.pick [1] (by decide),hF47.1,hF47.2⟩
  refine sk (WQ.then (WC.region (wf J3 Z (wl pl3 Z (Own.cell 2 Z Z) ?_))))
  obtain⟨c52,c54,c56,hm57⟩:=cs3 hm51;clear hm51
  refine wq Z (QV.add Z Z Z Z c52) (wf J3 Z (wl pl3 Z (Own.cell 2 Z Z) (wq Z (QV.mul Z Z Z Z c54) (wq Z (QV.quo Z Z Z Z (by decide) c56) (wq Z (QV.max2 Z Z Z Z) (wa Z (WL.nil (WQ.block ?_))))))))
  exact Bn (max (x39.1.pace+1) (Int.tdiv (x39.1.pace * 5) 4)) X47.2.2 m33 ⟨Ax hm57 hn36,((hle_1.trans hle42).trans hle47)⟩ (Nat.lt_succ_self _) ⟨Z,Z,Z,Z,Z,trivial⟩ (pk [1,3,4,5,6])
 refine WC.exit (te (te (Ai ?_)))
 exact Cb least8_1 k_1 ⟨A6 hm58 hn36,hle_1⟩ ⟨Z,Z,Z,Z,Z,trivial⟩ (pk [0,1,2,3,4])
end Go.Proofs.Ytaimbkndebaaiac
end
section
namespace Go.Proofs.Ytaimbkndebaaiac
open Go.Rd
open TNum TLoop TStable TMach TMach2 TKern TClone TNbr TSeq TKRun TKeep TOrd TCpt TDep TSched1 TEmit TCheck TRegs TBound TMake TBuild
namespace TCheck2
theorem Alv:Go.Rd.Enters Try.prog 35:=eT Try.func35
end TCheck2
open TCheck2
theorem Mi {v_l_logs v_l_body v_l_outs v_before:Value}{l:Lp}{before:List (List Int)}{r:Bool} (w:World) (hm:Gh l before=some r) (h_l_logs:Arr w v_l_logs 1 (l.logs.map Af)) (h_l_body:Arr w v_l_body 9 (l.body.map Stm.cells)) (h_l_outs:Arr w v_l_outs 1 (l.outs.map Af)) (h_before:RowsA w v_before before):Calls Try.prog 35 #[.agg #[v_l_logs,v_l_body,v_l_outs],v_before] w (fun e w'=>e=.returned (.bool r)∧Grow w w'):=by
 unfold Gh at hm
 have hk:=Base.rfl (w:=w)
 refine Ak (n:=23) (args:=[.agg #[v_l_logs,v_l_body,v_l_outs],v_before]) Try.func35 Z Z (nl Z) ?_ (An hk (Own.start w))
 refine sr (Aa Z ?_)
 refine(Aq (by decide) Z Z (fun b1=>?_))
 refine wa Z (nt (WC.seq (sr (wm Z (wq Z (Ay Try.underlying32 Z Z h_before.slen) (wm Z (nt ?_)))))))
 obtain⟨o2,ho3,hm4⟩:=Ag hm;clear hm;obtain⟨n5,ho6⟩:=A0 ho3
 refine Ci (H2:=[blk b1 [v_l_logs,v_l_body,v_l_outs] 25,kn noM w.heap.size w w]) (τ:=[u_ 1 _,u_ 2 _,u_ 7 _,u_ 8 _]) (fun (x9_1:Int)=>[(9,(true,i_ x9_1))]) (fun x9_1=>[]) (fun x9_1 m=>B3 (Fg before) m x9_1=some o2) (fun x9_1=>o2=.go x9_1) 0 n5 ho6 ⟨Z,Z,Z,Z,Z,trivial⟩ (pk [0,1]) ?_ ?_
 ·skip
  rintro x9_1 rfl
  refine WQ.then (sr (wm Z (wq Z (Ay Try.underlying32 Z Z h_before.slen) (wf Co Z (wl Gv Z (Own.cell 0 Z Z) (wq Z (Ay Try.underlying23 Z Z h_l_body.lenMap) (wq Z (QV.eql Z Z Z Z) (wa Z (nt (WC.ret ?_))))))))))
  obtain rfl:=(Ae hm4).symm
  exact Ar Z Z fun w hw=>kg hw
 rintro x9_1 m7 hI8
 obtain⟨m9,s10,rfl,hm11,hn12⟩:=Ap hI8;clear hI8;unfold Fg at hm11
 refine sr (wq Z (QV.lss Z Z Z Z) (nt (WC.seq ?_)))
 refine wc Z hm11 (fun h13 hm14=>?_) (fun h13 hm27=>?_) <;> clear hm11
 ·skip
  refine sk (WQ.then (WC.seq (WC.block (sr ?_))))
  obtain⟨c15,hm16⟩:=cs hm14;clear hm14
  obtain⟨p17,u19,hp18,hc20,hA21⟩:=h_before.ix c15
  refine wq Z (Ad Ri Z Z Z Z hp18) (wl Nc Z (fun w hw=>CellsAt.one 0 ((Am 1 Z hk hc20) w hw) Z) (wa Z (ns (wm Z (wq Z (Ay Try.underlying33 Z Z hA21.lenMap) (wq Z (QV.neq Z Z Z Z) (nt ?_)))))))
  refine wc Z hm16 (fun h22 hm23=>?_) (fun h22 hm24=>?_) <;> clear hm16
  ·skip
   refine sr (wa Z (nt (WC.ret (kr (tr (tr (kr (tr (tr ?_)))))))))
   obtain rfl:=Cy hm23 hn12
   obtain rfl:=(Ae hm4).symm
   exact Ar Z Z fun w hw=>kg hw
  refine sk (WQ.block (WQ.then (WC.region ?_)))
  obtain⟨c25,hm26⟩:=cs hm24;clear hm24
  refine wq Z (QV.add Z Z Z Z c25) (wm Z (WL.nil ?_))
  exact Ch (x9_1+1) m9 (Ax hm26 hn12) (Nat.lt_succ_self _) ⟨Z,Z,Z,Z,Z,trivial⟩ (pk [0,1])
 refine WC.exit (te (te (Ai ?_)))
 exact C7 x9_1 (A6 hm27 hn12) ⟨Z,Z,Z,Z,Z,trivial⟩ (pk [0,1])
theorem Yq {v_l_logs v_l_body v_l_outs v_k__ops v_order v_before:Value}{l:Lp}{t:Tgt}{k_:Krn}{order:List Int}{before:List (List Int)}{r:List Int×Int}{K0:World} (hm:Hy l t k_ order before=some r) (h_l_logs:Arr K0 v_l_logs 1 (l.logs.map Af)) (h_l_body:Arr K0 v_l_body 9 (l.body.map Stm.cells)) (h_l_outs:Arr K0 v_l_outs 1 (l.outs.map Af)) (h_k__ops:Arr K0 v_k__ops 10 (k_.ops.map Opr.cells)) (h_order:Arr K0 v_order 1 (order.map Af)) (h_before:RowsA K0 v_before before) (M:Nat→Prop) (w:World) (hk:Base M K0 w) (hw0:Own M w [] w):Calls Try.prog 9 #[.agg #[v_l_logs,v_l_body,v_l_outs],.agg #[.int .i64 t.u0,.int .i64 t.u1,.int .i64 t.u2,.int .i64 t.w0,.int .i64 t.w1,.int .i64 t.w2,.int .i64 t.regs],.agg #[.int .i64 k_.pace,.int .i64 k_.stages,v_k__ops],v_order,v_before] w (fun e w'=>∃ X:Value×World,e=.returned (.tuple #[X.1,.int .i64 r.2])∧Own M w (kn M w.heap.size K0 X.2::[]) w'∧Arr X.2 X.1 1 (r.1.map Af)):=by
 unfold Hy at hm
 refine Ak (n:=73) (args:=[.agg #[v_l_logs,v_l_body,v_l_outs],.agg #[i_ t.u0,i_ t.u1,i_ t.u2,i_ t.w0,i_ t.w1,i_ t.w2,i_ t.regs],.agg #[i_ k_.pace,i_ k_.stages,v_k__ops],v_order,v_before]) Try.func9 Z Z (nl Z) ?_ (An hk hw0)
 refine sr (Aa Z ?_)
 refine(Aq (by decide) Z Z (fun b1=>?_))
 refine Aa Z ?_
 refine(Aq (by decide) Z Z (fun b2=>?_))
 refine Aa Z ?_
 refine(Aq (by decide) Z Z (fun b3=>?_))
 refine wa Z (wa Z (ns (wq Z (Ac Fh Z Z Z (Ab 2 Z)) (wq Z (Ac Gk Z Z Z (Ab 1 Z)) (wq Z (Ac Kj Z Z Z (Ab 0 Z)) (wm Z (Aa Z ?_)))))))
 obtain⟨x4,hx5,hm6⟩:=Ag hm;clear hm
 refine EV.of (C':=Own M w [kn M w.heap.size K0 K0,blk b3 [i_ k_.pace,i_ k_.stages,v_k__ops] 31,blk b2 t.cells 28,blk b1 [v_l_logs,v_l_body,v_l_outs] 25]) (pk [3,0,1,2]) ?_
 refine(A4 (X:=Value×World) (R:=[]) (fun X=>.tuple #[X.1,.bool x4.2]) (fun X=>[]) (fun X=>X.2) (fun X=>LayAt X.2 X.1 x4.1) hk (fun _ h=>by cases h;decide) en28 (ec Z (ec Z (ec Z (ec Z eN)))) (fun M w h1 h2=>have h:=Ny hx5 h_l_logs h_l_body h_l_outs h_k__ops h_order M w h1 h2;h) (fun X7 hF7 hle7=>?_))
 rcases hE8:x4.1 with _ | y9
 ·skip
  have hm10:=Q7 hE8 hm6;clear hm6
  obtain⟨c11,hm12⟩:=cs hm10;clear hm10
  have e13:=LayAt.nil hF7 hE8
  rw[e13,c11]
  refine wm Z (wq Z (QV.extract Z Z Z) (wq Z (QV.extract Z Z Z) (wa Z (wa Z (nt (WC.seq (sr (wm Z (wq Z (QV.not Z Z) (wm Z (gn Z (fun hG=>Ac Fh Z Z Z (Ab 3 Z)) ?_)))))))))))
  refine gn Z (fun hG=>QV.move Z Z) ?_
  obtain⟨x14,hx15,hm16⟩:=Ce hm12;clear hm12
  refine gn Z (fun hG=>QV.call Alv (EvAll.cons Z hG (EvAll.cons Z hG eN)) (fun w hw=>have h:=Mi w (hx15 hG) ((Ah 0 Z hk (h_l_logs.le hle7)) w hw) ((Ah 0 Z hk (h_l_body.le hle7)) w hw) ((Ah 0 Z hk (h_l_outs.le hle7)) w hw) (Gz 0 Z hk (h_before.le hle7) w hw);h)) (gn Z (fun hG=>QV.not Z hG) (wq Z (A2 Z Z Z (fun h=>Dv h)) (nt ?_)))
  refine WC.cond Z (fun h17=>?_) (fun h17=>?_)
  ·skip
   refine sr (wa Z (wa Z (nt (WC.ret (tr ?_)))))
   obtain rfl:=(Ae hm16).symm
   refine Dn Z Z Z (fun w hw=>?_)
   exact⟨(.slice none 0 0,X7.2),Z,hw.pick [0] (by decide),Arr.nil⟩
  exact absurd h17 (by simp)
 have hm18:=Q6 hE8 hm6;clear hm6
 obtain⟨p19,u19_1,u19_2,u19_3,u19_4,u19_5,u19_6,hP19,hC19,hA19_1,hA19_2,hA19_3,hA19_4,hA19_5,hA19_6⟩:=LayAt.at hF7 hE8
 rw[hP19]
 refine wm Z (wq Z (QV.extract Z Z Z) (wq Z (QV.extract Z Z Z) (wa Z (wa Z (nt (WC.seq (sr (wm Z (wq Z (QV.not Z Z) (wm Z (gn Z (fun hG=>Ac Fh Z Z Z (Ab 3 Z)) ?_)))))))))))
 refine gn Z (fun hG=>QV.move Z Z) ?_
 obtain⟨x20,hx21,hm22⟩:=Ce hm18;clear hm18
 refine gn Z (fun hG=>QV.call Alv (EvAll.cons Z hG (EvAll.cons Z hG eN)) (fun w hw=>have h:=Mi w (hx21 hG) ((Ah 0 Z hk (h_l_logs.le hle7)) w hw) ((Ah 0 Z hk (h_l_body.le hle7)) w hw) ((Ah 0 Z hk (h_l_outs.le hle7)) w hw) (Gz 0 Z hk (h_before.le hle7) w hw);h)) (gn Z (fun hG=>QV.not Z hG) (wq Z (A2 Z Z Z (fun h=>Dv h)) (nt ?_)))
 refine wc Z hm22 (fun h23 hm24=>?_) (fun h23 hm25=>?_) <;> clear hm22
 ·skip
  refine sr (wa Z (wa Z (nt (WC.ret (tr ?_)))))
  obtain rfl:=(Ae hm24).symm
  refine Dn Z Z Z (fun w hw=>?_)
  exact⟨(.slice none 0 0,X7.2),Z,hw.pick [0] (by decide),Arr.nil⟩
 refine sk (WQ.then (sr (wf H8 Z (wl pl3 Z (Own.cell 2 Z Z) (Aa Z ?_)))))
 obtain⟨c26,c28,hm29⟩:=cs2 hm25;clear hm25
 refine(EV.makeSlice (enc:=Af) (0:Int) (by decide) Wa ze2 Z Z c26 Z c28 (fun u30 hu31=>?_))
 refine wa Z (nt (WC.seq (sr (wf Co Z (wl Gv Z (Own.cell 4 Z Z) (wq Z (Ay Try.underlying23 Z Z (h_l_body.le hle7).lenMap) (wm Z (nt ?_))))))))
 obtain⟨o33,ho34,hm35⟩:=Ag hm29;clear hm29;obtain⟨n36,ho37⟩:=A0 ho34
 refine Bz (H2:=[kn M w.heap.size K0 X7.2,blk b3 [i_ k_.pace,i_ k_.stages,v_k__ops] 31,blk b2 t.cells 28,blk b1 [v_l_logs,v_l_body,v_l_outs] 25]) (τ:=[u_ 4 _,u_ 5 _,u_ 6 _,u_ 12 _,u_ 14 _,u_ 38 _]) (fun (v32_3:List Int) (x39_3:Int)=>[(39,(true,i_ x39_3))]) (fun v32_3 x39_3=>[vec u30 2 1 (List.map Af v32_3)]) (fun v32_3 x39_3 m=>B3 (Fx l t before y9) m (v32_3,x39_3)=some o33∧SliceLen u30 v32_3.length) (fun v32_3 x39_3=>o33=.go (v32_3,x39_3)∧SliceLen u30 v32_3.length) (List.replicate t.regs.toNat (0:Int)) 0 n36 ⟨ho37,hu31⟩ ⟨Z,Z,Z,Z,Z,Z,Z,trivial⟩ (pk [0,1,2,3,4]) ?_ ?_
 ·skip
  rintro v32_3 x39_3 ⟨rfl,hlv32_3⟩
  refine WQ.then (sr (wm Z (wa Z (wa Z (nt (WC.ret ?_))))))
  obtain rfl:=(Ae hm35).symm
  refine WK.of (C':=Own M w [kn M w.heap.size K0 X7.2,vec u30 2 1 (List.map Af v32_3),blk b3 [i_ k_.pace,i_ k_.stages,v_k__ops] 31,blk b2 t.cells 28,blk b1 [v_l_logs,v_l_body,v_l_outs] 25]) (pk [1,0,2,3,4]) ?_
  refine WK.freeze hk (fun k38 hle38 hr38=>?_)
  have hA38:=Cf hr38
  refine Dn Z Z Z (fun w hw=>?_)
  exact⟨(u30,k38),Z,hw.pick [0] (by decide),hA38⟩
 rintro v32_3 x39_3 m39 ⟨hI40,hlv32_3⟩
 obtain⟨m41,s42,rfl,hm43,hn44⟩:=Ap hI40;clear hI40;unfold Fx at hm43;simp only at hm43
 refine sr (wq Z (QV.lss Z Z Z Z) (nt (WC.seq ?_)))
 refine wc Z hm43 (fun h45 hm46=>?_) (fun h45 hm95=>?_) <;> clear hm43
 ·skip
  refine sk (WQ.then (WC.seq (WC.block (sr (wm Z (wa Z (ns (wq Z (Ac Fh Z Z Z (Ab 4 Z)) (wm Z ?_)))))))))
  obtain⟨x47,hx48,hm49⟩:=Ag hm46;clear hm46
  refine wq Z (QV.call en36 (ec Z (ec Z eN)) (fun w hw=>have h:=Xo w hx48 ((Ah 1 Z hk (h_l_logs.le hle7)) w hw) ((Ah 1 Z hk (h_l_body.le hle7)) w hw) ((Ah 1 Z hk (h_l_outs.le hle7)) w hw);h)) (wm Z (nt ?_))
  obtain⟨o50,ho51,hm52⟩:=Ag hm49;clear hm49;obtain⟨n53,ho54⟩:=A0 ho51
  refine Bz (H2:=[kn M w.heap.size K0 X7.2,blk b3 [i_ k_.pace,i_ k_.stages,v_k__ops] 31,blk b2 t.cells 28,blk b1 [v_l_logs,v_l_body,v_l_outs] 25]) (τ:=[u_ 4 _,u_ 5 _,u_ 6 _,u_ 12 _,u_ 14 _,u_ 15 _,u_ 38 _,u_ 39 _,u_ 44 _]) (fun (v32_4:List Int) (x45_4:Int)=>[(45,(true,i_ x45_4))]) (fun v32_4 x45_4=>[vec u30 2 1 (List.map Af v32_4)]) (fun v32_4 x45_4 m=>B3 (Fw t before y9 x39_3 x47) m (v32_4,x45_4)=some o50∧SliceLen u30 v32_4.length) (fun v32_4 x45_4=>o50=.go (v32_4,x45_4)∧SliceLen u30 v32_4.length) v32_3 0 n53 ⟨ho54,hlv32_3⟩ ⟨Z,Z,Z,Z,Z,Z,Z,Z,Z,Z,trivial⟩ (pk [0,1,2,3,4]) ?_ ?_
  ·skip
   rintro v32_4 x45_4 ⟨rfl,hlv32_4⟩
   refine WQ.block (WQ.then (WC.region ?_))
   obtain⟨c55,hm56⟩:=cs hm52;clear hm52
   refine wq Z (QV.add Z Z Z Z c55) (wm Z (WL.nil ?_))
   exact Bn v32_4 (x39_3+1) m41 ⟨Ax hm56 hn44,hlv32_4⟩ (Nat.lt_succ_self _) ⟨Z,Z,Z,Z,Z,Z,Z,trivial⟩ (pk [0,1,2,3,4])
  rintro v32_4 x45_4 m57 ⟨hI58,hlv32_4⟩
  obtain⟨m59,s60,rfl,hm61,hn62⟩:=Ap hI58;clear hI58;unfold Fw at hm61;simp only at hm61
  refine sr (wq Z (QV.lss Z Z Z Z) (nt (WC.seq ?_)))
  refine wc Z hm61 (fun h63 hm64=>?_) (fun h63 hm94=>?_) <;> clear hm61
  ·skip
   refine sk (WQ.then (WC.seq (WC.block (sr (wm Z (wa Z (nt (B9 (m:=23) (S:=Own M w [kn M w.heap.size K0 X7.2,vec u30 2 1 (List.map Af v32_4),blk b3 [i_ k_.pace,i_ k_.stages,v_k__ops] 31,blk b2 t.cells 28,blk b1 [v_l_logs,v_l_body,v_l_outs] 25]) (by kernel_rfl) (by kernel_rfl) (pk [1,0,2,3,4]) (zm 0 Z Z (zm 1 Z Z (wz 2 Z Z (QV.nilCheck Z Z) (zf 3 K9 Z Z (zl 4 Du Z Z (fun w hw=>CellsAt.one 7 ((Am 0 Z hk hC19) w hw) Z) ?_)))))))))))))
   refine zm 5 Z Z ?_
   obtain⟨c65,hm66⟩:=cs hm64;clear hm64
   obtain⟨p67,hp68⟩:=hA19_6.lenMap.ix (sz:=1) Au c65
   refine wz 6 Z Z (Ad Ei Z Z Z Z hp68) (zl 7 pl3 Z Z (fun w hw=>CellsAt.one 0 (((Ah 0 Z hk hA19_6) w hw).ele hp68 c65) Z) (zm 8 Z Z ?_))
   obtain⟨c69,c71,hm72⟩:=cs2 hm66;clear hm66
   refine wz 9 Z Z (QV.sub Z Z Z Z c69) (wz 10 Z Z (QV.sub Z Z Z Z c71) (zf 11 H8 Z Z (zl 12 pl3 Z Z (Own.cell 3 Z Z) ?_)))
   obtain⟨x73,hx74,hm75⟩:=Ag hm72;clear hm72
   refine wz 13 Z Z (QV.call Ain (ec Z (ec Z eN)) (fun w hw=>have h:=L0 w hx74 ;h)) (zm 14 Z Z (zm 15 Z Z ?_))
   obtain⟨c76,hm77⟩:=cs hm75;clear hm75
   obtain⟨p78,u80,hp79,hc81,hA82⟩:=(h_before.le hle7).ix c76
   refine wz 16 Z Z (Ad Ri Z Z Z Z hp79) (zl 17 Nc Z Z (fun w hw=>CellsAt.one 0 ((Am 0 Z hk hc81) w hw) Z) (zm 18 Z Z ?_))
   obtain⟨c83,hm84⟩:=cs hm77;clear hm77
   obtain⟨p85,hp86⟩:=hA82.lenMap.ix (sz:=1) Au c83
   refine wz 19 Z Z (Ad Rh Z Z Z Z hp86) (zl 20 pl2 Z Z (fun w hw=>CellsAt.one 0 (((Ah 0 Z hk hA82) w hw).ele hp86 c83) Z) ?_)
   obtain⟨c87,hm88⟩:=cs hm84;clear hm84
   obtain⟨p89,hp90⟩:=hlv32_4.ix (sz:=1) Au c87
   refine wz 21 Z Z (Ad Rh Z Z Z Z hp90) ?_
   refine WD.l 22 Z (by kernel_rfl) Z ?_
   refine(Ot 0 (ele (ele before x39_3) x45_4) Ob Z Z Z Z Z hp90 Z Z sz2 ?_)
   have hl91:SliceLen u30 (upd v32_4 x73 (ele (ele before x39_3) x45_4)).length:=Fm hlv32_4
   refine WQ.block (WQ.then (WC.region ?_))
   obtain⟨c92,hm93⟩:=cs hm88;clear hm88
   refine wq Z (QV.add Z Z Z Z c92) (wm Z (WL.nil ?_))
   exact Bn (upd v32_4 x73 (ele (ele before x39_3) x45_4)) (x45_4+1) m59 ⟨Ax hm93 hn62,hl91⟩ (Nat.lt_succ_self _) ⟨Z,Z,Z,Z,Z,Z,Z,Z,Z,Z,trivial⟩ (pk [0,1,2,3,4])
  refine WC.exit (te (te (Ai ?_)))
  exact Cb v32_4 x45_4 ⟨A6 hm94 hn62,hlv32_4⟩ ⟨Z,Z,Z,Z,Z,Z,Z,Z,Z,Z,trivial⟩ (pk [0,1,2,3,4])
 refine WC.exit (te (te (Ai ?_)))
 exact Cb v32_3 x39_3 ⟨A6 hm95 hn44,hlv32_3⟩ ⟨Z,Z,Z,Z,Z,Z,Z,trivial⟩ (pk [0,1,2,3,4])
theorem Yp {v_l_logs v_l_body v_l_outs v_k__ops v_order v_before v_regs:Value}{l:Lp}{t:Tgt}{k_:Krn}{order:List Int}{before:List (List Int)}{regs:List Int}{turns:Int}{r:List Int×Int}{K0:World} (hm:Hx l t k_ order before regs turns=some r) (h_l_logs:Arr K0 v_l_logs 1 (l.logs.map Af)) (h_l_body:Arr K0 v_l_body 9 (l.body.map Stm.cells)) (h_l_outs:Arr K0 v_l_outs 1 (l.outs.map Af)) (h_k__ops:Arr K0 v_k__ops 10 (k_.ops.map Opr.cells)) (h_order:Arr K0 v_order 1 (order.map Af)) (h_before:RowsA K0 v_before before) (h_regs:Arr K0 v_regs 1 (regs.map Af)) (M:Nat→Prop) (w:World) (hk:Base M K0 w) (hw0:Own M w [] w):Calls Try.prog 10 #[.agg #[v_l_logs,v_l_body,v_l_outs],.agg #[.int .i64 t.u0,.int .i64 t.u1,.int .i64 t.u2,.int .i64 t.w0,.int .i64 t.w1,.int .i64 t.w2,.int .i64 t.regs],.agg #[.int .i64 k_.pace,.int .i64 k_.stages,v_k__ops],v_order,v_before,v_regs,.int .i64 turns] w (fun e w'=>∃ X:Value×World,e=.returned (.tuple #[X.1,.int .i64 r.2])∧Own M w (kn M w.heap.size K0 X.2::[]) w'∧Arr X.2 X.1 1 (r.1.map Af)):=by
 unfold Hx at hm
 refine Ak (n:=91) (args:=[.agg #[v_l_logs,v_l_body,v_l_outs],.agg #[i_ t.u0,i_ t.u1,i_ t.u2,i_ t.w0,i_ t.w1,i_ t.w2,i_ t.regs],.agg #[i_ k_.pace,i_ k_.stages,v_k__ops],v_order,v_before,v_regs,i_ turns]) Try.func10 Z Z (nl Z) ?_ (An hk hw0)
 refine sr (Aa Z ?_)
 refine(Aq (by decide) Z Z (fun b1=>?_))
 refine Aa Z ?_
 refine(Aq (by decide) Z Z (fun b2=>?_))
 refine Aa Z ?_
 refine(Aq (by decide) Z Z (fun b3=>?_))
 refine wa Z (wa Z (ns (wq Z (Ac Fh Z Z Z (Ab 2 Z)) (wq Z (Ac Gk Z Z Z (Ab 1 Z)) (wq Z (Ac Kj Z Z Z (Ab 0 Z)) (wm Z (Aa Z ?_)))))))
 obtain⟨x4,hx5,hm6⟩:=Ag hm;clear hm
 refine EV.of (C':=Own M w [kn M w.heap.size K0 K0,blk b3 [i_ k_.pace,i_ k_.stages,v_k__ops] 31,blk b2 t.cells 28,blk b1 [v_l_logs,v_l_body,v_l_outs] 25]) (pk [3,0,1,2]) ?_
 refine(A4 (X:=Value×World) (R:=[]) (fun X=>.tuple #[X.1,.bool x4.2]) (fun X=>[]) (fun X=>X.2) (fun X=>LayAt X.2 X.1 x4.1) hk (fun _ h=>by cases h;decide) en28 (ec Z (ec Z (ec Z (ec Z eN)))) (fun M w h1 h2=>have h:=Ny hx5 h_l_logs h_l_body h_l_outs h_k__ops h_order M w h1 h2;h) (fun X7 hF7 hle7=>?_))
 rcases hE8:x4.1 with _ | y9
 ·skip
  have hm10:=Q7 hE8 hm6;clear hm6
  obtain⟨c11,hm12⟩:=cs hm10;clear hm10
  have e13:=LayAt.nil hF7 hE8
  rw[e13,c11]
  refine wm Z (wq Z (QV.extract Z Z Z) (wq Z (QV.extract Z Z Z) (wa Z (wa Z (nt (WC.seq (WC.block (sr (wm Z (wq Z (QV.not Z Z) (wm Z (gn Z (fun hG=>Ac Fh Z Z Z (Ab 3 Z)) ?_))))))))))))
  refine gn Z (fun hG=>QV.move Z Z) ?_
  obtain⟨x14,hx15,hm16⟩:=Ce hm12;clear hm12
  refine gn Z (fun hG=>QV.call Alv (EvAll.cons Z hG (EvAll.cons Z hG eN)) (fun w hw=>have h:=Mi w (hx15 hG) ((Ah 0 Z hk (h_l_logs.le hle7)) w hw) ((Ah 0 Z hk (h_l_body.le hle7)) w hw) ((Ah 0 Z hk (h_l_outs.le hle7)) w hw) (Gz 0 Z hk (h_before.le hle7) w hw);h)) (gn Z (fun hG=>QV.not Z hG) (wq Z (A2 Z Z Z (fun h=>Dv h)) (wm Z (gn Z (fun hG=>QV.move Z Z) (gn Z (fun hG=>Ay Try.underlying33 Z hG (h_regs.le hle7).lenMap) (gn Z (fun hG=>QV.fieldAddr H8 Z Z) (gn Z (fun hG=>QV.load pl3 Z hG (Own.cell 2 Z Z)) (gn Z (fun hG=>QV.neq Z hG Z hG) (wq Z (A2 Z Z Z (fun h=>Dv h)) ?_)))))))))
  refine wa Z (nt ?_)
  refine WC.cond Z (fun h17=>?_) (fun h17=>?_)
  ·skip
   refine sr (wa Z (wa Z (nt (WC.ret (kr (tr ?_))))))
   obtain rfl:=(Ae hm16).symm
   refine Dn Z Z Z (fun w hw=>?_)
   exact⟨(.slice none 0 0,X7.2),Z,hw.pick [0] (by decide),Arr.nil⟩
  exact absurd h17 (by simp)
 have hm18:=Q6 hE8 hm6;clear hm6
 obtain⟨p19,u19_1,u19_2,u19_3,u19_4,u19_5,u19_6,hP19,hC19,hA19_1,hA19_2,hA19_3,hA19_4,hA19_5,hA19_6⟩:=LayAt.at hF7 hE8
 rw[hP19]
 refine wm Z (wq Z (QV.extract Z Z Z) (wq Z (QV.extract Z Z Z) (wa Z (wa Z (nt (WC.seq (WC.block (sr (wm Z (wq Z (QV.not Z Z) (wm Z (gn Z (fun hG=>Ac Fh Z Z Z (Ab 3 Z)) ?_))))))))))))
 refine gn Z (fun hG=>QV.move Z Z) ?_
 obtain⟨x20,hx21,hm22⟩:=Ce hm18;clear hm18
 refine gn Z (fun hG=>QV.call Alv (EvAll.cons Z hG (EvAll.cons Z hG eN)) (fun w hw=>have h:=Mi w (hx21 hG) ((Ah 0 Z hk (h_l_logs.le hle7)) w hw) ((Ah 0 Z hk (h_l_body.le hle7)) w hw) ((Ah 0 Z hk (h_l_outs.le hle7)) w hw) (Gz 0 Z hk (h_before.le hle7) w hw);h)) (gn Z (fun hG=>QV.not Z hG) (wq Z (A2 Z Z Z (fun h=>Dv h)) (wm Z (gn Z (fun hG=>QV.move Z Z) (gn Z (fun hG=>Ay Try.underlying33 Z hG (h_regs.le hle7).lenMap) (gn Z (fun hG=>QV.fieldAddr H8 Z Z) (gn Z (fun hG=>QV.load pl3 Z hG (Own.cell 2 Z Z)) (gn Z (fun hG=>QV.neq Z hG Z hG) (wq Z (A2 Z Z Z (fun h=>Dv h)) ?_)))))))))
 refine wa Z (nt ?_)
 refine wc Z hm22 (fun h23 hm24=>?_) (fun h23 hm25=>?_) <;> clear hm22
 ·skip
  refine sr (wa Z (wa Z (nt (WC.ret (kr (tr ?_))))))
  obtain rfl:=(Ae hm24).symm
  refine Dn Z Z Z (fun w hw=>?_)
  exact⟨(.slice none 0 0,X7.2),Z,hw.pick [0] (by decide),Arr.nil⟩
 refine sr (wm Z (wq Z (QV.lss Z Z Z Z) (wm Z (gn Z (fun hG=>QV.move Z Z) (gn Z (fun hG=>QV.gtr Z hG Z Z) (wq Z (A2 Z Z Z (fun h=>Dv h)) (wa Z (nt ?_))))))))
 refine wc Z hm25 (fun h26 hm27=>?_) (fun h26 hm28=>?_) <;> clear hm25
 ·skip
  refine sr (wa Z (wa Z (nt (WC.ret (kr (tr ?_))))))
  obtain rfl:=(Ae hm27).symm
  refine Dn Z Z Z (fun w hw=>?_)
  exact⟨(.slice none 0 0,X7.2),Z,hw.pick [0] (by decide),Arr.nil⟩
 refine sk (WQ.block (WQ.then (sr (wa Z (nt (WC.seq (sr (wf Aal Z (wl Du Z (Own.cell 3 Z Z) (wq Z (Ay Try.underlying22 Z Z (h_l_outs.le hle7).lenMap) (wm Z (nt ?_))))))))))))
 refine WK.of (fun w hw=>hw.vecNil (E:=2) (sz:=1) (enc:=Af)) ?_
 obtain⟨o30,ho31,hm32⟩:=Ag hm28;clear hm28;obtain⟨n33,ho34⟩:=A0 ho31
 refine D2 (H2:=[kn M w.heap.size K0 X7.2,blk b3 [i_ k_.pace,i_ k_.stages,v_k__ops] 31,blk b2 t.cells 28,blk b1 [v_l_logs,v_l_body,v_l_outs] 25]) (τ:=[u_ 4 _,u_ 5 _,u_ 6 _,u_ 8 _,u_ 16 _,u_ 53 _,u_ 54 _]) (fun (v29_1:List Int) (x55_1:Int) (uv29_1:Value)=>[(18,(true,uv29_1)),(55,(true,i_ x55_1))]) (fun v29_1 x55_1 uv29_1=>[vec uv29_1 2 1 (List.map Af v29_1)]) (fun v29_1 x55_1 uv29_1 m=>B3 (Fv l t before regs turns y9) m (v29_1,x55_1)=some o30∧SliceLen uv29_1 v29_1.length) (fun v29_1 x55_1 uv29_1=>o30=.go (v29_1,x55_1)∧SliceLen uv29_1 v29_1.length) [] 0 (.slice none 0 0) n33 ⟨ho34,SliceLen.nil⟩ ⟨Z,Z,Z,Z,Z,Z,Z,Z,Z,trivial⟩ (pk [0,1,2,3,4]) ?_ ?_
 ·skip
  rintro v29_1 x55_1 uv29_1 ⟨rfl,hlv29_1⟩
  refine WQ.then (sr (wm Z (wa Z (wa Z (nt (WC.ret ?_))))))
  obtain rfl:=(Ae hm32).symm
  refine WK.of (C':=Own M w [kn M w.heap.size K0 X7.2,vec uv29_1 2 1 (List.map Af v29_1),blk b3 [i_ k_.pace,i_ k_.stages,v_k__ops] 31,blk b2 t.cells 28,blk b1 [v_l_logs,v_l_body,v_l_outs] 25]) (pk [1,0,2,3,4]) ?_
  refine WK.freeze hk (fun k35 hle35 hr35=>?_)
  have hA35:=Cf hr35
  refine Dn Z Z Z (fun w hw=>?_)
  exact⟨(uv29_1,k35),Z,hw.pick [0] (by decide),hA35⟩
 rintro v29_1 x55_1 uv29_1 m36 ⟨hI37,hlv29_1⟩
 obtain⟨m38,s39,rfl,hm40,hn41⟩:=Ap hI37;clear hI37;unfold Fv at hm40;simp only at hm40
 refine sr (wq Z (QV.lss Z Z Z Z) (nt (WC.seq ?_)))
 refine wc Z hm40 (fun h42 hm43=>?_) (fun h42 hm91=>?_) <;> clear hm40
 ·skip
  refine sk (WQ.then (WC.seq (WC.block (sr ?_))))
  obtain⟨c44,hm45⟩:=cs hm43;clear hm43
  obtain⟨p46,hp47⟩:=(h_l_outs.le hle7).lenMap.ix (sz:=1) Au c44
  refine wq Z (Ad Ei Z Z Z Z hp47) (wl pl3 Z (fun w hw=>CellsAt.one 0 (((Ah 1 Z hk (h_l_outs.le hle7)) w hw).ele hp47 c44) Z) (wa Z (ns (wm Z (wq Z (QV.eql Z Z Z Z) (nt ?_))))))
  refine wc Z hm45 (fun h48 hm49=>?_) (fun h48 hm68=>?_) <;> clear hm45
  ·skip
   refine WC.region (wm Z (wm Z (wm Z ?_)))
   obtain⟨c50,hm51⟩:=cs hm49;clear hm49
   obtain⟨p52,u54,hp53,hc55,hA56⟩:=(h_before.le hle7).ix c50
   refine wq Z (Ad Ri Z Z Z Z hp53) (wl Nc Z (fun w hw=>CellsAt.one 0 ((Am 1 Z hk hc55) w hw) Z) ?_)
   obtain⟨c57,hm58⟩:=cs hm51;clear hm51
   obtain⟨p59,hp60⟩:=hA56.lenMap.ix (sz:=1) Au c57
   refine wq Z (Ad Rh Z Z Z Z hp60) (wl pl2 Z (fun w hw=>CellsAt.one 0 (((Ah 1 Z hk hA56) w hw).ele hp60 c57) Z) (Aa Z ?_))
   refine(EV.buildSlice (by decide) Rn (by decide) (by decide) (ps:=[(0,.tmp 67)]) (cells:=[i_ (ele (ele before (ele l.outs x55_1)) 0)]) (ec Z eN) (by kernel_rfl) (fun b61=>?_))
   refine Aa Z ?_
   obtain⟨c62,c66,hm67⟩:=cs2 hm58;clear hm58
   refine(Bx (enc:=Af) (xs:=v29_1) (ys:=[(ele (ele before (ele l.outs x55_1)) 0)]) ((v29_1++[(ele (ele before (ele l.outs x55_1)) 0)])) 1 (by decide) Wa Z Z Z Z Z (Bj 0 (rows:=[(ele (ele before (ele l.outs x55_1)) 0)].map Af) Z Z (B5 Bf)) Bf (Cz _) Z c62.1 c62.2 (fun u64 hu65=>?_))
   refine wa Z (WL.nil (WQ.block (WQ.then (WC.region (wq Z (QV.add Z Z Z Z c66) (wm Z (WL.nil ?_)))))))
   exact C4 (v29_1++[(ele (ele before (ele l.outs x55_1)) 0)]) (x55_1+1) u64 m38 ⟨Ax hm67 hn41,hu65⟩ (Nat.lt_succ_self _) ⟨Z,Z,Z,Z,Z,Z,Z,Z,Z,trivial⟩ (pk [1,2,3,4,5])
  refine B9 (m:=20) (S:=Own M w [kn M w.heap.size K0 X7.2,blk b3 [i_ k_.pace,i_ k_.stages,v_k__ops] 31,blk b2 t.cells 28,blk b1 [v_l_logs,v_l_body,v_l_outs] 25]) (by kernel_rfl) (by kernel_rfl) (pk [1,2,3,4]) (zm 0 Z Z (zm 1 Z Z (zm 2 Z Z (wz 3 Z Z (QV.nilCheck Z Z) (zf 4 K9 Z Z (zl 5 Du Z Z (fun w hw=>CellsAt.one 7 ((Am 0 Z hk hC19) w hw) Z) (zm 6 Z Z ?_)))))))
  obtain⟨c69,hm70⟩:=cs hm68;clear hm68
  obtain⟨p71,hp72⟩:=hA19_6.lenMap.ix (sz:=1) Au c69
  refine wz 7 Z Z (Ad Ei Z Z Z Z hp72) (zl 8 pl3 Z Z (fun w hw=>CellsAt.one 0 (((Ah 0 Z hk hA19_6) w hw).ele hp72 c69) Z) (zm 9 Z Z ?_))
  obtain⟨c73,c75,hm76⟩:=cs2 hm70;clear hm70
  refine wz 10 Z Z (QV.add Z Z Z Z c73) (wz 11 Z Z (QV.sub Z Z Z Z c75) (zf 12 H8 Z Z (zl 13 pl3 Z Z (Own.cell 2 Z Z) ?_)))
  obtain⟨x77,hx78,hm79⟩:=Ag hm76;clear hm76
  refine wz 14 Z Z (QV.call Ain (ec Z (ec Z eN)) (fun w hw=>have h:=L0 w hx78 ;h)) ?_
  obtain⟨c80,hm81⟩:=cs hm79;clear hm79
  obtain⟨p82,hp83⟩:=(h_regs.le hle7).lenMap.ix (sz:=1) Au c80
  refine wz 15 Z Z (Ad Rh Z Z Z Z hp83) (zl 16 pl2 Z Z (fun w hw=>CellsAt.one 0 (((Ah 0 Z hk (h_regs.le hle7)) w hw).ele hp83 c80) Z) ?_)
  refine WD.o 17 Z (by kernel_rfl) Z ?_
  refine(EV.buildSlice (by decide) Rn (by decide) (by decide) (ps:=[(0,.tmp 86)]) (cells:=[i_ (ele regs x77)]) (ec Z eN) (by kernel_rfl) (fun b84=>?_))
  refine WD.b (H':=[kn M w.heap.size K0 X7.2,blk b84 [i_ (ele regs x77)] 2,blk b3 [i_ k_.pace,i_ k_.stages,v_k__ops] 31,blk b2 t.cells 28,blk b1 [v_l_logs,v_l_body,v_l_outs] 25]) (pk [2,0,3,4,5]) (pk [0,2,3,4]) ?_
  refine WD.o 18 Z (by kernel_rfl) Z ?_
  obtain⟨c85,c89,hm90⟩:=cs2 hm81;clear hm81
  refine(Bx (enc:=Af) (xs:=v29_1) (ys:=[(ele regs x77)]) ((v29_1++[(ele regs x77)])) 1 (by decide) Wa Z Z Z Z Z (Bj 0 (rows:=[(ele regs x77)].map Af) Z Z (B5 Bf)) Bf (Cz _) Z c85.1 c85.2 (fun u87 hu88=>?_))
  refine WD.b (H':=[kn M w.heap.size K0 X7.2,blk b84 [i_ (ele regs x77)] 2,vec u87 2 1 (List.map Af (v29_1++[(ele regs x77)])),blk b3 [i_ k_.pace,i_ k_.stages,v_k__ops] 31,blk b2 t.cells 28,blk b1 [v_l_logs,v_l_body,v_l_outs] 25]) (pk [2,0,1,3,4,5]) (pk [0,1,3,4,5]) ?_
  refine wz 19 Z Z (QV.assign Z Z) ?_
  refine WD.e (by kernel_rfl) ?_
  refine WQ.block (WQ.then (WC.region (wq Z (QV.add Z Z Z Z c89) (wm Z (WL.nil ?_)))))
  exact C4 (v29_1++[(ele regs x77)]) (x55_1+1) u87 m38 ⟨Ax hm90 hn41,hu88⟩ (Nat.lt_succ_self _) ⟨Z,Z,Z,Z,Z,Z,Z,Z,Z,trivial⟩ (pk [1,2,3,4,5])
 refine WC.exit (te (te (Ai ?_)))
 exact Gw v29_1 x55_1 uv29_1 ⟨A6 hm91 hn41,hlv29_1⟩ ⟨Z,Z,Z,Z,Z,Z,Z,Z,Z,trivial⟩ (pk [0,1,2,3,4])
end Go.Proofs.Ytaimbkndebaaiac
end
section
namespace Go.Proofs.Ytaimbkndebaaiac
open Go.Rd
open TNum TLoop TStable TMach TMach2 TKern TClone TNbr TSeq TKRun TKeep TOrd TCpt TDep TSched1 TEmit TCheck TRegs TBound TMake TBuild TCheck2
namespace TLawRuns
theorem en10:Go.Rd.Enters Try.prog 10:=eT Try.func10
theorem en15:Go.Rd.Enters Try.prog 15:=eT Try.func15
theorem en25:Go.Rd.Enters Try.prog 25:=eT Try.func25
theorem en26:Go.Rd.Enters Try.prog 26:=eT Try.func26
theorem en27:Go.Rd.Enters Try.prog 27:=eT Try.func27
theorem en9:Go.Rd.Enters Try.prog 9:=eT Try.func9
theorem App:Bw Try.prog 59 1 1:=fT 0 Try.underlying59
end TLawRuns
open TLawRuns
theorem Nf {v_l_logs v_l_body v_l_outs v_s_bef v_s_mem:Value}{l:Lp}{t:Tgt}{s:Sta}{turns:Int}{r:Bool} (w:World) (hm:D5 l t s turns=some r) (h_l_logs:Arr w v_l_logs 1 (l.logs.map Af)) (h_l_body:Arr w v_l_body 9 (l.body.map Stm.cells)) (h_l_outs:Arr w v_l_outs 1 (l.outs.map Af)) (h_s_bef:RowsA w v_s_bef s.bef) (h_s_mem:RowsA w v_s_mem s.mem):Calls Try.prog 6 #[.agg #[v_l_logs,v_l_body,v_l_outs],.agg #[.int .i64 t.u0,.int .i64 t.u1,.int .i64 t.u2,.int .i64 t.w0,.int .i64 t.w1,.int .i64 t.w2,.int .i64 t.regs],.agg #[v_s_bef,v_s_mem],.int .i64 turns] w (fun e w'=>e=.returned (.bool r)∧Grow w w'):=by
 unfold D5 at hm
 have hk:=Base.rfl (w:=w)
 refine Ak (n:=142) (args:=[.agg #[v_l_logs,v_l_body,v_l_outs],.agg #[i_ t.u0,i_ t.u1,i_ t.u2,i_ t.w0,i_ t.w1,i_ t.w2,i_ t.regs],.agg #[v_s_bef,v_s_mem],i_ turns]) Try.func6 Z Z (nl Z) ?_ (An hk (Own.start w))
 refine sr (Aa Z ?_)
 refine(Aq (by decide) Z Z (fun b1=>?_))
 refine Aa Z ?_
 refine(Aq (by decide) Z Z (fun b2=>?_))
 refine Aa Z ?_
 refine(Aq (by decide) Z Z (fun b3=>?_))
 refine wa Z (ns (wq Z (Ac Fh Z Z Z (Ab 2 Z)) (wq Z (Ac ag50 Z Z Z (Ab 0 Z)) (wm Z (Aa Z ?_)))))
 obtain⟨x4,hx5,hm6⟩:=Ag hm;clear hm
 refine EV.of (C':=Own noM w [kn noM w.heap.size w w,blk b3 [v_s_bef,v_s_mem] 50,blk b2 t.cells 28,blk b1 [v_l_logs,v_l_body,v_l_outs] 25]) (pk [3,0,1,2]) ?_
 refine(A4 (X:=Value×Value×World) (R:=[]) (fun X=>.tuple #[.agg #[X.1,X.2.1],i_ x4.2]) (fun X=>[]) (fun X=>X.2.2) (fun X=>Arr X.2.2 X.1 1 (x4.1.outs.map Af)∧RowsA X.2.2 X.2.1 x4.1.mem) hk (fun _ h=>by cases h;decide) en25 (ec Z (ec Z (ec Z eN))) (fun M w h1 h2=>have h:=Ag8 hx5 h_l_logs h_l_body h_l_outs h_s_bef h_s_mem M w h1 h2;h) (fun X7 hF7 hle7=>?_))
 refine wm Z (wq Z (QV.extract Z Z Z) (wq Z (QV.extract Z Z Z) (Aa Z ?_)))
 refine(EV.alloc (by decide) ze59 (fun b8=>?_))
 refine Aa Z ?_
 refine(EV.store 0 Z Z Z Z Z Z (vs:=[X7.1,X7.2.1]) (show Value.cells _=List.toArray _ from Z) Aii (nl Z) (oc (SliceLen.one hF7.1.lenMap) (oc (SliceLen.one hF7.2.slen) Aw)) ?_)
 refine wa Z (ns (wq Z (Ac Fh Z Z Z (Ab 4 Z)) (wq Z (Ac Gk Z Z Z (Ab 3 Z)) (Aa Z ?_))))
 obtain⟨x9,hx10,hm11⟩:=Ag hm6;clear hm6
 refine EV.of (C':=Own noM w [kn noM w.heap.size w X7.2.2,blk b8 [X7.1,X7.2.1] 59,blk b3 [v_s_bef,v_s_mem] 50,blk b2 t.cells 28,blk b1 [v_l_logs,v_l_body,v_l_outs] 25]) (pk [1,0,2,3,4]) ?_
 refine(A4 (X:=Value×Value×World) (R:=[]) (fun X=>.tuple #[.agg #[i_ x9.1.pace,i_ x9.1.stages,X.1],X.2.1,i_ x9.2.2]) (fun X=>[]) (fun X=>X.2.2) (fun X=>Arr X.2.2 X.1 10 (x9.1.ops.map Opr.cells)∧Arr X.2.2 X.2.1 1 (x9.2.1.map Af)) hk (fun _ h=>by cases h;decide) en15 (ec Z (ec Z eN)) (fun M w h1 h2=>have h:=Yr hx10 (h_l_logs.le hle7) (h_l_body.le hle7) (h_l_outs.le hle7) M w h1 h2;h) (fun X12 hF12 hle12=>?_))
 refine wm Z (wq Z (QV.extract Z Z Z) (wq Z (QV.extract Z Z Z) (wq Z (QV.extract Z Z Z) (Aa Z ?_))))
 refine(EV.alloc (by decide) Abx (fun b13=>?_))
 refine Aa Z ?_
 refine(EV.store 0 Z Z Z Z Z Z (vs:=[i_ x9.1.pace,i_ x9.1.stages,X12.1]) (show Value.cells _=List.toArray _ from Z) Sw (nl Z) (oc Z (oc Z (oc (SliceLen.one hF12.1.lenMap) Aw))) ?_)
 refine wa Z (wa Z (nt (WC.seq (sr (wm Z (wq Z (QV.neq Z Z Z Z) (wm Z (gn Z (fun hG=>QV.move Z Z) (gn Z (fun hG=>QV.gtr Z hG Z Z) (wq Z (A2 Z Z Z (fun h=>Dv h)) (nt ?_)))))))))))
 refine wc Z hm11 (fun h14 hm15=>?_) (fun h14 hm16=>?_) <;> clear hm11
 ·skip
  refine sr (wm Z (wq Z (QV.eql Z Z Z Z) (wm Z (gn Z (fun hG=>QV.move Z Z) (gn Z (fun hG=>QV.eql Z hG Z Z) (wq Z (A2 Z Z Z (fun h=>Dv h)) (wm Z (gn Z (fun hG=>QV.move Z Z) (gn Z (fun hG=>QV.gtr Z hG Z Z) ?_)))))))))
  refine wq Z (A2 Z Z Z (fun h=>Dv h)) (wa Z (nt (WC.ret (tr ?_))))
  obtain rfl:=(Ae hm15).symm
  exact Ar Z Z fun w hw=>kg hw
 refine sk (WQ.then (WC.seq (sr (wm Z (wq Z (QV.neq Z Z Z Z) (nt ?_))))))
 refine wc Z hm16 (fun h17 hm18=>?_) (fun h17 hm21=>?_) <;> clear hm16
 ·skip
  refine sr (wm Z (wq Z (QV.eql Z Z Z Z) (wm Z (gn Z (fun hG=>QV.move Z Z) (gn Z (fun hG=>QV.eql Z hG Z Z) (gn Z (fun hG=>QV.move Z hG) (gpC Z (fun hG=>QV.fieldAddr H8 Z Z) (gpC Z (fun hG=>QV.load pl3 Z hG (Own.cell 4 Z Z)) (gpC Z (fun hG=>QV.fieldAddr Co Z Z) ?_)))))))))
  refine gpC Z (fun hG=>QV.load Gv Z hG (Own.cell 5 Z Z)) (gpC Z (fun hG=>Ay Try.underlying23 Z hG (h_l_body.le (hle7.trans hle12)).lenMap) ?_)
  obtain⟨c19,hm20⟩:=cs hm18;clear hm18
  refine gpC Z (fun hG=>QV.mul Z Z Z hG (c19 hG)) (gpC Z (fun hG=>QV.lss Z hG Z hG) (gn Z (fun hG=>Az Z hG Z (fun h=>Agv hG h)) (wq Z (A2 Z Z Z (fun h=>Dv h)) (wm Z (gp Z (fun hG=>QV.fieldAddr Co Z Z) (gp Z (fun hG=>QV.load Gv Z hG (Own.cell 5 Z Z)) (gp Z (fun hG=>Ay Try.underlying23 Z hG (h_l_body.le (hle7.trans hle12)).lenMap) (gp Z (fun hG=>QV.gtr Z hG Z Z) (wq Z (Az Z Z Z (fun h=>h)) ?_)))))))))
  refine wa Z (nt (WC.ret (tr ?_)))
  obtain rfl:=(Ae hm20).symm
  exact Ar Z Z fun w hw=>kg hw
 refine sk (WQ.then (sr (wq Z (Ac Fh Z Z Z (Ab 5 Z)) (wq Z (Ac Gk Z Z Z (Ab 4 Z)) (wq Z (Ac Kj Z Z Z (Ab 0 Z)) (wm Z (wf Wp Z (wl N1 Z (Own.cell 3 Z Z) (Aa Z ?_)))))))))
 obtain⟨x22,hx23,hm24⟩:=Ag hm21;clear hm21
 refine EV.of (C':=Own noM w [kn noM w.heap.size w X12.2.2,blk b13 [i_ x9.1.pace,i_ x9.1.stages,X12.1] 31,blk b8 [X7.1,X7.2.1] 59,blk b3 [v_s_bef,v_s_mem] 50,blk b2 t.cells 28,blk b1 [v_l_logs,v_l_body,v_l_outs] 25]) (pk [1,0,2,3,4,5]) ?_
 refine(A4 (X:=Value×World) (R:=[]) (fun X=>.tuple #[X.1,i_ x22.2]) (fun X=>[]) (fun X=>X.2) (fun X=>Arr X.2 X.1 1 (x22.1.map Af)) hk (fun _ h=>by cases h;decide) en9 (ec Z (ec Z (ec Z (ec Z (ec Z eN))))) (fun M w h1 h2=>have h:=Yq hx23 (h_l_logs.le (hle7.trans hle12)) (h_l_body.le (hle7.trans hle12)) (h_l_outs.le (hle7.trans hle12)) hF12.1 hF12.2 (h_s_bef.le (hle7.trans hle12)) M w h1 h2;h) (fun X25 hF25 hle25=>?_))
 refine wm Z (wq Z (QV.extract Z Z Z) (wq Z (QV.extract Z Z Z) (wa Z (wa Z (ns (wq Z (Ac Gk Z Z Z (Ab 4 Z)) (wq Z (Ac Kj Z Z Z (Ab 1 Z)) (wm Z (wf Aak Z ?_)))))))))
 refine wl N1 Z (Own.cell 3 Z Z) (wm Z (Aa Z ?_))
 obtain⟨x26,hx27,hm28⟩:=Ag hm24;clear hm24
 refine(A4 (X:=Value×Value×World) (R:=[]) (fun X=>.tuple #[X.1,X.2.1,i_ x26.2.2]) (fun X=>[]) (fun X=>X.2.2) (fun X=>Arr X.2.2 X.1 1 (x26.1.map Af)∧RowsA X.2.2 X.2.1 x26.2.1) hk (fun _ h=>by cases h;decide) en26 (ec Z (ec Z (ec Z (ec Z (ec Z eN))))) (fun M w h1 h2=>have h:=Abt hx27 (hF12.1.le hle25) hF25 (h_s_mem.le ((hle7.trans hle12).trans hle25)) M w h1 h2;h) (fun X29 hF29 hle29=>?_))
 refine wm Z (wq Z (QV.extract Z Z Z) (wq Z (QV.extract Z Z Z) (wq Z (QV.extract Z Z Z) (wa Z (wa Z (wa Z (ns (wq Z (Ac Fh Z Z Z (Ab 5 Z)) (wq Z (Ac Gk Z Z Z (Ab 4 Z)) ?_)))))))))
 refine wq Z (Ac Kj Z Z Z (Ab 1 Z)) (wm Z (wf Wp Z (wl N1 Z (Own.cell 3 Z Z) (wm Z (wm Z (Aa Z ?_))))))
 obtain⟨x30,hx31,hm32⟩:=Ag hm28;clear hm28
 refine(A4 (X:=Value×World) (R:=[]) (fun X=>.tuple #[X.1,i_ x30.2]) (fun X=>[]) (fun X=>X.2) (fun X=>Arr X.2 X.1 1 (x30.1.map Af)) hk (fun _ h=>by cases h;decide) en10 (ec Z (ec Z (ec Z (ec Z (ec Z (ec Z (ec Z eN))))))) (fun M w h1 h2=>have h:=Yp hx31 (h_l_logs.le (((hle7.trans hle12).trans hle25).trans hle29)) (h_l_body.le (((hle7.trans hle12).trans hle25).trans hle29)) (h_l_outs.le (((hle7.trans hle12).trans hle25).trans hle29)) (hF12.1.le (hle25.trans hle29)) (hF12.2.le (hle25.trans hle29)) (h_s_bef.le (((hle7.trans hle12).trans hle25).trans hle29)) hF29.1 M w h1 h2;h) (fun X33 hF33 hle33=>?_))
 refine wm Z (wq Z (QV.extract Z Z Z) (wq Z (QV.extract Z Z Z) (wa Z (wa Z (nt (WC.seq (sr (wf Mx Z (wl X5 Z (Own.cell 1 Z Z) (wq Z (Ay Try.underlying29 Z Z (hF12.1.le ((hle25.trans hle29).trans hle33)).lenMap) (wf Co Z ?_)))))))))))
 refine wl Gv Z (Own.cell 5 Z Z) (wq Z (Ay Try.underlying23 Z Z (h_l_body.le ((((hle7.trans hle12).trans hle25).trans hle29).trans hle33)).lenMap) (wq Z (QV.neq Z Z Z Z) (wm Z (gn Z (fun hG=>QV.fieldAddr Co Z Z) (gn Z (fun hG=>QV.load Gv Z hG (Own.cell 5 Z Z)) (gn Z (fun hG=>Ay Try.underlying23 Z hG (h_l_body.le ((((hle7.trans hle12).trans hle25).trans hle29).trans hle33)).lenMap) (gn Z (fun hG=>QV.eql Z hG Z Z) (wq Z (A2 Z Z Z (fun h=>Dv h)) (nt ?_)))))))))
 refine wc Z hm32 (fun h34 hm35=>?_) (fun h34 hm36=>?_) <;> clear hm32
 ·skip
  refine sr (wa Z (nt (WC.ret (tr ?_))))
  obtain rfl:=(Ae hm35).symm
  exact Ar Z Z fun w hw=>kg hw
 refine sk (WQ.then (sr (wm Z (wq Z (QV.eql Z Z Z Z) (wm Z (gp Z (fun hG=>QV.move Z Z) (gp Z (fun hG=>QV.eql Z hG Z Z) (wq Z (Az Z Z Z (fun h=>h)) (wm Z (gp Z (fun hG=>QV.move Z Z) (gp Z (fun hG=>QV.eql Z hG Z Z) ?_)))))))))))
 refine wq Z (Az Z Z Z (fun h=>h)) (wm Z (gp Z (fun hG=>QV.move Z Z) (gp Z (fun hG=>QV.fieldAddr Aef Z Z) (gp Z (fun hG=>QV.load Nc Z hG (Own.cell 2 Z Z)) ?_))))
 obtain⟨x37,hx38,hm39⟩:=Ce hm36;clear hm36
 refine gp Z (fun hG=>QV.call en12 (EvAll.cons Z hG (EvAll.cons Z hG eN)) (fun w hw=>have h:=T5 w (hx38 hG) ((Ah 0 Z hk hF33) w hw) ((Ah 0 Z hk (hF7.1.le (((hle12.trans hle25).trans hle29).trans hle33))) w hw);h)) (wq Z (Az Z Z Z (fun h=>h)) (wm Z (gp Z (fun hG=>QV.move Z Z) (gp Z (fun hG=>QV.fieldAddr App Z Z) (gp Z (fun hG=>QV.load N1 Z hG (Own.cell 2 Z Z)) ?_)))))
 obtain⟨x40,hx41,hm42⟩:=Ce hm39;clear hm39
 refine gp Z (fun hG=>QV.call en27 (EvAll.cons Z hG (EvAll.cons Z hG eN)) (fun w hw=>have h:=Afe w (hx41 hG) (Gz 0 Z hk (hF29.2.le hle33) w hw) (Gz 0 Z hk (hF7.2.le (((hle12.trans hle25).trans hle29).trans hle33)) w hw);h)) (wq Z (Az Z Z Z (fun h=>h)) (wa Z (nt (WC.ret ?_))))
 obtain rfl:=(Ae hm42).symm
 exact Ar Z Z fun w hw=>kg hw
end Go.Proofs.Ytaimbkndebaaiac
end