/- Texts for the law, 6. -/
import Derived.Test.YtaimbkndebaaiacZLbuildRuns5
import Derived.Test.YtaimbkndebaaiacProg
import Derived.KernelRfl
import Derived.Shelf.SlSortCmp.NoneTotal
set_option linter.unusedVariables false
set_option linter.unusedSimpArgs false
set_option maxRecDepth 8000
section
namespace Go.Proofs.Ytaimbkndebaaiac
open Go.Rd
open TNum TLoop TStable TMach
namespace TMach2
theorem Ub:N4 Try.prog 75 10:=⟨_,Try.underlying75,rfl,by kernel_rfl⟩
theorem en59:Go.Rd.Enters Try.prog 59:=eT Try.func59
theorem en84:Go.Rd.Enters Try.prog 84:=eT Try.func84
theorem en86:Go.Rd.Enters Try.prog 86:=eT Try.func86
theorem Ad6:Go.Rd.Enters Try.prog 90:=eT Try.func90
theorem en91:Go.Rd.Enters Try.prog 91:=eT Try.func91
theorem en92:Go.Rd.Enters Try.prog 92:=eT Try.func92
theorem Af4:Bw Try.prog 115 1 7:=fT 2 Try.underlying115
theorem Aa8:Bw Try.prog 115 3 11:=fT 0 Try.underlying115
theorem Am4:Bw Try.prog 115 4 12:=fT 0 Try.underlying115
theorem P5:Bw Try.prog 31 0 0:=fT 0 Try.underlying31
theorem Mx:Bw Try.prog 31 2 2:=fT 0 Try.underlying31
theorem Wo:Bw Try.prog 75 0 0:=fT 0 Try.underlying75
theorem P3:Bw Try.prog 75 1 1:=fT 0 Try.underlying75
theorem Nw:Bw Try.prog 75 2 2:=fT 0 Try.underlying75
theorem P0:Bw Try.prog 75 3 3:=fT 0 Try.underlying75
theorem Aaj:Bw Try.prog 75 4 4:=fT 0 Try.underlying75
theorem Aai:Bw Try.prog 75 5 5:=fT 0 Try.underlying75
theorem Ajt:Bw Try.prog 75 6 6:=fT 0 Try.underlying75
theorem Ajs:Bw Try.prog 75 7 7:=fT 0 Try.underlying75
theorem Ajr:Bw Try.prog 75 8 8:=fT 0 Try.underlying75
theorem Ajq:Bw Try.prog 75 9 9:=fT 0 Try.underlying75
theorem pl1:K3 Try.prog 1:=⟨_,Try.underlying1,rfl⟩
theorem F1:K3 Try.prog 111:=⟨_,Try.underlying111,rfl⟩
theorem X5:K3 Try.prog 29:=⟨_,Try.underlying29,rfl⟩
theorem sl147:Ia Try.prog 147 1 1:=⟨Try.underlying147,by kernel_rfl⟩
theorem Alo:Ia Try.prog 29 75 10:=⟨Try.underlying29,by kernel_rfl⟩
theorem sz3:C8 Try.prog 3 1:=by unfold C8;kernel_rfl
theorem Agr:C8 Try.prog 75 10:=by unfold C8;kernel_rfl
theorem Wl:L6 Try.prog 113 151 3 [.int .i64 0,.int .i64 0,.int .i64 0]:=⟨Try.underlying113,by kernel_rfl⟩
theorem Ao2:L6 Try.prog 147 1 1 [.nilFunc]:=⟨Try.underlying147,by kernel_rfl⟩
theorem Ab4:Rl Try.prog 113 151 3 24:=⟨Try.underlying113,by kernel_rfl,by decide⟩
theorem ve147:Rl Try.prog 147 1 1 8:=⟨Try.underlying147,by kernel_rfl,by decide⟩
theorem ze2:ZeroT Try.prog 2 [.int .i64 0]:=by unfold ZeroT;kernel_rfl
theorem ze3:ZeroT Try.prog 3 [.int .i64 0]:=by unfold ZeroT;kernel_rfl
theorem Agq:ZeroT Try.prog 75 [.int .i64 0,.int .i64 0,.int .i64 0,.int .i64 0,.int .i64 0,.int .i64 0,.int .i64 0,.int .i64 0,.int .i64 0,.int .i64 0]:=by unfold ZeroT;kernel_rfl
end TMach2
open TMach2
theorem K4 {v_m_Kernel_Ops v_m_regs v_m_memory:Value}{hs_m_memory:List Value}{v_m_pending:Value}{b_m:Nat}{m_Target:Tgt}{m_Kernel_Pace m_Kernel_Stages:Int}{m_Kernel_Ops:List Opr}{m_regs:List Int}{m_memory:List (List Int)}{m_turns:Int}{m_pending:List Due}{o:Opr}{turn:Int}{r:(Int×Int)}{K0:World} (hm:C5 m_Target m_Kernel_Pace m_Kernel_Stages m_Kernel_Ops m_regs m_memory m_turns m_pending o turn=some r) (h_m_Kernel_Ops:Arr K0 v_m_Kernel_Ops 10 (m_Kernel_Ops.map Opr.cells)) (h_m_regs:SliceLen v_m_regs m_regs.length) (h_m_memory:SliceLen v_m_memory m_memory.length) (hg_m_memory:GL hs_m_memory m_memory) (h_m_pending:SliceLen v_m_pending m_pending.length) (M:Nat→Prop) (w:World) (hk:Base M K0 w) (hw0:Own M w [blk b_m [.int .i64 m_Target.u0,.int .i64 m_Target.u1,.int .i64 m_Target.u2,.int .i64 m_Target.w0,.int .i64 m_Target.w1,.int .i64 m_Target.w2,.int .i64 m_Target.regs,.int .i64 m_Kernel_Pace,.int .i64 m_Kernel_Stages,v_m_Kernel_Ops,v_m_regs,v_m_memory,.int .i64 m_turns,v_m_pending] 115,vec v_m_regs 2 1 (List.map Af m_regs),Bv v_m_memory hs_m_memory 33 2 m_memory,Bm v_m_pending 151 3 (List.map Due.cells m_pending)] w):Calls Try.prog 91 #[.pointer (some (⟨b_m,0,none⟩)),.agg #[.int .i64 o.slot,.int .i64 o.stage,.int .i64 o.op,.int .i64 o.dest,.int .i64 o.a,.int .i64 o.b,.int .i64 o.ar,.int .i64 o.sp,.int .i64 o.pl,.int .i64 o.n],.int .i64 turn] w (fun e w'=>∃ X:Addr×World,e=.returned (.pointer (some X.1))∧Own M w (kn M w.heap.size K0 X.2::[blk b_m [.int .i64 m_Target.u0,.int .i64 m_Target.u1,.int .i64 m_Target.u2,.int .i64 m_Target.w0,.int .i64 m_Target.w1,.int .i64 m_Target.w2,.int .i64 m_Target.regs,.int .i64 m_Kernel_Pace,.int .i64 m_Kernel_Stages,v_m_Kernel_Ops,v_m_regs,v_m_memory,.int .i64 m_turns,v_m_pending] 115,vec v_m_regs 2 1 (List.map Af m_regs),Bv v_m_memory hs_m_memory 33 2 m_memory,Bm v_m_pending 151 3 (List.map Due.cells m_pending)]) w'∧IX r.1 (ln m_memory)∧H1 (hat hs_m_memory r.1) r.2 1 X.1∧IX r.2 (ln (ele m_memory r.1))):=by
 unfold C5 at hm
 refine Ak (n:=29) (args:=[.pointer (some (⟨b_m,0,none⟩)),.agg #[i_ o.slot,i_ o.stage,i_ o.op,i_ o.dest,i_ o.a,i_ o.b,i_ o.ar,i_ o.sp,i_ o.pl,i_ o.n],i_ turn]) Try.func91 Z Z (nl Z) ?_ (An hk hw0)
 refine sr (Aa Z ?_)
 refine(Aq (by decide) Z Z (fun b1=>?_))
 refine wa Z (nt (WC.seq (B9 (m:=9) (S:=Own M w [kn M w.heap.size K0 K0,blk b1 o.cells 75,blk b_m [i_ m_Target.u0,i_ m_Target.u1,i_ m_Target.u2,i_ m_Target.w0,i_ m_Target.w1,i_ m_Target.w2,i_ m_Target.regs,i_ m_Kernel_Pace,i_ m_Kernel_Stages,v_m_Kernel_Ops,v_m_regs,v_m_memory,i_ m_turns,v_m_pending] 115,vec v_m_regs 2 1 (List.map Af m_regs),Bv v_m_memory hs_m_memory 33 2 m_memory,Bm v_m_pending 151 3 (List.map Due.cells m_pending)]) (by kernel_rfl) (by kernel_rfl) (pk [1,0,2,3,4,5]) (zm 0 Z Z (wz 1 Z Z (QV.nilCheck Z Z) (zf 2 Aa8 Z Z (zl 3 N1 Z Z (Own.cell 2 Z Z) (zf 4 Ajt Z Z (zl 5 pl3 Z Z (Own.cell 1 Z Z) ?_)))))))))
 obtain⟨c2,hm3⟩:=cs hm;clear hm
 obtain⟨p4,hp5⟩:=h_m_memory.ix (sz:=1) Au c2
 refine wz 6 Z Z (Ad Ri Z Z Z Z hp5) (zl 7 Nc Z Z (Di 4 Z hp5 c2) (wz 8 Z Z (QV.assign Z Z) ?_))
 refine WD.e (by kernel_rfl) ?_
 refine WQ.then (WC.seq (B9 (m:=14) (S:=Own M w [kn M w.heap.size K0 K0,blk b1 o.cells 75,blk b_m [i_ m_Target.u0,i_ m_Target.u1,i_ m_Target.u2,i_ m_Target.w0,i_ m_Target.w1,i_ m_Target.w2,i_ m_Target.regs,i_ m_Kernel_Pace,i_ m_Kernel_Stages,v_m_Kernel_Ops,v_m_regs,v_m_memory,i_ m_turns,v_m_pending] 115,vec v_m_regs 2 1 (List.map Af m_regs),Bv v_m_memory hs_m_memory 33 2 m_memory,Bm v_m_pending 151 3 (List.map Due.cells m_pending)]) (by kernel_rfl) (by kernel_rfl) (pk [1,0,2,3,4,5]) (zm 0 Z Z (zf 1 Ajs Z Z (zl 2 pl3 Z Z (Own.cell 1 Z Z) (zf 3 Ajr Z Z (zl 4 pl3 Z Z (Own.cell 1 Z Z) (zm 5 Z Z (zm 6 Z Z (wz 7 Z Z (Ay Try.underlying33 Z Z (hg_m_memory.ix o.ar)) ?_))))))))))
 refine wz 8 Z Z (QV.intToInt Try.underlying144 Try.underlying3 Z Z) ?_
 obtain⟨x6,hx7,hm8⟩:=Ag hm3;clear hm3
 refine wz 9 Z Z (QV.call en87 (ec Z eN) (fun w hw=>have h:=Pn w hx7 ;h)) ?_
 obtain⟨c9,hm10⟩:=cs hm8;clear hm8
 refine wz 10 Z Z (QV.sub Z Z Z Z c9) ?_
 obtain⟨x11,hx12,hm13⟩:=Ag hm10;clear hm10
 refine wz 11 Z Z (QV.call en84 (ec Z (ec Z (ec Z (ec Z eN)))) (fun w hw=>have h:=Qm w hx12 ;h)) ?_
 obtain⟨c14,hm15⟩:=cs hm13;clear hm13
 obtain⟨p16,hp17⟩:=(hg_m_memory.ix o.ar).ix (sz:=1) Au c14
 refine wz 12 Z Z (Ad Rh Z Z Z Z hp17) (wz 13 Z Z (QV.assign Z Z) ?_)
 refine WD.e (by kernel_rfl) ?_
 refine WQ.then (WC.ret ?_)
 obtain rfl:=(Ae hm15).symm
 refine Ar Z Z (fun w hw=>?_)
 exact⟨(p16,K0),Z,hw.pick [1,2,3,4,5] (by decide),c2,hp17,c14⟩
theorem Ng {p_a:Addr}{v_m_Kernel_Ops v_m_regs v_m_memory:Value}{hs_m_memory:List Value}{v_m_pending:Value}{b_m:Nat}{p_box1 p_o p_turn:Addr}{a:Int}{m_Target:Tgt}{m_Kernel_Pace m_Kernel_Stages:Int}{m_Kernel_Ops:List Opr}{m_regs:List Int}{m_memory:List (List Int)}{m_turns:Int}{m_pending:List Due}{o:Opr}{turn:Int}{r:List (List Int)}{K0:World} (hm:D6 a m_Target m_Kernel_Pace m_Kernel_Stages m_Kernel_Ops m_regs m_memory m_turns m_pending o turn=some r) (hp_a:CellsAt K0 p_a [.int .i64 a] 0) (h_m_Kernel_Ops:Arr K0 v_m_Kernel_Ops 10 (m_Kernel_Ops.map Opr.cells)) (h_m_regs:SliceLen v_m_regs m_regs.length) (h_m_memory:SliceLen v_m_memory m_memory.length) (hg_m_memory:GL hs_m_memory m_memory) (h_m_pending:SliceLen v_m_pending m_pending.length) (hp_box1:CellsAt K0 p_box1 [.pointer (some (⟨b_m,0,none⟩))] 0) (hp_o:CellsAt K0 p_o [.int .i64 o.slot,.int .i64 o.stage,.int .i64 o.op,.int .i64 o.dest,.int .i64 o.a,.int .i64 o.b,.int .i64 o.ar,.int .i64 o.sp,.int .i64 o.pl,.int .i64 o.n] 0) (hp_turn:CellsAt K0 p_turn [.int .i64 turn] 0) (M:Nat→Prop) (w:World) (hk:Base M K0 w) (hw0:Own M w [blk b_m [.int .i64 m_Target.u0,.int .i64 m_Target.u1,.int .i64 m_Target.u2,.int .i64 m_Target.w0,.int .i64 m_Target.w1,.int .i64 m_Target.w2,.int .i64 m_Target.regs,.int .i64 m_Kernel_Pace,.int .i64 m_Kernel_Stages,v_m_Kernel_Ops,v_m_regs,v_m_memory,.int .i64 m_turns,v_m_pending] 115,vec v_m_regs 2 1 (List.map Af m_regs),Bv v_m_memory hs_m_memory 33 2 m_memory,Bm v_m_pending 151 3 (List.map Due.cells m_pending)] w):Calls Try.prog 92 #[.pointer (some p_a),.pointer (some p_box1),.pointer (some p_o),.pointer (some p_turn)] w (fun e w'=>∃ X:Value×(List Value)×World,e=.returned (.tuple #[])∧Own M w (kn M w.heap.size K0 X.2.2::[blk b_m [.int .i64 m_Target.u0,.int .i64 m_Target.u1,.int .i64 m_Target.u2,.int .i64 m_Target.w0,.int .i64 m_Target.w1,.int .i64 m_Target.w2,.int .i64 m_Target.regs,.int .i64 m_Kernel_Pace,.int .i64 m_Kernel_Stages,v_m_Kernel_Ops,v_m_regs,X.1,.int .i64 m_turns,v_m_pending] 115,vec v_m_regs 2 1 (List.map Af m_regs),Bm v_m_pending 151 3 (List.map Due.cells m_pending),Bv X.1 X.2.1 33 2 r]) w'∧SliceLen X.1 (r).length∧GL X.2.1 r):=by
 unfold D6 at hm
 refine Ak (n:=10) (args:=[.pointer (some p_a),.pointer (some p_box1),.pointer (some p_o),.pointer (some p_turn)]) Try.func92 Z Z (nl Z) ?_ (An hk hw0)
 refine B9 (m:=7) (by kernel_rfl) (by kernel_rfl) (fun w hw=>hw) (zl 0 F1 Z Z (fun w hw=>CellsAt.one 0 ((Am 0 Z hk hp_box1) w hw) Z) (wz 1 Z Z (Ac Ub Z Z Z (Am 0 Z hk hp_o)) (zl 2 pl3 Z Z (fun w hw=>CellsAt.one 0 ((Am 0 Z hk hp_turn) w hw) Z) ?_)))
 refine Aan 7 (by kernel_rfl) ?_
 refine G5 4 7 23 Z (by kernel_rfl) Z Z Z (QV.load pl2 Z Z (fun w hw=>CellsAt.one 0 ((Am 0 Z hk hp_a) w hw) Z)) ?_
 refine Mc 3 23 31 Z (by kernel_rfl) Z ?_
 obtain⟨x1,hx2,hm3⟩:=Ag hm;clear hm
 refine(A4 (X:=Addr×World) (R:=[blk b_m [i_ m_Target.u0,i_ m_Target.u1,i_ m_Target.u2,i_ m_Target.w0,i_ m_Target.w1,i_ m_Target.w2,i_ m_Target.regs,i_ m_Kernel_Pace,i_ m_Kernel_Stages,v_m_Kernel_Ops,v_m_regs,v_m_memory,i_ m_turns,v_m_pending] 115,vec v_m_regs 2 1 (List.map Af m_regs),Bv v_m_memory hs_m_memory 33 2 m_memory,Bm v_m_pending 151 3 (List.map Due.cells m_pending)]) (fun X=>.pointer (some X.1)) (fun X=>[blk b_m [i_ m_Target.u0,i_ m_Target.u1,i_ m_Target.u2,i_ m_Target.w0,i_ m_Target.w1,i_ m_Target.w2,i_ m_Target.regs,i_ m_Kernel_Pace,i_ m_Kernel_Stages,v_m_Kernel_Ops,v_m_regs,v_m_memory,i_ m_turns,v_m_pending] 115,vec v_m_regs 2 1 (List.map Af m_regs),Bv v_m_memory hs_m_memory 33 2 m_memory,Bm v_m_pending 151 3 (List.map Due.cells m_pending)]) (fun X=>X.2) (fun X=>IX x1.1 (ln m_memory)∧H1 (hat hs_m_memory x1.1) x1.2 1 X.1∧IX x1.2 (ln (ele m_memory x1.1))) hk (fun _ h=>by cases h;decide) en91 (ec Z (ec Z (ec Z eN))) (fun M w h1 h2=>have h:=K4 hx2 h_m_Kernel_Ops h_m_regs h_m_memory hg_m_memory h_m_pending M w h1 h2;h) (fun X4 hF4 hle4=>?_))
 refine WD.b (H':=[kn M w.heap.size K0 X4.2,blk b_m [i_ m_Target.u0,i_ m_Target.u1,i_ m_Target.u2,i_ m_Target.w0,i_ m_Target.w1,i_ m_Target.w2,i_ m_Target.regs,i_ m_Kernel_Pace,i_ m_Kernel_Stages,v_m_Kernel_Ops,v_m_regs,v_m_memory,i_ m_turns,v_m_pending] 115,vec v_m_regs 2 1 (List.map Af m_regs),Bv v_m_memory hs_m_memory 33 2 m_memory,Bm v_m_pending 151 3 (List.map Due.cells m_pending)]) (pk [0,1,2,3,4]) (fun w hw=>Pg hle4 (Le.refl _) (hw.pick [0,1,2,3,4] (by decide))) ?_
 refine G5 5 31 63 Z (by kernel_rfl) Z Z Z (QV.nilCheck Z Z) ?_
 refine WD.lL 6 63 127 Z (by kernel_rfl) Z ?_
 refine(Ou 3 a Z Z Z Z Z hF4.1 hF4.2.1 sz2 ?_)
 have hg6:=hg_m_memory.updG x1.1 x1.2 a
 have hl5:SliceLen v_m_memory (updG m_memory x1.1 x1.2 a).length:=Og h_m_memory
 obtain rfl:=(Ae hm3).symm
 refine F6 Z (fun w hw=>?_)
 exact⟨(v_m_memory,hs_m_memory,X4.2),Z,hw.pick [0,1,2,4,3] (by decide),hl5,hg6⟩
theorem Pi {v_m_Kernel_Ops v_m_regs v_m_memory:Value}{hs_m_memory:List Value}{v_m_pending:Value}{b_m:Nat}{m_Target:Tgt}{m_Kernel_Pace m_Kernel_Stages:Int}{m_Kernel_Ops:List Opr}{m_regs:List Int}{m_memory:List (List Int)}{m_turns:Int}{m_pending:List Due}{pace slot:Int}{r:List Int×List (List Int)×List Due}{K0:World} (hm:Dz m_Target m_Kernel_Pace m_Kernel_Stages m_Kernel_Ops m_regs m_memory m_turns m_pending pace slot=some r) (h_m_Kernel_Ops:Arr K0 v_m_Kernel_Ops 10 (m_Kernel_Ops.map Opr.cells)) (h_m_regs:SliceLen v_m_regs m_regs.length) (h_m_memory:SliceLen v_m_memory m_memory.length) (hg_m_memory:GL hs_m_memory m_memory) (h_m_pending:SliceLen v_m_pending m_pending.length) (M:Nat→Prop) (w:World) (hk:Base M K0 w) (hw0:Own M w [blk b_m [.int .i64 m_Target.u0,.int .i64 m_Target.u1,.int .i64 m_Target.u2,.int .i64 m_Target.w0,.int .i64 m_Target.w1,.int .i64 m_Target.w2,.int .i64 m_Target.regs,.int .i64 m_Kernel_Pace,.int .i64 m_Kernel_Stages,v_m_Kernel_Ops,v_m_regs,v_m_memory,.int .i64 m_turns,v_m_pending] 115,vec v_m_regs 2 1 (List.map Af m_regs),Bv v_m_memory hs_m_memory 33 2 m_memory,Bm v_m_pending 151 3 (List.map Due.cells m_pending)] w):Calls Try.prog 58 #[.pointer (some (⟨b_m,0,none⟩)),.int .i64 pace,.int .i64 slot] w (fun e w'=>∃ X:Value×Value×(List Value)×Value×World,e=.returned (.tuple #[])∧Own M w (kn M w.heap.size K0 X.2.2.2.2::[blk b_m [.int .i64 m_Target.u0,.int .i64 m_Target.u1,.int .i64 m_Target.u2,.int .i64 m_Target.w0,.int .i64 m_Target.w1,.int .i64 m_Target.w2,.int .i64 m_Target.regs,.int .i64 m_Kernel_Pace,.int .i64 m_Kernel_Stages,v_m_Kernel_Ops,X.1,X.2.1,.int .i64 m_turns,X.2.2.2.1] 115,vec X.1 2 1 (List.map Af r.1),Bv X.2.1 X.2.2.1 33 2 r.2.1,Bm X.2.2.2.1 151 3 (List.map Due.cells r.2.2)]) w'∧SliceLen X.1 (r.1).length∧SliceLen X.2.1 (r.2.1).length∧GL X.2.2.1 r.2.1∧SliceLen X.2.2.2.1 (r.2.2).length):=by
 unfold Dz at hm
 refine Ak (n:=147) (args:=[.pointer (some (⟨b_m,0,none⟩)),i_ pace,i_ slot]) Try.func58 Z Z (nl Z) ?_ (An hk hw0)
 refine sr (Aa Z ?_)
 refine(Ant (by decide) Z Z Z (fun b1=>?_))
 refine WK.of (C':=Own M w [kn M w.heap.size K0 K0,blk b1 [.pointer (some (⟨b_m,0,none⟩))] 111,blk b_m [i_ m_Target.u0,i_ m_Target.u1,i_ m_Target.u2,i_ m_Target.w0,i_ m_Target.w1,i_ m_Target.w2,i_ m_Target.regs,i_ m_Kernel_Pace,i_ m_Kernel_Stages,v_m_Kernel_Ops,v_m_regs,v_m_memory,i_ m_turns,v_m_pending] 115,vec v_m_regs 2 1 (List.map Af m_regs),Bv v_m_memory hs_m_memory 33 2 m_memory,Bm v_m_pending 151 3 (List.map Due.cells m_pending)]) (pk [1,0,2,3,4,5]) ?_
 refine WK.freeze hk (fun k2 hle2 hr2=>?_)
 have hc2:=Lc hr2
 refine ns (wm Z (wl F1 Z (fun w hw=>CellsAt.one 0 ((Am 0 Z hk hc2) w hw) Z) (wq Z (QV.nilCheck Z Z) (wf Af4 Z (wf P5 Z (wl pl3 Z (Own.cell 1 Z Z) ?_))))))
 obtain⟨c3,c5,hm6⟩:=cs2 hm;clear hm
 refine wq Z (QV.mul Z Z Z Z c3) (wm Z (wq Z (QV.add Z Z Z Z c5) (wa Z (ns (wl F1 Z (fun w hw=>CellsAt.one 0 ((Am 0 Z hk hc2) w hw) Z) (wm Z (Aa Z ?_)))))))
 obtain⟨x7,hx8,hm9⟩:=Ag hm6;clear hm6
 refine(A4 (X:=Value×Value×World) (R:=[blk b_m [i_ m_Target.u0,i_ m_Target.u1,i_ m_Target.u2,i_ m_Target.w0,i_ m_Target.w1,i_ m_Target.w2,i_ m_Target.regs,i_ m_Kernel_Pace,i_ m_Kernel_Stages,v_m_Kernel_Ops,v_m_regs,v_m_memory,i_ m_turns,v_m_pending] 115,vec v_m_regs 2 1 (List.map Af m_regs),Bv v_m_memory hs_m_memory 33 2 m_memory,Bm v_m_pending 151 3 (List.map Due.cells m_pending)]) (fun X=>.tuple #[]) (fun X=>[blk b_m [i_ m_Target.u0,i_ m_Target.u1,i_ m_Target.u2,i_ m_Target.w0,i_ m_Target.w1,i_ m_Target.w2,i_ m_Target.regs,i_ m_Kernel_Pace,i_ m_Kernel_Stages,v_m_Kernel_Ops,X.1,v_m_memory,i_ m_turns,X.2.1] 115,Bv v_m_memory hs_m_memory 33 2 m_memory,vec X.1 2 1 (List.map Af x7.1),Bm X.2.1 151 3 (List.map Due.cells x7.2)]) (fun X=>X.2.2) (fun X=>SliceLen X.1 (x7.1).length∧SliceLen X.2.1 (x7.2).length) hk (fun _ h=>by cases h;decide) en59 (ec Z (ec Z eN)) (fun M w h1 h2=>have h:=K5 hx8 (h_m_Kernel_Ops.le hle2) h_m_regs h_m_memory hg_m_memory h_m_pending M w h1 h2;h) (fun X10 hF10 hle10=>?_))
 refine ns (wa Z (nt (WC.seq (sr (wl F1 Z (fun w hw=>CellsAt.one 0 ((Am 0 Z hk (hc2.le hle10)) w hw) Z) (wq Z (QV.nilCheck Z Z) (wf Af4 Z (wf Mx Z (wl X5 Z (Own.cell 1 Z Z) (wq Z (Ay Try.underlying29 Z Z (h_m_Kernel_Ops.le (hle2.trans hle10)).lenMap) (wm Z ?_)))))))))))
 refine nt ?_
 refine WK.of (fun w hw=>hw.vecNil (E:=1) (sz:=1) (enc:=Et)) ?_
 obtain⟨o12,ho13,hm14⟩:=Ag hm9;clear hm9;obtain⟨n15,ho16⟩:=A0 ho13
 refine Zy (H2:=[Bv v_m_memory hs_m_memory 33 2 m_memory,vec X10.1 2 1 (List.map Af x7.1)]) (τ:=[u_ 1 _,u_ 2 _,u_ 3 _,u_ 6 _,u_ 32 _,u_ 33 _]) (fun (own0v13_1:List Due) (v11_1:List (Opr×Int×Int)) (x34_1:Int) (uown0v13_1:Value) (uv11_1:Value) (Bv11_1:List (Value×Opr×Int×Int)) (k_1:World)=>[(7,(true,uv11_1)),(34,(true,i_ x34_1))]) (fun own0v13_1 v11_1 x34_1 uown0v13_1 uv11_1 Bv11_1 k_1=>[vec uv11_1 1 1 (List.map Et Bv11_1),kn M w.heap.size K0 k_1,blk b_m [i_ m_Target.u0,i_ m_Target.u1,i_ m_Target.u2,i_ m_Target.w0,i_ m_Target.w1,i_ m_Target.w2,i_ m_Target.regs,i_ m_Kernel_Pace,i_ m_Kernel_Stages,v_m_Kernel_Ops,X10.1,v_m_memory,i_ m_turns,uown0v13_1] 115,Bm uown0v13_1 151 3 (List.map Due.cells own0v13_1)]) (fun own0v13_1 v11_1 x34_1 uown0v13_1 uv11_1 Bv11_1 k_1 m=>B3 (B6 m_Target m_Kernel_Pace m_Kernel_Stages m_Kernel_Ops m_memory m_turns pace slot x7) m (own0v13_1,v11_1,x34_1)=some o12∧SliceLen uown0v13_1 own0v13_1.length∧SliceLen uv11_1 v11_1.length∧Bv11_1.map (·.2)=v11_1∧ClosK 92 (.pointer (some (⟨b1,0,none⟩))) k_1 Bv11_1∧Le X10.2.2 k_1) (fun own0v13_1 v11_1 x34_1 uown0v13_1 uv11_1 Bv11_1 k_1=>o12=.go (own0v13_1,v11_1,x34_1)∧SliceLen uown0v13_1 own0v13_1.length∧SliceLen uv11_1 v11_1.length∧Bv11_1.map (·.2)=v11_1∧ClosK 92 (.pointer (some (⟨b1,0,none⟩))) k_1 Bv11_1∧Le X10.2.2 k_1) x7.2 ([]:List (Opr×Int×Int)) 0 X10.2.1 (.slice none 0 0) ([]:List (Value×Opr×Int×Int)) X10.2.2 n15 ⟨ho16,hF10.2,SliceLen.nil,Z,ClosK.nil,(Le.refl _)⟩ ⟨Z,Z,Z,Z,Z,Z,Z,Z,trivial⟩ (pk [0,1,2,5,3,4]) ?_ ?_
 ·skip
  rintro own0v13_1 v11_1 x34_1 uown0v13_1 uv11_1 Bv11_1 k_1 ⟨rfl,hlown0v13_1,hlv11_1,hBv11_1,hRv11_1,hle_1⟩
  refine WQ.then (sr (wm Z (wq Z (Ay Try.underlying147 Z Z hlv11_1) (wm Z (nt ?_)))))
  obtain⟨o17,ho18,hm19⟩:=Ag hm14;clear hm14;obtain⟨n20,ho21⟩:=A0 ho18
  refine Ra (H2:=[vec uv11_1 1 1 (List.map Et Bv11_1),Bm uown0v13_1 151 3 (List.map Due.cells own0v13_1),vec X10.1 2 1 (List.map Af x7.1)]) (τ:=[u_ 138 _,u_ 139 _]) (fun (own0v11_2:List (List Int)) (x140_2:Int) (uown0v11_2:Value) (hsown0v11_2:List Value) (k_2:World)=>[(140,(true,i_ x140_2))]) (fun own0v11_2 x140_2 uown0v11_2 hsown0v11_2 k_2=>[kn M w.heap.size K0 k_2,blk b_m [i_ m_Target.u0,i_ m_Target.u1,i_ m_Target.u2,i_ m_Target.w0,i_ m_Target.w1,i_ m_Target.w2,i_ m_Target.regs,i_ m_Kernel_Pace,i_ m_Kernel_Stages,v_m_Kernel_Ops,X10.1,uown0v11_2,i_ m_turns,uown0v13_1] 115,Bv uown0v11_2 hsown0v11_2 33 2 own0v11_2]) (fun own0v11_2 x140_2 uown0v11_2 hsown0v11_2 k_2 m=>B3 (Cw m_Target m_Kernel_Pace m_Kernel_Stages m_Kernel_Ops m_turns x7 own0v13_1 v11_1) m (own0v11_2,x140_2)=some o17∧SliceLen uown0v11_2 own0v11_2.length∧GL hsown0v11_2 own0v11_2∧Le k_1 k_2) (fun own0v11_2 x140_2 uown0v11_2 hsown0v11_2 k_2=>o17=.go (own0v11_2,x140_2)∧SliceLen uown0v11_2 own0v11_2.length∧GL hsown0v11_2 own0v11_2∧Le k_1 k_2) m_memory 0 v_m_memory hs_m_memory k_1 n20 ⟨ho21,h_m_memory,hg_m_memory,(Le.refl _)⟩ ⟨Z,Z,Z,trivial⟩ (pk [1,2,4,0,3,5]) ?_ ?_
  ·skip
   rintro own0v11_2 x140_2 uown0v11_2 hsown0v11_2 k_2 ⟨rfl,hlown0v11_2,hgown0v11_2,hle_2⟩
   obtain rfl:=(Ae hm19).symm
   refine F6 Z (fun w hw=>?_)
   exact⟨(X10.1,uown0v11_2,hsown0v11_2,uown0v13_1,k_2),Z,hw.pick [0,1,5,2,4] (by decide),hF10.1,hlown0v11_2,hgown0v11_2,hlown0v13_1⟩
  rintro own0v11_2 x140_2 uown0v11_2 hsown0v11_2 k_2 m22 ⟨hI23,hlown0v11_2,hgown0v11_2,hle_2⟩
  obtain⟨m24,s25,rfl,hm26,hn27⟩:=Ap hI23;clear hI23;unfold Cw at hm26;simp only at hm26
  refine sr (wq Z (QV.lss Z Z Z Z) (nt (WC.seq ?_)))
  refine wc Z hm26 (fun h28 hm29=>?_) (fun h28 hm41=>?_) <;> clear hm26
  ·skip
   refine sk (WQ.then (WC.seq (WC.block (sr ?_))))
   obtain⟨c30,hm31⟩:=cs hm29;clear hm29
   obtain⟨p32,hp33⟩:=hlv11_1.ix (sz:=1) Au c30
   obtain⟨pa34,po34,pt34,hE34,hca34,hco34,hct34⟩:=ClosK.ix (hRv11_1.le hle_2) hBv11_1 c30
   refine wq Z (Ad sl147 Z Z Z Z hp33) (wl pl1 Z (fun w hw=>CellsAt.one 0 (hE34 w _ ((C1 3 Z) w hw) _ hp33) Z) (wa Z (nr (wm Z (Aa Z ?_)))))
   obtain⟨x35,hx36,hm37⟩:=Ag hm31;clear hm31
   refine EV.of (C':=Own M w [kn M w.heap.size K0 k_2,blk b_m [i_ m_Target.u0,i_ m_Target.u1,i_ m_Target.u2,i_ m_Target.w0,i_ m_Target.w1,i_ m_Target.w2,i_ m_Target.regs,i_ m_Kernel_Pace,i_ m_Kernel_Stages,v_m_Kernel_Ops,X10.1,uown0v11_2,i_ m_turns,uown0v13_1] 115,vec X10.1 2 1 (List.map Af x7.1),Bv uown0v11_2 hsown0v11_2 33 2 own0v11_2,Bm uown0v13_1 151 3 (List.map Due.cells own0v13_1),vec uv11_1 1 1 (List.map Et Bv11_1)]) (pk [0,1,5,2,4,3]) ?_
   refine(Aif (X:=Value×(List Value)×World) (R:=[blk b_m [i_ m_Target.u0,i_ m_Target.u1,i_ m_Target.u2,i_ m_Target.w0,i_ m_Target.w1,i_ m_Target.w2,i_ m_Target.regs,i_ m_Kernel_Pace,i_ m_Kernel_Stages,v_m_Kernel_Ops,X10.1,uown0v11_2,i_ m_turns,uown0v13_1] 115,vec X10.1 2 1 (List.map Af x7.1),Bv uown0v11_2 hsown0v11_2 33 2 own0v11_2,Bm uown0v13_1 151 3 (List.map Due.cells own0v13_1)]) (fun X=>.tuple #[]) (fun X=>[blk b_m [i_ m_Target.u0,i_ m_Target.u1,i_ m_Target.u2,i_ m_Target.w0,i_ m_Target.w1,i_ m_Target.w2,i_ m_Target.regs,i_ m_Kernel_Pace,i_ m_Kernel_Stages,v_m_Kernel_Ops,X10.1,X.1,i_ m_turns,uown0v13_1] 115,vec X10.1 2 1 (List.map Af x7.1),Bm uown0v13_1 151 3 (List.map Due.cells own0v13_1),Bv X.1 X.2.1 33 2 x35]) (fun X=>X.2.2) (fun X=>SliceLen X.1 (x35).length∧GL X.2.1 x35) hk (fun _ h=>by cases h;decide) en92 Z Z eN (fun M w h1 h2=>have h:=Ng hx36 hca34 (h_m_Kernel_Ops.le (((hle2.trans hle10).trans hle_1).trans hle_2)) hF10.1 hlown0v11_2 hgown0v11_2 hlown0v13_1 (hc2.le ((hle10.trans hle_1).trans hle_2)) hco34 hct34 M w h1 h2;h) (fun X38 hF38 hle38=>?_))
   refine WL.nil (WQ.block (WQ.then (WC.region ?_)))
   obtain⟨c39,hm40⟩:=cs hm37;clear hm37
   refine wq Z (QV.add Z Z Z Z c39) (wm Z (WL.nil ?_))
   exact Q9 x35 (x140_2+1) X38.1 X38.2.1 X38.2.2 m24 ⟨Ax hm40 hn27,hF38.1,hF38.2,(hle_2.trans hle38)⟩ (Nat.lt_succ_self _) ⟨Z,Z,Z,trivial⟩ (pk [0,1,4,5,3,2])
  refine WC.exit (te (te (Ai ?_)))
  exact V7 own0v11_2 x140_2 uown0v11_2 hsown0v11_2 k_2 ⟨A6 hm41 hn27,hlown0v11_2,hgown0v11_2,hle_2⟩ ⟨Z,Z,Z,trivial⟩ (pk [0,1,2,3,4,5])
 rintro own0v13_1 v11_1 x34_1 uown0v13_1 uv11_1 Bv11_1 k_1 m42 ⟨hI43,hlown0v13_1,hlv11_1,hBv11_1,hRv11_1,hle_1⟩
 obtain⟨m44,s45,rfl,hm46,hn47⟩:=Ap hI43;clear hI43;unfold B6 at hm46;simp only at hm46
 refine sr (wq Z (QV.lss Z Z Z Z) (nt (WC.seq ?_)))
 refine wc Z hm46 (fun h48 hm49=>?_) (fun h48 hm195=>?_) <;> clear hm46
 ·skip
  refine sk (WQ.then (WC.seq (WC.block (sr ?_))))
  obtain⟨c50,hm51⟩:=cs hm49;clear hm49
  obtain⟨p52,hp53⟩:=(h_m_Kernel_Ops.le ((hle2.trans hle10).trans hle_1)).lenMap.ix (sz:=10) Au c50
  refine wq Z (Ad Alo Z Z Z Z hp53) (wq Z (Ac Ub Z Z Z (fun w hw=>((Ah 1 Z hk (h_m_Kernel_Ops.le ((hle2.trans hle10).trans hle_1))) w hw).ele hp53 c50)) (Aa Z ?_))
  refine(EV.alloc (by decide) Agq (fun b54=>?_))
  refine Aa Z ?_
  refine(EV.store 0 Z Z Z Z Z Z (vs:=(Opr.cells (ele m_Kernel_Ops x34_1))) (show Value.cells _=List.toArray _ from Z) Agr (nl Z) (oc Z (oc Z (oc Z (oc Z (oc Z (oc Z (oc Z (oc Z (oc Z (oc Z Aw)))))))))) ?_)
  refine ns (wm Z (wf P3 Z (wl pl3 Z (Own.cell 0 Z Z) ?_)))
  obtain⟨c55,hm56⟩:=cs hm51;clear hm51
  refine wq Z (QV.sub Z Z Z Z c55) (Aa Z ?_)
  refine(EV.alloc (by decide) ze3 (fun b57=>?_))
  refine Aa Z ?_
  refine(EV.store 0 Z Z Z Z Z Z (vs:=[i_ (pace - (ele m_Kernel_Ops x34_1).stage)]) (show Value.cells _=List.toArray _ from Z) sz3 (nl Z) (oc Z Aw) ?_)
  refine nt (WC.seq (WC.seq (B9 (m:=16) (S:=Own M w [kn M w.heap.size K0 k_1,blk b57 [i_ (pace - (ele m_Kernel_Ops x34_1).stage)] 3,blk b54 (Opr.cells (ele m_Kernel_Ops x34_1)) 75,vec uv11_1 1 1 (List.map Et Bv11_1),blk b_m [i_ m_Target.u0,i_ m_Target.u1,i_ m_Target.u2,i_ m_Target.w0,i_ m_Target.w1,i_ m_Target.w2,i_ m_Target.regs,i_ m_Kernel_Pace,i_ m_Kernel_Stages,v_m_Kernel_Ops,X10.1,v_m_memory,i_ m_turns,uown0v13_1] 115,Bm uown0v13_1 151 3 (List.map Due.cells own0v13_1),Bv v_m_memory hs_m_memory 33 2 m_memory,vec X10.1 2 1 (List.map Af x7.1)]) (by kernel_rfl) (by kernel_rfl) (pk [3,0,1,2,4,5,6,7]) (zf 0 Wo Z Z (zl 1 pl3 Z Z (Own.cell 2 Z Z) (zm 2 Z Z ?_))))))
  refine wz 3 Z Z (QV.neq Z Z Z Z) (zm 4 Z Z (zn 5 Z Z (fun hG=>QV.load pl3 Z Z (Own.cell 1 Z Z)) (zn 6 Z Z (fun hG=>QV.lss Z hG Z Z) (wz 7 Z Z (A2 Z Z Z (fun h=>Dv h)) (zm 8 Z Z (zn 9 Z Z (fun hG=>QV.load pl3 Z Z (Own.cell 1 Z Z)) (zn 10 Z Z (fun hG=>QV.load F1 Z Z (fun w hw=>CellsAt.one 0 ((Am 0 Z hk (hc2.le (hle10.trans hle_1))) w hw) Z)) (zn 11 Z Z (fun hG=>QV.nilCheck Z hG) (zn 12 Z Z (fun hG=>QV.fieldAddr Am4 Z hG) ?_)))))))))
  refine zn 13 Z Z (fun hG=>QV.load pl3 Z hG (Own.cell 4 Z Z)) (zn 14 Z Z (fun hG=>QV.geq Z hG Z hG) (wz 15 Z Z (A2 Z Z Z (fun h=>Dv h)) ?_))
  refine WD.e (by kernel_rfl) ?_
  refine WQ.then ?_
  refine wc Z hm56 (fun h58 hm59=>?_) (fun h58 hm62=>?_) <;> clear hm56
  ·skip
   refine WC.exit (te (Ai (WQ.then (WC.region ?_))))
   obtain⟨c60,hm61⟩:=cs hm59;clear hm59
   refine wq Z (QV.add Z Z Z Z c60) (wm Z (WL.nil ?_))
   exact Ld own0v13_1 v11_1 (x34_1+1) uown0v13_1 uv11_1 Bv11_1 k_1 m44 ⟨Ax hm61 hn47,hlown0v13_1,hlv11_1,hBv11_1,hRv11_1,hle_1⟩ (Nat.lt_succ_self _) ⟨Z,Z,Z,Z,Z,Z,Z,Z,trivial⟩ (pk [2,3,4,5,6,7])
  refine sk (WQ.then (WC.seq (B9 (m:=25) (S:=Own M w [kn M w.heap.size K0 k_1,blk b57 [i_ (pace - (ele m_Kernel_Ops x34_1).stage)] 3,blk b54 (Opr.cells (ele m_Kernel_Ops x34_1)) 75,vec uv11_1 1 1 (List.map Et Bv11_1),blk b_m [i_ m_Target.u0,i_ m_Target.u1,i_ m_Target.u2,i_ m_Target.w0,i_ m_Target.w1,i_ m_Target.w2,i_ m_Target.regs,i_ m_Kernel_Pace,i_ m_Kernel_Stages,v_m_Kernel_Ops,X10.1,v_m_memory,i_ m_turns,uown0v13_1] 115,Bm uown0v13_1 151 3 (List.map Due.cells own0v13_1),Bv v_m_memory hs_m_memory 33 2 m_memory,vec X10.1 2 1 (List.map Af x7.1)]) (by kernel_rfl) (by kernel_rfl) (pk [3,0,1,2,4,5,6,7]) (zl 0 F1 Z Z (fun w hw=>CellsAt.one 0 ((Am 0 Z hk (hc2.le (hle10.trans hle_1))) w hw) Z) ?_))))
  refine wz 1 Z Z (QV.nilCheck Z Z) (zf 2 Ta Z Z (zl 3 Nc Z Z (Own.cell 4 Z Z) (zl 4 F1 Z Z (fun w hw=>CellsAt.one 0 ((Am 0 Z hk (hc2.le (hle10.trans hle_1))) w hw) Z) (zf 5 Aaj Z Z (zl 6 pl3 Z Z (Own.cell 2 Z Z) (zm 7 Z Z ?_))))))
  obtain⟨x63,hx64,hm65⟩:=Ag hm62;clear hm62
  refine wz 8 Z Z (QV.call Ad6 (ec Z (ec Z (ec Z eN))) (fun w hw=>have h:=Dd w hx64 (Ab 4 Z w hw);h)) ?_
  obtain⟨c66,hm67⟩:=cs hm65;clear hm65
  obtain⟨p68,hp69⟩:=hF10.1.ix (sz:=1) Au c66
  refine wz 9 Z Z (Ad Rh Z Z Z Z hp69) (zl 10 pl2 Z Z (fun w hw=>CellsAt.one 0 (((C1 7 Z) w hw).ele hp69 c66) Z) (zl 11 F1 Z Z (fun w hw=>CellsAt.one 0 ((Am 0 Z hk (hc2.le (hle10.trans hle_1))) w hw) Z) (wz 12 Z Z (QV.nilCheck Z Z) (zf 13 Ta Z Z (zl 14 Nc Z Z (Own.cell 4 Z Z) (zl 15 F1 Z Z (fun w hw=>CellsAt.one 0 ((Am 0 Z hk (hc2.le (hle10.trans hle_1))) w hw) Z) (zf 16 Aai Z Z (zl 17 pl3 Z Z (Own.cell 2 Z Z) (zm 18 Z Z ?_)))))))))
  obtain⟨x70,hx71,hm72⟩:=Ag hm67;clear hm67
  refine wz 19 Z Z (QV.call Ad6 (ec Z (ec Z (ec Z eN))) (fun w hw=>have h:=Dd w hx71 (Ab 4 Z w hw);h)) ?_
  obtain⟨c73,hm74⟩:=cs hm72;clear hm72
  obtain⟨p75,hp76⟩:=hF10.1.ix (sz:=1) Au c73
  refine wz 20 Z Z (Ad Rh Z Z Z Z hp76) (zl 21 pl2 Z Z (fun w hw=>CellsAt.one 0 (((C1 7 Z) w hw).ele hp76 c73) Z) ?_)
  refine WD.o 22 Z (by kernel_rfl) Z ?_
  refine(EV.alloc (by decide) ze2 (fun b77=>?_))
  refine WD.b (H':=[kn M w.heap.size K0 k_1,blk b57 [i_ (pace - (ele m_Kernel_Ops x34_1).stage)] 3,blk b54 (Opr.cells (ele m_Kernel_Ops x34_1)) 75,vec uv11_1 1 1 (List.map Et Bv11_1),blk b_m [i_ m_Target.u0,i_ m_Target.u1,i_ m_Target.u2,i_ m_Target.w0,i_ m_Target.w1,i_ m_Target.w2,i_ m_Target.regs,i_ m_Kernel_Pace,i_ m_Kernel_Stages,v_m_Kernel_Ops,X10.1,v_m_memory,i_ m_turns,uown0v13_1] 115,Bm uown0v13_1 151 3 (List.map Due.cells own0v13_1),Bv v_m_memory hs_m_memory 33 2 m_memory,vec X10.1 2 1 (List.map Af x7.1)]) (pk [4,1,2,3,5,6,7,8]) (pk [0,1,2,3,4,5,6,7]) ?_
  refine WD.o 23 Z (by kernel_rfl) Z ?_
  refine(EV.store 0 Z Z Z Z Z Z (vs:=[i_ (ele x7.1 x63)]) (show Value.cells _=List.toArray _ from Z) sz2 (nl Z) (oc Z Aw) ?_)
  refine WD.b (H':=[kn M w.heap.size K0 k_1,blk b77 [i_ (ele x7.1 x63)] 2,blk b57 [i_ (pace - (ele m_Kernel_Ops x34_1).stage)] 3,blk b54 (Opr.cells (ele m_Kernel_Ops x34_1)) 75,vec uv11_1 1 1 (List.map Et Bv11_1),blk b_m [i_ m_Target.u0,i_ m_Target.u1,i_ m_Target.u2,i_ m_Target.w0,i_ m_Target.w1,i_ m_Target.w2,i_ m_Target.regs,i_ m_Kernel_Pace,i_ m_Kernel_Stages,v_m_Kernel_Ops,X10.1,v_m_memory,i_ m_turns,uown0v13_1] 115,Bm uown0v13_1 151 3 (List.map Due.cells own0v13_1),Bv v_m_memory hs_m_memory 33 2 m_memory,vec X10.1 2 1 (List.map Af x7.1)]) (pk [4,0,1,2,3,5,6,7,8]) (pk [0,2,3,4,5,6,7,8]) ?_
  refine wz 24 Z Z (QV.assign Z Z) ?_
  refine WD.e (by kernel_rfl) ?_
  refine WQ.then (sr (wa Z (nt (WC.seq (sr (wf Nw Z (wl pl3 Z (Own.cell 2 Z Z) (nt (WC.block (sr (wq Z (QV.eql Z Z Z Z) (wa Z (nt ?_)))))))))))))
  refine wc Z hm74 (fun h78 hm79=>?_) (fun h78 hm97=>?_) <;> clear hm74
  ·skip
   refine WC.region (wf Ajq Z (wl pl2 Z (Own.cell 2 Z Z) (wa Z (WL.nil (WQ.block (WQ.then (B9 (m:=28) (S:=Own M w [kn M w.heap.size K0 k_1,blk b77 [i_ (ele x7.1 x63)] 2,blk b57 [i_ (pace - (ele m_Kernel_Ops x34_1).stage)] 3,blk b54 (Opr.cells (ele m_Kernel_Ops x34_1)) 75,vec uv11_1 1 1 (List.map Et Bv11_1),blk b_m [i_ m_Target.u0,i_ m_Target.u1,i_ m_Target.u2,i_ m_Target.w0,i_ m_Target.w1,i_ m_Target.w2,i_ m_Target.regs,i_ m_Kernel_Pace,i_ m_Kernel_Stages,v_m_Kernel_Ops,X10.1,v_m_memory,i_ m_turns,uown0v13_1] 115,Bv v_m_memory hs_m_memory 33 2 m_memory,vec X10.1 2 1 (List.map Af x7.1)]) (by kernel_rfl) (by kernel_rfl) (pk [4,0,1,2,3,5,7,8]) (zl 0 F1 Z Z (fun w hw=>CellsAt.one 0 ((Am 0 Z hk (hc2.le (hle10.trans hle_1))) w hw) Z) ?_))))))))
   refine zl 1 F1 Z Z (fun w hw=>CellsAt.one 0 ((Am 0 Z hk (hc2.le (hle10.trans hle_1))) w hw) Z) (wz 2 Z Z (QV.nilCheck Z Z) (zf 3 F5 Z Z (zl 4 Pu Z Z (Own.cell 5 Z Z) (zm 5 Z Z (zl 6 F1 Z Z (fun w hw=>CellsAt.one 0 ((Am 0 Z hk (hc2.le (hle10.trans hle_1))) w hw) Z) (zf 7 Nw Z Z (zl 8 pl3 Z Z (Own.cell 3 Z Z) ?_)))))))
   obtain⟨x80,hx81,hm82⟩:=Ag hm79;clear hm79
   refine wz 9 Z Z (QV.call Yc (ec Z eN) (fun w hw=>have h:=Fd w hx81 ;h)) (wz 10 Z Z (QV.nilCheck Z Z) (zf 11 Qx Z Z (zf 12 P6 Z Z ?_)))
   obtain⟨c83,c85,hm86⟩:=cs2 hm82;clear hm82
   refine wz 13 Z Z (B1 Pq Z Z Z Z c83.1 c83.2) (zl 14 pl3 Z Z (Da 5 Z (Fo (off:=3) (i:=x80) c83.1 c83.2 Z Z Z) (E8 _ _ _)) (wz 15 Z Z (QV.add Z Z Z Z c85) (zl 16 F1 Z Z (fun w hw=>CellsAt.one 0 ((Am 0 Z hk (hc2.le (hle10.trans hle_1))) w hw) Z) (zf 17 P0 Z Z (zl 18 pl3 Z Z (Own.cell 3 Z Z) (zm 19 Z Z ?_))))))
   obtain⟨x87,hx88,hm89⟩:=Ag hm86;clear hm86
   refine wz 20 Z Z (QV.call Ad6 (ec Z (ec Z (ec Z eN))) (fun w hw=>have h:=Dd w hx88 (Ab 5 Z w hw);h)) (zm 21 Z Z (wz 22 Z Z (QV.build (ps:=[(0,.tmp 125),(1,.tmp 130),(2,.tmp 131)]) (cells:=[i_ (((pace * m_Kernel_Pace)+slot)+(Bi m_Target.w0 m_Target.w1 m_Target.w2 x80)),i_ x87,i_ ((ele m_Kernel_Ops x34_1).n)]) (ec Z (ec Z (ec Z eN))) (by kernel_rfl)) ?_))
   refine WD.o 23 Z (by kernel_rfl) Z ?_
   refine(EV.buildSlice (by decide) Wl (by decide) (by decide) (ps:=[(0,.tmp 132)]) (cells:=[i_ (((pace * m_Kernel_Pace)+slot)+(Bi m_Target.w0 m_Target.w1 m_Target.w2 x80)),i_ x87,i_ ((ele m_Kernel_Ops x34_1).n)]) (ec Z eN) (by kernel_rfl) (fun b90=>?_))
   refine WD.b (H':=[kn M w.heap.size K0 k_1,blk b90 [i_ (((pace * m_Kernel_Pace)+slot)+(Bi m_Target.w0 m_Target.w1 m_Target.w2 x80)),i_ x87,i_ ((ele m_Kernel_Ops x34_1).n)] 151,blk b77 [i_ (ele x7.1 x63)] 2,blk b57 [i_ (pace - (ele m_Kernel_Ops x34_1).stage)] 3,blk b54 (Opr.cells (ele m_Kernel_Ops x34_1)) 75,vec uv11_1 1 1 (List.map Et Bv11_1),blk b_m [i_ m_Target.u0,i_ m_Target.u1,i_ m_Target.u2,i_ m_Target.w0,i_ m_Target.w1,i_ m_Target.w2,i_ m_Target.regs,i_ m_Kernel_Pace,i_ m_Kernel_Stages,v_m_Kernel_Ops,X10.1,v_m_memory,i_ m_turns,uown0v13_1] 115,Bv v_m_memory hs_m_memory 33 2 m_memory,vec X10.1 2 1 (List.map Af x7.1)]) (pk [5,0,1,2,3,4,6,8,9]) (pk [0,2,3,4,5,6,7,8]) ?_
   refine WD.o 24 Z (by kernel_rfl) Z ?_
   obtain⟨c91,c95,hm96⟩:=cs2 hm89;clear hm89
   refine(Na (enc:=Due.cells) (xs:=own0v13_1) (ys:=[(Due.mk (((pace * m_Kernel_Pace)+slot)+(Bi m_Target.w0 m_Target.w1 m_Target.w2 x80)) x87 ((ele m_Kernel_Ops x34_1).n))]) ((own0v13_1++[(Due.mk (((pace * m_Kernel_Pace)+slot)+(Bi m_Target.w0 m_Target.w1 m_Target.w2 x80)) x87 ((ele m_Kernel_Ops x34_1).n))])) 7 (by decide) Ab4 Z Z Z Z Z (Bj 0 (rows:=[(Due.mk (((pace * m_Kernel_Pace)+slot)+(Bi m_Target.w0 m_Target.w1 m_Target.w2 x80)) x87 ((ele m_Kernel_Ops x34_1).n))].map Due.cells) Z Z (B5 Due.cells_len)) Due.cells_len (Due.cells_one _) Z c91.1 c91.2 (fun u93 hu94=>?_))
   refine WD.b (H':=[kn M w.heap.size K0 k_1,blk b90 [i_ (((pace * m_Kernel_Pace)+slot)+(Bi m_Target.w0 m_Target.w1 m_Target.w2 x80)),i_ x87,i_ ((ele m_Kernel_Ops x34_1).n)] 151,blk b77 [i_ (ele x7.1 x63)] 2,blk b57 [i_ (pace - (ele m_Kernel_Ops x34_1).stage)] 3,blk b54 (Opr.cells (ele m_Kernel_Ops x34_1)) 75,vec uv11_1 1 1 (List.map Et Bv11_1),blk b_m [i_ m_Target.u0,i_ m_Target.u1,i_ m_Target.u2,i_ m_Target.w0,i_ m_Target.w1,i_ m_Target.w2,i_ m_Target.regs,i_ m_Kernel_Pace,i_ m_Kernel_Stages,v_m_Kernel_Ops,X10.1,v_m_memory,i_ m_turns,uown0v13_1] 115,Bm u93 151 3 (List.map Due.cells (own0v13_1++[(Due.mk (((pace * m_Kernel_Pace)+slot)+(Bi m_Target.w0 m_Target.w1 m_Target.w2 x80)) x87 ((ele m_Kernel_Ops x34_1).n))])),Bv v_m_memory hs_m_memory 33 2 m_memory,vec X10.1 2 1 (List.map Af x7.1)]) (pk [5,0,1,2,3,4,6,7,8,9]) (pk [0,1,2,3,4,5,6,8,9]) ?_
   refine wz 25 Z Z (QV.nilCheck Z Z) (zf 26 F5 Z Z ?_)
   refine WD.l 27 Z (by kernel_rfl) Z ?_
   refine(EV.store 6 Z Z Z Z Z Z (vs:=[u93]) (SliceLen.cells hu94) Yx (nl Z) (oc (SliceLen.one hu94) Aw) ?_)
   refine WQ.block (WQ.then (WC.region (wq Z (QV.add Z Z Z Z c95) (wm Z (WL.nil ?_)))))
   exact Ld (own0v13_1++[(Due.mk (((pace * m_Kernel_Pace)+slot)+(Bi m_Target.w0 m_Target.w1 m_Target.w2 x80)) x87 ((ele m_Kernel_Ops x34_1).n))]) v11_1 (x34_1+1) u93 uv11_1 Bv11_1 k_1 m44 ⟨Ax hm96 hn47,hu94,hlv11_1,hBv11_1,hRv11_1,hle_1⟩ (Nat.lt_succ_self _) ⟨Z,Z,Z,Z,Z,Z,Z,Z,trivial⟩ (pk [4,5,6,7,8,9])
  refine sr (wq Z (QV.eql Z Z Z Z) (wa Z (nt ?_)))
  refine wc Z hm97 (fun h98 hm99=>?_) (fun h98 hm117=>?_) <;> clear hm97
  ·skip
   refine WC.region (wl pl3 Z (Own.cell 1 Z Z) (wa Z (WL.nil (WQ.block (WQ.then (B9 (m:=28) (S:=Own M w [kn M w.heap.size K0 k_1,blk b77 [i_ (ele x7.1 x63)] 2,blk b57 [i_ (pace - (ele m_Kernel_Ops x34_1).stage)] 3,blk b54 (Opr.cells (ele m_Kernel_Ops x34_1)) 75,vec uv11_1 1 1 (List.map Et Bv11_1),blk b_m [i_ m_Target.u0,i_ m_Target.u1,i_ m_Target.u2,i_ m_Target.w0,i_ m_Target.w1,i_ m_Target.w2,i_ m_Target.regs,i_ m_Kernel_Pace,i_ m_Kernel_Stages,v_m_Kernel_Ops,X10.1,v_m_memory,i_ m_turns,uown0v13_1] 115,Bv v_m_memory hs_m_memory 33 2 m_memory,vec X10.1 2 1 (List.map Af x7.1)]) (by kernel_rfl) (by kernel_rfl) (pk [4,0,1,2,3,5,7,8]) (zl 0 F1 Z Z (fun w hw=>CellsAt.one 0 ((Am 0 Z hk (hc2.le (hle10.trans hle_1))) w hw) Z) ?_)))))))
   refine zl 1 F1 Z Z (fun w hw=>CellsAt.one 0 ((Am 0 Z hk (hc2.le (hle10.trans hle_1))) w hw) Z) (wz 2 Z Z (QV.nilCheck Z Z) (zf 3 F5 Z Z (zl 4 Pu Z Z (Own.cell 5 Z Z) (zm 5 Z Z (zl 6 F1 Z Z (fun w hw=>CellsAt.one 0 ((Am 0 Z hk (hc2.le (hle10.trans hle_1))) w hw) Z) (zf 7 Nw Z Z (zl 8 pl3 Z Z (Own.cell 3 Z Z) ?_)))))))
   obtain⟨x100,hx101,hm102⟩:=Ag hm99;clear hm99
   refine wz 9 Z Z (QV.call Yc (ec Z eN) (fun w hw=>have h:=Fd w hx101 ;h)) (wz 10 Z Z (QV.nilCheck Z Z) (zf 11 Qx Z Z (zf 12 P6 Z Z ?_)))
   obtain⟨c103,c105,hm106⟩:=cs2 hm102;clear hm102
   refine wz 13 Z Z (B1 Pq Z Z Z Z c103.1 c103.2) (zl 14 pl3 Z Z (Da 5 Z (Fo (off:=3) (i:=x100) c103.1 c103.2 Z Z Z) (E8 _ _ _)) (wz 15 Z Z (QV.add Z Z Z Z c105) (zl 16 F1 Z Z (fun w hw=>CellsAt.one 0 ((Am 0 Z hk (hc2.le (hle10.trans hle_1))) w hw) Z) (zf 17 P0 Z Z (zl 18 pl3 Z Z (Own.cell 3 Z Z) (zm 19 Z Z ?_))))))
   obtain⟨x107,hx108,hm109⟩:=Ag hm106;clear hm106
   refine wz 20 Z Z (QV.call Ad6 (ec Z (ec Z (ec Z eN))) (fun w hw=>have h:=Dd w hx108 (Ab 5 Z w hw);h)) (zm 21 Z Z (wz 22 Z Z (QV.build (ps:=[(0,.tmp 125),(1,.tmp 130),(2,.tmp 131)]) (cells:=[i_ (((pace * m_Kernel_Pace)+slot)+(Bi m_Target.w0 m_Target.w1 m_Target.w2 x100)),i_ x107,i_ (pace - (ele m_Kernel_Ops x34_1).stage)]) (ec Z (ec Z (ec Z eN))) (by kernel_rfl)) ?_))
   refine WD.o 23 Z (by kernel_rfl) Z ?_
   refine(EV.buildSlice (by decide) Wl (by decide) (by decide) (ps:=[(0,.tmp 132)]) (cells:=[i_ (((pace * m_Kernel_Pace)+slot)+(Bi m_Target.w0 m_Target.w1 m_Target.w2 x100)),i_ x107,i_ (pace - (ele m_Kernel_Ops x34_1).stage)]) (ec Z eN) (by kernel_rfl) (fun b110=>?_))
   refine WD.b (H':=[kn M w.heap.size K0 k_1,blk b110 [i_ (((pace * m_Kernel_Pace)+slot)+(Bi m_Target.w0 m_Target.w1 m_Target.w2 x100)),i_ x107,i_ (pace - (ele m_Kernel_Ops x34_1).stage)] 151,blk b77 [i_ (ele x7.1 x63)] 2,blk b57 [i_ (pace - (ele m_Kernel_Ops x34_1).stage)] 3,blk b54 (Opr.cells (ele m_Kernel_Ops x34_1)) 75,vec uv11_1 1 1 (List.map Et Bv11_1),blk b_m [i_ m_Target.u0,i_ m_Target.u1,i_ m_Target.u2,i_ m_Target.w0,i_ m_Target.w1,i_ m_Target.w2,i_ m_Target.regs,i_ m_Kernel_Pace,i_ m_Kernel_Stages,v_m_Kernel_Ops,X10.1,v_m_memory,i_ m_turns,uown0v13_1] 115,Bv v_m_memory hs_m_memory 33 2 m_memory,vec X10.1 2 1 (List.map Af x7.1)]) (pk [5,0,1,2,3,4,6,8,9]) (pk [0,2,3,4,5,6,7,8]) ?_
   refine WD.o 24 Z (by kernel_rfl) Z ?_
   obtain⟨c111,c115,hm116⟩:=cs2 hm109;clear hm109
   refine(Na (enc:=Due.cells) (xs:=own0v13_1) (ys:=[(Due.mk (((pace * m_Kernel_Pace)+slot)+(Bi m_Target.w0 m_Target.w1 m_Target.w2 x100)) x107 (pace - (ele m_Kernel_Ops x34_1).stage))]) ((own0v13_1++[(Due.mk (((pace * m_Kernel_Pace)+slot)+(Bi m_Target.w0 m_Target.w1 m_Target.w2 x100)) x107 (pace - (ele m_Kernel_Ops x34_1).stage))])) 7 (by decide) Ab4 Z Z Z Z Z (Bj 0 (rows:=[(Due.mk (((pace * m_Kernel_Pace)+slot)+(Bi m_Target.w0 m_Target.w1 m_Target.w2 x100)) x107 (pace - (ele m_Kernel_Ops x34_1).stage))].map Due.cells) Z Z (B5 Due.cells_len)) Due.cells_len (Due.cells_one _) Z c111.1 c111.2 (fun u113 hu114=>?_))
   refine WD.b (H':=[kn M w.heap.size K0 k_1,blk b110 [i_ (((pace * m_Kernel_Pace)+slot)+(Bi m_Target.w0 m_Target.w1 m_Target.w2 x100)),i_ x107,i_ (pace - (ele m_Kernel_Ops x34_1).stage)] 151,blk b77 [i_ (ele x7.1 x63)] 2,blk b57 [i_ (pace - (ele m_Kernel_Ops x34_1).stage)] 3,blk b54 (Opr.cells (ele m_Kernel_Ops x34_1)) 75,vec uv11_1 1 1 (List.map Et Bv11_1),blk b_m [i_ m_Target.u0,i_ m_Target.u1,i_ m_Target.u2,i_ m_Target.w0,i_ m_Target.w1,i_ m_Target.w2,i_ m_Target.regs,i_ m_Kernel_Pace,i_ m_Kernel_Stages,v_m_Kernel_Ops,X10.1,v_m_memory,i_ m_turns,uown0v13_1] 115,Bm u113 151 3 (List.map Due.cells (own0v13_1++[(Due.mk (((pace * m_Kernel_Pace)+slot)+(Bi m_Target.w0 m_Target.w1 m_Target.w2 x100)) x107 (pace - (ele m_Kernel_Ops x34_1).stage))])),Bv v_m_memory hs_m_memory 33 2 m_memory,vec X10.1 2 1 (List.map Af x7.1)]) (pk [5,0,1,2,3,4,6,7,8,9]) (pk [0,1,2,3,4,5,6,8,9]) ?_
   refine wz 25 Z Z (QV.nilCheck Z Z) (zf 26 F5 Z Z ?_)
   refine WD.l 27 Z (by kernel_rfl) Z ?_
   refine(EV.store 6 Z Z Z Z Z Z (vs:=[u113]) (SliceLen.cells hu114) Yx (nl Z) (oc (SliceLen.one hu114) Aw) ?_)
   refine WQ.block (WQ.then (WC.region (wq Z (QV.add Z Z Z Z c115) (wm Z (WL.nil ?_)))))
   exact Ld (own0v13_1++[(Due.mk (((pace * m_Kernel_Pace)+slot)+(Bi m_Target.w0 m_Target.w1 m_Target.w2 x100)) x107 (pace - (ele m_Kernel_Ops x34_1).stage))]) v11_1 (x34_1+1) u113 uv11_1 Bv11_1 k_1 m44 ⟨Ax hm116 hn47,hu114,hlv11_1,hBv11_1,hRv11_1,hle_1⟩ (Nat.lt_succ_self _) ⟨Z,Z,Z,Z,Z,Z,Z,Z,trivial⟩ (pk [4,5,6,7,8,9])
  refine sr (wq Z (QV.eql Z Z Z Z) (wa Z (nt ?_)))
  refine wc Z hm117 (fun h118 hm119=>?_) (fun h118 hm141=>?_) <;> clear hm117
  ·skip
   refine WC.region (wl F1 Z (fun w hw=>CellsAt.one 0 ((Am 4 Z hk (hc2.le (hle10.trans hle_1))) w hw) Z) (wq Z (Ac Ub Z Z Z (Ab 2 Z)) (wl pl3 Z (Own.cell 1 Z Z) (Aa Z ?_))))
   obtain⟨x120,hx121,hm122⟩:=Ag hm119;clear hm119
   refine EV.of (C':=Own M w [kn M w.heap.size K0 k_1,blk b_m [i_ m_Target.u0,i_ m_Target.u1,i_ m_Target.u2,i_ m_Target.w0,i_ m_Target.w1,i_ m_Target.w2,i_ m_Target.regs,i_ m_Kernel_Pace,i_ m_Kernel_Stages,v_m_Kernel_Ops,X10.1,v_m_memory,i_ m_turns,uown0v13_1] 115,vec X10.1 2 1 (List.map Af x7.1),Bv v_m_memory hs_m_memory 33 2 m_memory,Bm uown0v13_1 151 3 (List.map Due.cells own0v13_1),blk b77 [i_ (ele x7.1 x63)] 2,blk b57 [i_ (pace - (ele m_Kernel_Ops x34_1).stage)] 3,blk b54 (Opr.cells (ele m_Kernel_Ops x34_1)) 75,vec uv11_1 1 1 (List.map Et Bv11_1)]) (pk [4,5,8,7,6,0,1,2,3]) ?_
   refine(A4 (X:=Addr×World) (R:=[blk b_m [i_ m_Target.u0,i_ m_Target.u1,i_ m_Target.u2,i_ m_Target.w0,i_ m_Target.w1,i_ m_Target.w2,i_ m_Target.regs,i_ m_Kernel_Pace,i_ m_Kernel_Stages,v_m_Kernel_Ops,X10.1,v_m_memory,i_ m_turns,uown0v13_1] 115,vec X10.1 2 1 (List.map Af x7.1),Bv v_m_memory hs_m_memory 33 2 m_memory,Bm uown0v13_1 151 3 (List.map Due.cells own0v13_1)]) (fun X=>.pointer (some X.1)) (fun X=>[blk b_m [i_ m_Target.u0,i_ m_Target.u1,i_ m_Target.u2,i_ m_Target.w0,i_ m_Target.w1,i_ m_Target.w2,i_ m_Target.regs,i_ m_Kernel_Pace,i_ m_Kernel_Stages,v_m_Kernel_Ops,X10.1,v_m_memory,i_ m_turns,uown0v13_1] 115,vec X10.1 2 1 (List.map Af x7.1),Bv v_m_memory hs_m_memory 33 2 m_memory,Bm uown0v13_1 151 3 (List.map Due.cells own0v13_1)]) (fun X=>X.2) (fun X=>IX x120.1 (ln m_memory)∧H1 (hat hs_m_memory x120.1) x120.2 1 X.1∧IX x120.2 (ln (ele m_memory x120.1))) hk (fun _ h=>by cases h;decide) en91 (ec Z (ec Z (ec Z eN))) (fun M w h1 h2=>have h:=K4 hx121 (h_m_Kernel_Ops.le ((hle2.trans hle10).trans hle_1)) hF10.1 h_m_memory hg_m_memory hlown0v13_1 M w h1 h2;h) (fun X123 hF123 hle123=>?_))
   refine wq Z (QV.nilCheck Z Z) (wl pl2 Z (fun w hw=>CellsAt.one 0 (((Gb 3 Z hF123.1) w hw).ele hF123.2.1 hF123.2.2) Z) (wa Z (WL.nil (WQ.block (WQ.then (B9 (m:=28) (S:=Own M w [kn M w.heap.size K0 X123.2,blk b_m [i_ m_Target.u0,i_ m_Target.u1,i_ m_Target.u2,i_ m_Target.w0,i_ m_Target.w1,i_ m_Target.w2,i_ m_Target.regs,i_ m_Kernel_Pace,i_ m_Kernel_Stages,v_m_Kernel_Ops,X10.1,v_m_memory,i_ m_turns,uown0v13_1] 115,vec X10.1 2 1 (List.map Af x7.1),Bv v_m_memory hs_m_memory 33 2 m_memory,blk b77 [i_ (ele x7.1 x63)] 2,blk b57 [i_ (pace - (ele m_Kernel_Ops x34_1).stage)] 3,blk b54 (Opr.cells (ele m_Kernel_Ops x34_1)) 75,vec uv11_1 1 1 (List.map Et Bv11_1)]) (by kernel_rfl) (by kernel_rfl) (pk [0,1,2,3,5,6,7,8]) ?_))))))
   refine zl 0 F1 Z Z (fun w hw=>CellsAt.one 0 ((Am 0 Z hk (hc2.le ((hle10.trans hle_1).trans hle123))) w hw) Z) (zl 1 F1 Z Z (fun w hw=>CellsAt.one 0 ((Am 0 Z hk (hc2.le ((hle10.trans hle_1).trans hle123))) w hw) Z) (wz 2 Z Z (QV.nilCheck Z Z) (zf 3 F5 Z Z (zl 4 Pu Z Z (Own.cell 1 Z Z) (zm 5 Z Z (zl 6 F1 Z Z (fun w hw=>CellsAt.one 0 ((Am 0 Z hk (hc2.le ((hle10.trans hle_1).trans hle123))) w hw) Z) (zf 7 Nw Z Z (zl 8 pl3 Z Z (Own.cell 6 Z Z) ?_))))))))
   obtain⟨x124,hx125,hm126⟩:=Ag hm122;clear hm122
   refine wz 9 Z Z (QV.call Yc (ec Z eN) (fun w hw=>have h:=Fd w hx125 ;h)) (wz 10 Z Z (QV.nilCheck Z Z) (zf 11 Qx Z Z (zf 12 P6 Z Z ?_)))
   obtain⟨c127,c129,hm130⟩:=cs2 hm126;clear hm126
   refine wz 13 Z Z (B1 Pq Z Z Z Z c127.1 c127.2) (zl 14 pl3 Z Z (Da 1 Z (Fo (off:=3) (i:=x124) c127.1 c127.2 Z Z Z) (E8 _ _ _)) (wz 15 Z Z (QV.add Z Z Z Z c129) (zl 16 F1 Z Z (fun w hw=>CellsAt.one 0 ((Am 0 Z hk (hc2.le ((hle10.trans hle_1).trans hle123))) w hw) Z) (zf 17 P0 Z Z (zl 18 pl3 Z Z (Own.cell 6 Z Z) (zm 19 Z Z ?_))))))
   obtain⟨x131,hx132,hm133⟩:=Ag hm130;clear hm130
   refine wz 20 Z Z (QV.call Ad6 (ec Z (ec Z (ec Z eN))) (fun w hw=>have h:=Dd w hx132 (Ab 1 Z w hw);h)) (zm 21 Z Z (wz 22 Z Z (QV.build (ps:=[(0,.tmp 125),(1,.tmp 130),(2,.tmp 131)]) (cells:=[i_ (((pace * m_Kernel_Pace)+slot)+(Bi m_Target.w0 m_Target.w1 m_Target.w2 x124)),i_ x131,i_ (ele (ele m_memory x120.1) x120.2)]) (ec Z (ec Z (ec Z eN))) (by kernel_rfl)) ?_))
   refine WD.o 23 Z (by kernel_rfl) Z ?_
   refine(EV.buildSlice (by decide) Wl (by decide) (by decide) (ps:=[(0,.tmp 132)]) (cells:=[i_ (((pace * m_Kernel_Pace)+slot)+(Bi m_Target.w0 m_Target.w1 m_Target.w2 x124)),i_ x131,i_ (ele (ele m_memory x120.1) x120.2)]) (ec Z eN) (by kernel_rfl) (fun b134=>?_))
   refine WD.b (H':=[kn M w.heap.size K0 X123.2,blk b134 [i_ (((pace * m_Kernel_Pace)+slot)+(Bi m_Target.w0 m_Target.w1 m_Target.w2 x124)),i_ x131,i_ (ele (ele m_memory x120.1) x120.2)] 151,blk b_m [i_ m_Target.u0,i_ m_Target.u1,i_ m_Target.u2,i_ m_Target.w0,i_ m_Target.w1,i_ m_Target.w2,i_ m_Target.regs,i_ m_Kernel_Pace,i_ m_Kernel_Stages,v_m_Kernel_Ops,X10.1,v_m_memory,i_ m_turns,uown0v13_1] 115,vec X10.1 2 1 (List.map Af x7.1),Bv v_m_memory hs_m_memory 33 2 m_memory,blk b77 [i_ (ele x7.1 x63)] 2,blk b57 [i_ (pace - (ele m_Kernel_Ops x34_1).stage)] 3,blk b54 (Opr.cells (ele m_Kernel_Ops x34_1)) 75,vec uv11_1 1 1 (List.map Et Bv11_1)]) (pk [1,0,2,3,4,6,7,8,9]) (pk [0,2,3,4,5,6,7,8]) ?_
   refine WD.o 24 Z (by kernel_rfl) Z ?_
   obtain⟨c135,c139,hm140⟩:=cs2 hm133;clear hm133
   refine(Na (enc:=Due.cells) (xs:=own0v13_1) (ys:=[(Due.mk (((pace * m_Kernel_Pace)+slot)+(Bi m_Target.w0 m_Target.w1 m_Target.w2 x124)) x131 (ele (ele m_memory x120.1) x120.2))]) ((own0v13_1++[(Due.mk (((pace * m_Kernel_Pace)+slot)+(Bi m_Target.w0 m_Target.w1 m_Target.w2 x124)) x131 (ele (ele m_memory x120.1) x120.2))])) 5 (by decide) Ab4 Z Z Z Z Z (Bj 0 (rows:=[(Due.mk (((pace * m_Kernel_Pace)+slot)+(Bi m_Target.w0 m_Target.w1 m_Target.w2 x124)) x131 (ele (ele m_memory x120.1) x120.2))].map Due.cells) Z Z (B5 Due.cells_len)) Due.cells_len (Due.cells_one _) Z c135.1 c135.2 (fun u137 hu138=>?_))
   refine WD.b (H':=[kn M w.heap.size K0 X123.2,blk b134 [i_ (((pace * m_Kernel_Pace)+slot)+(Bi m_Target.w0 m_Target.w1 m_Target.w2 x124)),i_ x131,i_ (ele (ele m_memory x120.1) x120.2)] 151,blk b_m [i_ m_Target.u0,i_ m_Target.u1,i_ m_Target.u2,i_ m_Target.w0,i_ m_Target.w1,i_ m_Target.w2,i_ m_Target.regs,i_ m_Kernel_Pace,i_ m_Kernel_Stages,v_m_Kernel_Ops,X10.1,v_m_memory,i_ m_turns,uown0v13_1] 115,vec X10.1 2 1 (List.map Af x7.1),Bv v_m_memory hs_m_memory 33 2 m_memory,Bm u137 151 3 (List.map Due.cells (own0v13_1++[(Due.mk (((pace * m_Kernel_Pace)+slot)+(Bi m_Target.w0 m_Target.w1 m_Target.w2 x124)) x131 (ele (ele m_memory x120.1) x120.2))])),blk b77 [i_ (ele x7.1 x63)] 2,blk b57 [i_ (pace - (ele m_Kernel_Ops x34_1).stage)] 3,blk b54 (Opr.cells (ele m_Kernel_Ops x34_1)) 75,vec uv11_1 1 1 (List.map Et Bv11_1)]) (pk [1,0,2,3,4,5,6,7,8,9]) (pk [0,1,2,3,4,6,7,8,9]) ?_
   refine wz 25 Z Z (QV.nilCheck Z Z) (zf 26 F5 Z Z ?_)
   refine WD.l 27 Z (by kernel_rfl) Z ?_
   refine(EV.store 2 Z Z Z Z Z Z (vs:=[u137]) (SliceLen.cells hu138) Yx (nl Z) (oc (SliceLen.one hu138) Aw) ?_)
   refine WQ.block (WQ.then (WC.region (wq Z (QV.add Z Z Z Z c139) (wm Z (WL.nil ?_)))))
   exact Ld (own0v13_1++[(Due.mk (((pace * m_Kernel_Pace)+slot)+(Bi m_Target.w0 m_Target.w1 m_Target.w2 x124)) x131 (ele (ele m_memory x120.1) x120.2))]) v11_1 (x34_1+1) u137 uv11_1 Bv11_1 X123.2 m44 ⟨Ax hm140 hn47,hu138,hlv11_1,hBv11_1,(hRv11_1.le hle123),(hle_1.trans hle123)⟩ (Nat.lt_succ_self _) ⟨Z,Z,Z,Z,Z,Z,Z,Z,trivial⟩ (pk [9,1,2,5,4,3])
  refine sr (wq Z (QV.eql Z Z Z Z) (wa Z (nt ?_)))
  refine wc Z hm141 (fun h142 hm143=>?_) (fun h142 hm172=>?_) <;> clear hm141
  ·skip
   refine sr (wl pl2 Z (Own.cell 0 Z Z) (wa Z (nr (wm Z (wq Z (QV.makeFunc (ec Z (ec Z (ec Z (ec Z eN))))) (Aa Z ?_))))))
   refine(EV.buildSlice (by decide) Ao2 (by decide) (by decide) (ps:=[(0,.tmp 107)]) (cells:=[.func (.func 92) #[] #[.pointer (some (⟨b77,0,none⟩)),.pointer (some (⟨b1,0,none⟩)),.pointer (some (⟨b54,0,none⟩)),.pointer (some (⟨b57,0,none⟩))]]) (ec Z eN) (by kernel_rfl) (fun b144=>?_))
   refine Aa Z ?_
   refine EV.of (C':=Own M w [kn M w.heap.size K0 k_1,blk b77 [i_ (ele x7.1 x63)] 2,blk b144 [.func (.func 92) #[] #[.pointer (some (⟨b77,0,none⟩)),.pointer (some (⟨b1,0,none⟩)),.pointer (some (⟨b54,0,none⟩)),.pointer (some (⟨b57,0,none⟩))]] 1,blk b57 [i_ (pace - (ele m_Kernel_Ops x34_1).stage)] 3,blk b54 (Opr.cells (ele m_Kernel_Ops x34_1)) 75,vec uv11_1 1 1 (List.map Et Bv11_1),blk b_m [i_ m_Target.u0,i_ m_Target.u1,i_ m_Target.u2,i_ m_Target.w0,i_ m_Target.w1,i_ m_Target.w2,i_ m_Target.regs,i_ m_Kernel_Pace,i_ m_Kernel_Stages,v_m_Kernel_Ops,X10.1,v_m_memory,i_ m_turns,uown0v13_1] 115,Bm uown0v13_1 151 3 (List.map Due.cells own0v13_1),Bv v_m_memory hs_m_memory 33 2 m_memory,vec X10.1 2 1 (List.map Af x7.1)]) (pk [5,1,0,2,3,4,6,7,8,9]) ?_
   refine EV.freeze hk (fun k145 hle145 hr145=>?_)
   have hc145:=Lc hr145
   refine EV.of (C':=Own M w [kn M w.heap.size K0 k145,blk b54 (Opr.cells (ele m_Kernel_Ops x34_1)) 75,blk b144 [.func (.func 92) #[] #[.pointer (some (⟨b77,0,none⟩)),.pointer (some (⟨b1,0,none⟩)),.pointer (some (⟨b54,0,none⟩)),.pointer (some (⟨b57,0,none⟩))]] 1,blk b57 [i_ (pace - (ele m_Kernel_Ops x34_1).stage)] 3,vec uv11_1 1 1 (List.map Et Bv11_1),blk b_m [i_ m_Target.u0,i_ m_Target.u1,i_ m_Target.u2,i_ m_Target.w0,i_ m_Target.w1,i_ m_Target.w2,i_ m_Target.regs,i_ m_Kernel_Pace,i_ m_Kernel_Stages,v_m_Kernel_Ops,X10.1,v_m_memory,i_ m_turns,uown0v13_1] 115,Bm uown0v13_1 151 3 (List.map Due.cells own0v13_1),Bv v_m_memory hs_m_memory 33 2 m_memory,vec X10.1 2 1 (List.map Af x7.1)]) (pk [0,3,1,2,4,5,6,7,8]) ?_
   refine EV.freeze hk (fun k146 hle146 hr146=>?_)
   have hc146:=Lc hr146
   refine EV.of (C':=Own M w [kn M w.heap.size K0 k146,blk b57 [i_ (pace - (ele m_Kernel_Ops x34_1).stage)] 3,blk b144 [.func (.func 92) #[] #[.pointer (some (⟨b77,0,none⟩)),.pointer (some (⟨b1,0,none⟩)),.pointer (some (⟨b54,0,none⟩)),.pointer (some (⟨b57,0,none⟩))]] 1,vec uv11_1 1 1 (List.map Et Bv11_1),blk b_m [i_ m_Target.u0,i_ m_Target.u1,i_ m_Target.u2,i_ m_Target.w0,i_ m_Target.w1,i_ m_Target.w2,i_ m_Target.regs,i_ m_Kernel_Pace,i_ m_Kernel_Stages,v_m_Kernel_Ops,X10.1,v_m_memory,i_ m_turns,uown0v13_1] 115,Bm uown0v13_1 151 3 (List.map Due.cells own0v13_1),Bv v_m_memory hs_m_memory 33 2 m_memory,vec X10.1 2 1 (List.map Af x7.1)]) (pk [0,2,1,3,4,5,6,7]) ?_
   refine EV.freeze hk (fun k147 hle147 hr147=>?_)
   have hc147:=Lc hr147
   obtain⟨c148,hm149⟩:=cs hm143;clear hm143
   have hR152:ClosK 92 (.pointer (some (⟨b1,0,none⟩))) k147 (Bv11_1++([(.func (.func 92) #[] #[.pointer (some (⟨b77,0,none⟩)),.pointer (some (⟨b1,0,none⟩)),.pointer (some (⟨b54,0,none⟩)),.pointer (some (⟨b57,0,none⟩))],((ele m_Kernel_Ops x34_1),(pace - (ele m_Kernel_Ops x34_1).stage),(ele x7.1 x63)))]:List (Value×Opr×Int×Int))):=ClosK.snoc (hRv11_1.le ((hle145.trans hle146).trans hle147)) (hc145.le (hle146.trans hle147)) (hc146.le hle147) hc147
   have hB153:((Bv11_1++([(.func (.func 92) #[] #[.pointer (some (⟨b77,0,none⟩)),.pointer (some (⟨b1,0,none⟩)),.pointer (some (⟨b54,0,none⟩)),.pointer (some (⟨b57,0,none⟩))],((ele m_Kernel_Ops x34_1),(pace - (ele m_Kernel_Ops x34_1).stage),(ele x7.1 x63)))]:List (Value×Opr×Int×Int))):List (Value×Opr×Int×Int)).map (·.2)=(v11_1++[((ele m_Kernel_Ops x34_1),(pace - (ele m_Kernel_Ops x34_1).stage),(ele x7.1 x63))]):=Ald hBv11_1
   refine(Bx (enc:=Et) (xs:=Bv11_1) (ys:=([(.func (.func 92) #[] #[.pointer (some (⟨b77,0,none⟩)),.pointer (some (⟨b1,0,none⟩)),.pointer (some (⟨b54,0,none⟩)),.pointer (some (⟨b57,0,none⟩))],((ele m_Kernel_Ops x34_1),(pace - (ele m_Kernel_Ops x34_1).stage),(ele x7.1 x63)))]:List (Value×Opr×Int×Int))) (Bv11_1++([(.func (.func 92) #[] #[.pointer (some (⟨b77,0,none⟩)),.pointer (some (⟨b1,0,none⟩)),.pointer (some (⟨b54,0,none⟩)),.pointer (some (⟨b57,0,none⟩))],((ele m_Kernel_Ops x34_1),(pace - (ele m_Kernel_Ops x34_1).stage),(ele x7.1 x63)))]:List (Value×Opr×Int×Int))) 2 (by decide) ve147 Z Z Z Z Z (Bj 1 (rows:=([(.func (.func 92) #[] #[.pointer (some (⟨b77,0,none⟩)),.pointer (some (⟨b1,0,none⟩)),.pointer (some (⟨b54,0,none⟩)),.pointer (some (⟨b57,0,none⟩))],((ele m_Kernel_Ops x34_1),(pace - (ele m_Kernel_Ops x34_1).stage),(ele x7.1 x63)))]:List (Value×Opr×Int×Int)).map Et) Z Z (B5 Zp)) Zp (And Z) Z (AL.c1 hB153 c148) (AL.c2 hB153 c148) (fun u150 hu151=>?_))
   have hl154:=Akc hB153 hu151
   refine wa Z (WL.nil (WQ.block (WQ.then (B9 (m:=28) (S:=Own M w [kn M w.heap.size K0 k147,blk b144 [.func (.func 92) #[] #[.pointer (some (⟨b77,0,none⟩)),.pointer (some (⟨b1,0,none⟩)),.pointer (some (⟨b54,0,none⟩)),.pointer (some (⟨b57,0,none⟩))]] 1,vec u150 1 1 (List.map Et (Bv11_1++([(.func (.func 92) #[] #[.pointer (some (⟨b77,0,none⟩)),.pointer (some (⟨b1,0,none⟩)),.pointer (some (⟨b54,0,none⟩)),.pointer (some (⟨b57,0,none⟩))],((ele m_Kernel_Ops x34_1),(pace - (ele m_Kernel_Ops x34_1).stage),(ele x7.1 x63)))]:List (Value×Opr×Int×Int)))),blk b_m [i_ m_Target.u0,i_ m_Target.u1,i_ m_Target.u2,i_ m_Target.w0,i_ m_Target.w1,i_ m_Target.w2,i_ m_Target.regs,i_ m_Kernel_Pace,i_ m_Kernel_Stages,v_m_Kernel_Ops,X10.1,v_m_memory,i_ m_turns,uown0v13_1] 115,Bv v_m_memory hs_m_memory 33 2 m_memory,vec X10.1 2 1 (List.map Af x7.1)]) (by kernel_rfl) (by kernel_rfl) (pk [0,1,2,3,5,6]) ?_))))
   refine zl 0 F1 Z Z (fun w hw=>CellsAt.one 0 ((Am 0 Z hk (hc2.le ((((hle10.trans hle_1).trans hle145).trans hle146).trans hle147))) w hw) Z) (zl 1 F1 Z Z (fun w hw=>CellsAt.one 0 ((Am 0 Z hk (hc2.le ((((hle10.trans hle_1).trans hle145).trans hle146).trans hle147))) w hw) Z) (wz 2 Z Z (QV.nilCheck Z Z) (zf 3 F5 Z Z (zl 4 Pu Z Z (Own.cell 3 Z Z) (zm 5 Z Z (zl 6 F1 Z Z (fun w hw=>CellsAt.one 0 ((Am 0 Z hk (hc2.le ((((hle10.trans hle_1).trans hle145).trans hle146).trans hle147))) w hw) Z) (zf 7 Nw Z Z (zl 8 pl3 Z Z (fun w hw=>CellsAt.one 2 ((Am 0 Z hk (hc146.le hle147)) w hw) Z) ?_))))))))
   obtain⟨x155,hx156,hm157⟩:=Ag hm149;clear hm149
   refine wz 9 Z Z (QV.call Yc (ec Z eN) (fun w hw=>have h:=Fd w hx156 ;h)) (wz 10 Z Z (QV.nilCheck Z Z) (zf 11 Qx Z Z (zf 12 P6 Z Z ?_)))
   obtain⟨c158,c160,hm161⟩:=cs2 hm157;clear hm157
   refine wz 13 Z Z (B1 Pq Z Z Z Z c158.1 c158.2) (zl 14 pl3 Z Z (Da 3 Z (Fo (off:=3) (i:=x155) c158.1 c158.2 Z Z Z) (E8 _ _ _)) (wz 15 Z Z (QV.add Z Z Z Z c160) (zl 16 F1 Z Z (fun w hw=>CellsAt.one 0 ((Am 0 Z hk (hc2.le ((((hle10.trans hle_1).trans hle145).trans hle146).trans hle147))) w hw) Z) (zf 17 P0 Z Z (zl 18 pl3 Z Z (fun w hw=>CellsAt.one 3 ((Am 0 Z hk (hc146.le hle147)) w hw) Z) (zm 19 Z Z ?_))))))
   obtain⟨x162,hx163,hm164⟩:=Ag hm161;clear hm161
   refine wz 20 Z Z (QV.call Ad6 (ec Z (ec Z (ec Z eN))) (fun w hw=>have h:=Dd w hx163 (Ab 3 Z w hw);h)) (zm 21 Z Z (wz 22 Z Z (QV.build (ps:=[(0,.tmp 125),(1,.tmp 130),(2,.tmp 131)]) (cells:=[i_ (((pace * m_Kernel_Pace)+slot)+(Bi m_Target.w0 m_Target.w1 m_Target.w2 x155)),i_ x162,i_ (ele x7.1 x63)]) (ec Z (ec Z (ec Z eN))) (by kernel_rfl)) ?_))
   refine WD.o 23 Z (by kernel_rfl) Z ?_
   refine(EV.buildSlice (by decide) Wl (by decide) (by decide) (ps:=[(0,.tmp 132)]) (cells:=[i_ (((pace * m_Kernel_Pace)+slot)+(Bi m_Target.w0 m_Target.w1 m_Target.w2 x155)),i_ x162,i_ (ele x7.1 x63)]) (ec Z eN) (by kernel_rfl) (fun b165=>?_))
   refine WD.b (H':=[kn M w.heap.size K0 k147,blk b165 [i_ (((pace * m_Kernel_Pace)+slot)+(Bi m_Target.w0 m_Target.w1 m_Target.w2 x155)),i_ x162,i_ (ele x7.1 x63)] 151,blk b144 [.func (.func 92) #[] #[.pointer (some (⟨b77,0,none⟩)),.pointer (some (⟨b1,0,none⟩)),.pointer (some (⟨b54,0,none⟩)),.pointer (some (⟨b57,0,none⟩))]] 1,vec u150 1 1 (List.map Et (Bv11_1++([(.func (.func 92) #[] #[.pointer (some (⟨b77,0,none⟩)),.pointer (some (⟨b1,0,none⟩)),.pointer (some (⟨b54,0,none⟩)),.pointer (some (⟨b57,0,none⟩))],((ele m_Kernel_Ops x34_1),(pace - (ele m_Kernel_Ops x34_1).stage),(ele x7.1 x63)))]:List (Value×Opr×Int×Int)))),blk b_m [i_ m_Target.u0,i_ m_Target.u1,i_ m_Target.u2,i_ m_Target.w0,i_ m_Target.w1,i_ m_Target.w2,i_ m_Target.regs,i_ m_Kernel_Pace,i_ m_Kernel_Stages,v_m_Kernel_Ops,X10.1,v_m_memory,i_ m_turns,uown0v13_1] 115,Bv v_m_memory hs_m_memory 33 2 m_memory,vec X10.1 2 1 (List.map Af x7.1)]) (pk [1,0,2,3,4,6,7]) (pk [0,2,3,4,5,6]) ?_
   refine WD.o 24 Z (by kernel_rfl) Z ?_
   obtain⟨c166,c170,hm171⟩:=cs2 hm164;clear hm164
   refine(Na (enc:=Due.cells) (xs:=own0v13_1) (ys:=[(Due.mk (((pace * m_Kernel_Pace)+slot)+(Bi m_Target.w0 m_Target.w1 m_Target.w2 x155)) x162 (ele x7.1 x63))]) ((own0v13_1++[(Due.mk (((pace * m_Kernel_Pace)+slot)+(Bi m_Target.w0 m_Target.w1 m_Target.w2 x155)) x162 (ele x7.1 x63))])) 5 (by decide) Ab4 Z Z Z Z Z (Bj 0 (rows:=[(Due.mk (((pace * m_Kernel_Pace)+slot)+(Bi m_Target.w0 m_Target.w1 m_Target.w2 x155)) x162 (ele x7.1 x63))].map Due.cells) Z Z (B5 Due.cells_len)) Due.cells_len (Due.cells_one _) Z c166.1 c166.2 (fun u168 hu169=>?_))
   refine WD.b (H':=[kn M w.heap.size K0 k147,blk b165 [i_ (((pace * m_Kernel_Pace)+slot)+(Bi m_Target.w0 m_Target.w1 m_Target.w2 x155)),i_ x162,i_ (ele x7.1 x63)] 151,blk b144 [.func (.func 92) #[] #[.pointer (some (⟨b77,0,none⟩)),.pointer (some (⟨b1,0,none⟩)),.pointer (some (⟨b54,0,none⟩)),.pointer (some (⟨b57,0,none⟩))]] 1,vec u150 1 1 (List.map Et (Bv11_1++([(.func (.func 92) #[] #[.pointer (some (⟨b77,0,none⟩)),.pointer (some (⟨b1,0,none⟩)),.pointer (some (⟨b54,0,none⟩)),.pointer (some (⟨b57,0,none⟩))],((ele m_Kernel_Ops x34_1),(pace - (ele m_Kernel_Ops x34_1).stage),(ele x7.1 x63)))]:List (Value×Opr×Int×Int)))),blk b_m [i_ m_Target.u0,i_ m_Target.u1,i_ m_Target.u2,i_ m_Target.w0,i_ m_Target.w1,i_ m_Target.w2,i_ m_Target.regs,i_ m_Kernel_Pace,i_ m_Kernel_Stages,v_m_Kernel_Ops,X10.1,v_m_memory,i_ m_turns,uown0v13_1] 115,Bm u168 151 3 (List.map Due.cells (own0v13_1++[(Due.mk (((pace * m_Kernel_Pace)+slot)+(Bi m_Target.w0 m_Target.w1 m_Target.w2 x155)) x162 (ele x7.1 x63))])),Bv v_m_memory hs_m_memory 33 2 m_memory,vec X10.1 2 1 (List.map Af x7.1)]) (pk [1,0,2,3,4,5,6,7]) (pk [0,1,2,3,4,6,7]) ?_
   refine wz 25 Z Z (QV.nilCheck Z Z) (zf 26 F5 Z Z ?_)
   refine WD.l 27 Z (by kernel_rfl) Z ?_
   refine(EV.store 4 Z Z Z Z Z Z (vs:=[u168]) (SliceLen.cells hu169) Yx (nl Z) (oc (SliceLen.one hu169) Aw) ?_)
   refine WQ.block (WQ.then (WC.region (wq Z (QV.add Z Z Z Z c170) (wm Z (WL.nil ?_)))))
   exact Ld (own0v13_1++[(Due.mk (((pace * m_Kernel_Pace)+slot)+(Bi m_Target.w0 m_Target.w1 m_Target.w2 x155)) x162 (ele x7.1 x63))]) (v11_1++[((ele m_Kernel_Ops x34_1),(pace - (ele m_Kernel_Ops x34_1).stage),(ele x7.1 x63))]) (x34_1+1) u168 u150 (Bv11_1++([(.func (.func 92) #[] #[.pointer (some (⟨b77,0,none⟩)),.pointer (some (⟨b1,0,none⟩)),.pointer (some (⟨b54,0,none⟩)),.pointer (some (⟨b57,0,none⟩))],((ele m_Kernel_Ops x34_1),(pace - (ele m_Kernel_Ops x34_1).stage),(ele x7.1 x63)))]:List (Value×Opr×Int×Int))) k147 m44 ⟨Ax hm171 hn47,hu169,hl154,hB153,hR152,(((hle_1.trans hle145).trans hle146).trans hle147)⟩ (Nat.lt_succ_self _) ⟨Z,Z,Z,Z,Z,Z,Z,Z,trivial⟩ (pk [3,1,4,5,6,7])
  refine WC.region (wf Nw Z (wl pl3 Z (Own.cell 2 Z Z) ?_))
  obtain⟨c173,hm174⟩:=cs hm172;clear hm172
  refine wq Z (QV.sub Z Z Z Z c173) (wl pl2 Z (Own.cell 0 Z Z) (wm Z ?_))
  obtain⟨x175,hx176,hm177⟩:=Ag hm174;clear hm174
  refine wq Z (QV.call en86 (ec Z (ec Z (ec Z eN))) (fun w hw=>have h:=Acx w hx176 ;h)) (wa Z (WL.nil (WQ.block (WQ.then (B9 (m:=28) (S:=Own M w [kn M w.heap.size K0 k_1,blk b77 [i_ (ele x7.1 x63)] 2,blk b57 [i_ (pace - (ele m_Kernel_Ops x34_1).stage)] 3,blk b54 (Opr.cells (ele m_Kernel_Ops x34_1)) 75,vec uv11_1 1 1 (List.map Et Bv11_1),blk b_m [i_ m_Target.u0,i_ m_Target.u1,i_ m_Target.u2,i_ m_Target.w0,i_ m_Target.w1,i_ m_Target.w2,i_ m_Target.regs,i_ m_Kernel_Pace,i_ m_Kernel_Stages,v_m_Kernel_Ops,X10.1,v_m_memory,i_ m_turns,uown0v13_1] 115,Bv v_m_memory hs_m_memory 33 2 m_memory,vec X10.1 2 1 (List.map Af x7.1)]) (by kernel_rfl) (by kernel_rfl) (pk [4,0,1,2,3,5,7,8]) ?_)))))
  refine zl 0 F1 Z Z (fun w hw=>CellsAt.one 0 ((Am 0 Z hk (hc2.le (hle10.trans hle_1))) w hw) Z) (zl 1 F1 Z Z (fun w hw=>CellsAt.one 0 ((Am 0 Z hk (hc2.le (hle10.trans hle_1))) w hw) Z) (wz 2 Z Z (QV.nilCheck Z Z) (zf 3 F5 Z Z (zl 4 Pu Z Z (Own.cell 5 Z Z) (zm 5 Z Z (zl 6 F1 Z Z (fun w hw=>CellsAt.one 0 ((Am 0 Z hk (hc2.le (hle10.trans hle_1))) w hw) Z) (zf 7 Nw Z Z (zl 8 pl3 Z Z (Own.cell 3 Z Z) ?_))))))))
  obtain⟨x178,hx179,hm180⟩:=Ag hm177;clear hm177
  refine wz 9 Z Z (QV.call Yc (ec Z eN) (fun w hw=>have h:=Fd w hx179 ;h)) (wz 10 Z Z (QV.nilCheck Z Z) (zf 11 Qx Z Z (zf 12 P6 Z Z ?_)))
  obtain⟨c181,c183,hm184⟩:=cs2 hm180;clear hm180
  refine wz 13 Z Z (B1 Pq Z Z Z Z c181.1 c181.2) (zl 14 pl3 Z Z (Da 5 Z (Fo (off:=3) (i:=x178) c181.1 c181.2 Z Z Z) (E8 _ _ _)) (wz 15 Z Z (QV.add Z Z Z Z c183) (zl 16 F1 Z Z (fun w hw=>CellsAt.one 0 ((Am 0 Z hk (hc2.le (hle10.trans hle_1))) w hw) Z) (zf 17 P0 Z Z (zl 18 pl3 Z Z (Own.cell 3 Z Z) (zm 19 Z Z ?_))))))
  obtain⟨x185,hx186,hm187⟩:=Ag hm184;clear hm184
  refine wz 20 Z Z (QV.call Ad6 (ec Z (ec Z (ec Z eN))) (fun w hw=>have h:=Dd w hx186 (Ab 5 Z w hw);h)) (zm 21 Z Z (wz 22 Z Z (QV.build (ps:=[(0,.tmp 125),(1,.tmp 130),(2,.tmp 131)]) (cells:=[i_ (((pace * m_Kernel_Pace)+slot)+(Bi m_Target.w0 m_Target.w1 m_Target.w2 x178)),i_ x185,i_ x175]) (ec Z (ec Z (ec Z eN))) (by kernel_rfl)) ?_))
  refine WD.o 23 Z (by kernel_rfl) Z ?_
  refine(EV.buildSlice (by decide) Wl (by decide) (by decide) (ps:=[(0,.tmp 132)]) (cells:=[i_ (((pace * m_Kernel_Pace)+slot)+(Bi m_Target.w0 m_Target.w1 m_Target.w2 x178)),i_ x185,i_ x175]) (ec Z eN) (by kernel_rfl) (fun b188=>?_))
  refine WD.b (H':=[kn M w.heap.size K0 k_1,blk b188 [i_ (((pace * m_Kernel_Pace)+slot)+(Bi m_Target.w0 m_Target.w1 m_Target.w2 x178)),i_ x185,i_ x175] 151,blk b77 [i_ (ele x7.1 x63)] 2,blk b57 [i_ (pace - (ele m_Kernel_Ops x34_1).stage)] 3,blk b54 (Opr.cells (ele m_Kernel_Ops x34_1)) 75,vec uv11_1 1 1 (List.map Et Bv11_1),blk b_m [i_ m_Target.u0,i_ m_Target.u1,i_ m_Target.u2,i_ m_Target.w0,i_ m_Target.w1,i_ m_Target.w2,i_ m_Target.regs,i_ m_Kernel_Pace,i_ m_Kernel_Stages,v_m_Kernel_Ops,X10.1,v_m_memory,i_ m_turns,uown0v13_1] 115,Bv v_m_memory hs_m_memory 33 2 m_memory,vec X10.1 2 1 (List.map Af x7.1)]) (pk [5,0,1,2,3,4,6,8,9]) (pk [0,2,3,4,5,6,7,8]) ?_
  refine WD.o 24 Z (by kernel_rfl) Z ?_
  obtain⟨c189,c193,hm194⟩:=cs2 hm187;clear hm187
  refine(Na (enc:=Due.cells) (xs:=own0v13_1) (ys:=[(Due.mk (((pace * m_Kernel_Pace)+slot)+(Bi m_Target.w0 m_Target.w1 m_Target.w2 x178)) x185 x175)]) ((own0v13_1++[(Due.mk (((pace * m_Kernel_Pace)+slot)+(Bi m_Target.w0 m_Target.w1 m_Target.w2 x178)) x185 x175)])) 7 (by decide) Ab4 Z Z Z Z Z (Bj 0 (rows:=[(Due.mk (((pace * m_Kernel_Pace)+slot)+(Bi m_Target.w0 m_Target.w1 m_Target.w2 x178)) x185 x175)].map Due.cells) Z Z (B5 Due.cells_len)) Due.cells_len (Due.cells_one _) Z c189.1 c189.2 (fun u191 hu192=>?_))
  refine WD.b (H':=[kn M w.heap.size K0 k_1,blk b188 [i_ (((pace * m_Kernel_Pace)+slot)+(Bi m_Target.w0 m_Target.w1 m_Target.w2 x178)),i_ x185,i_ x175] 151,blk b77 [i_ (ele x7.1 x63)] 2,blk b57 [i_ (pace - (ele m_Kernel_Ops x34_1).stage)] 3,blk b54 (Opr.cells (ele m_Kernel_Ops x34_1)) 75,vec uv11_1 1 1 (List.map Et Bv11_1),blk b_m [i_ m_Target.u0,i_ m_Target.u1,i_ m_Target.u2,i_ m_Target.w0,i_ m_Target.w1,i_ m_Target.w2,i_ m_Target.regs,i_ m_Kernel_Pace,i_ m_Kernel_Stages,v_m_Kernel_Ops,X10.1,v_m_memory,i_ m_turns,uown0v13_1] 115,Bm u191 151 3 (List.map Due.cells (own0v13_1++[(Due.mk (((pace * m_Kernel_Pace)+slot)+(Bi m_Target.w0 m_Target.w1 m_Target.w2 x178)) x185 x175)])),Bv v_m_memory hs_m_memory 33 2 m_memory,vec X10.1 2 1 (List.map Af x7.1)]) (pk [5,0,1,2,3,4,6,7,8,9]) (pk [0,1,2,3,4,5,6,8,9]) ?_
  refine wz 25 Z Z (QV.nilCheck Z Z) (zf 26 F5 Z Z ?_)
  refine WD.l 27 Z (by kernel_rfl) Z ?_
  refine(EV.store 6 Z Z Z Z Z Z (vs:=[u191]) (SliceLen.cells hu192) Yx (nl Z) (oc (SliceLen.one hu192) Aw) ?_)
  refine WQ.block (WQ.then (WC.region (wq Z (QV.add Z Z Z Z c193) (wm Z (WL.nil ?_)))))
  exact Ld (own0v13_1++[(Due.mk (((pace * m_Kernel_Pace)+slot)+(Bi m_Target.w0 m_Target.w1 m_Target.w2 x178)) x185 x175)]) v11_1 (x34_1+1) u191 uv11_1 Bv11_1 k_1 m44 ⟨Ax hm194 hn47,hu192,hlv11_1,hBv11_1,hRv11_1,hle_1⟩ (Nat.lt_succ_self _) ⟨Z,Z,Z,Z,Z,Z,Z,Z,trivial⟩ (pk [4,5,6,7,8,9])
 refine WC.exit (te (te (Ai ?_)))
 exact Agh own0v13_1 v11_1 x34_1 uown0v13_1 uv11_1 Bv11_1 k_1 ⟨A6 hm195 hn47,hlown0v13_1,hlv11_1,hBv11_1,hRv11_1,hle_1⟩ ⟨Z,Z,Z,Z,Z,Z,Z,Z,trivial⟩ (pk [0,1,2,3,4,5])
end Go.Proofs.Ytaimbkndebaaiac
end
section
namespace Go.Proofs.Ytaimbkndebaaiac
open Go.Rd
open TNum TLoop TStable TMach TMach2
namespace TKern
theorem Afn:N4 Try.prog 146 2:=⟨_,Try.underlying146,rfl,by kernel_rfl⟩
theorem Kj:N4 Try.prog 31 3:=⟨_,Try.underlying31,rfl,by kernel_rfl⟩
theorem Aoi:Aen Try.prog 146 2 1:=⟨_,Try.underlying146,by kernel_rfl⟩
theorem Aod:Go.Rd.Enters Try.prog 118:=eT Try.func118
theorem en88:Go.Rd.Enters Try.prog 88:=eT Try.func88
theorem en95:Go.Rd.Enters Try.prog 95:=eT Try.func95
theorem en96:Go.Rd.Enters Try.prog 96:=eT Try.func96
theorem Uj:Bw Try.prog 31 1 1:=fT 0 Try.underlying31
theorem S4:KeyT Try.prog 146 kP:=Aia Try.underlying146 Try.underlying3 (by kernel_rfl)
theorem S3:Ad8 Try.prog 145 146 3:=Try.underlying145
theorem An4:C8 Try.prog 146 2:=by unfold C8;kernel_rfl
theorem sz25:C8 Try.prog 25 3:=by unfold C8;kernel_rfl
theorem sz_23:L6 Try.prog 23 81 9 [.int .i64 0,.int .i64 0,.int .i64 0,.int .i64 0,.int .i64 0,.int .i64 0,.int .i64 0,.int .i64 0,.int .i64 0]:=⟨Try.underlying23,by kernel_rfl⟩
theorem Anx:ZeroT Try.prog 146 [.int .i64 0,.int .i64 0]:=by unfold ZeroT;kernel_rfl
theorem ze25:ZeroT Try.prog 25 [.slice none 0 0,.slice none 0 0,.slice none 0 0]:=by unfold ZeroT;kernel_rfl
theorem Md:Z9 Try.prog 3 (Cg 0):=by unfold Z9;kernel_rfl
end TKern
open TKern
theorem Rw {o:Opr}{r:Stm} (w:World) (hm:Ht o=some r) :Calls Try.prog 95 #[.agg #[.int .i64 o.slot,.int .i64 o.stage,.int .i64 o.op,.int .i64 o.dest,.int .i64 o.a,.int .i64 o.b,.int .i64 o.ar,.int .i64 o.sp,.int .i64 o.pl,.int .i64 o.n]] w (fun e w'=>e=.returned (.agg #[.int .i64 r.op,.int .i64 r.a.st,.int .i64 r.a.bk,.int .i64 r.b.st,.int .i64 r.b.bk,.int .i64 r.ar,.int .i64 r.sp,.int .i64 r.pl,.int .i64 r.n])∧Grow w w'):=by
 unfold Ht at hm
 have hk:=Base.rfl (w:=w)
 refine Ak (n:=14) (args:=[.agg #[i_ o.slot,i_ o.stage,i_ o.op,i_ o.dest,i_ o.a,i_ o.b,i_ o.ar,i_ o.sp,i_ o.pl,i_ o.n]]) Try.func95 Z Z (nl Z) ?_ (An hk (Own.start w))
 refine sr (Aa Z ?_)
 refine(Aq (by decide) Z Z (fun b1=>?_))
 refine Aa Z ?_
 refine(EV.alloc (by decide) Nz (fun b2=>?_))
 refine ns (wf Nw Z (wl pl3 Z (Own.cell 1 Z Z) (wf Ajt Z (wl pl3 Z (Own.cell 1 Z Z) (wf Ajs Z (wl pl3 Z (Own.cell 1 Z Z) (wf Ajr Z (wl pl3 Z (Own.cell 1 Z Z) (wf Ajq Z ?_)))))))))
 refine wl pl2 Z (Own.cell 1 Z Z) (wq Z (QV.build (ps:=[(0,.tmp 4),(3,.tmp 6),(4,.tmp 8),(5,.tmp 10),(6,.tmp 12)]) (cells:=[i_ o.op,i_ 0,i_ 0,i_ 0,i_ 0,i_ o.ar,i_ o.sp,i_ o.pl,i_ o.n]) (ec Z (ec Z (ec Z (ec Z (ec Z eN))))) (by kernel_rfl)) (Aa Z ?_))
 refine(EV.store 0 Z Z Z Z Z Z (vs:=[i_ o.op,i_ 0,i_ 0,i_ 0,i_ 0,i_ o.ar,i_ o.sp,i_ o.pl,i_ o.n]) (show Value.cells _=List.toArray _ from Z) N0 (nl Z) (oc Z (oc Z (oc Z (oc Z (oc Z (oc Z (oc Z (oc Z (oc Z Aw))))))))) ?_)
 refine nt (WC.ret ?_)
 obtain rfl:=(Ae hm).symm
 exact Sn Z Kk Z Z (Ab 0 Z) fun w hw=>kg hw
theorem Nx {v_k__ops:Value}{k_:Krn}{o:Opr}{r:Int} (w:World) (hm:Ed k_ o=some r) (h_k__ops:Arr w v_k__ops 10 (k_.ops.map Opr.cells)):Calls Try.prog 96 #[.agg #[.int .i64 k_.pace,.int .i64 k_.stages,v_k__ops],.agg #[.int .i64 o.slot,.int .i64 o.stage,.int .i64 o.op,.int .i64 o.dest,.int .i64 o.a,.int .i64 o.b,.int .i64 o.ar,.int .i64 o.sp,.int .i64 o.pl,.int .i64 o.n]] w (fun e w'=>e=.returned (.int .i64 r)∧Grow w w'):=by
 unfold Ed at hm
 have hk:=Base.rfl (w:=w)
 refine Ak (n:=13) (args:=[.agg #[i_ k_.pace,i_ k_.stages,v_k__ops],.agg #[i_ o.slot,i_ o.stage,i_ o.op,i_ o.dest,i_ o.a,i_ o.b,i_ o.ar,i_ o.sp,i_ o.pl,i_ o.n]]) Try.func96 Z Z (nl Z) ?_ (An hk (Own.start w))
 refine sr (Aa Z ?_)
 refine(Aq (by decide) Z Z (fun b1=>?_))
 refine Aa Z ?_
 refine(Aq (by decide) Z Z (fun b2=>?_))
 refine wa Z (ns (wf P3 Z (wl pl3 Z (Own.cell 0 Z Z) (wf P5 Z (wl pl3 Z (Own.cell 1 Z Z) ?_)))))
 obtain⟨c3,c5,hm6⟩:=cs2 hm;clear hm
 refine wq Z (QV.mul Z Z Z Z c3) (wf Wo Z (wl pl3 Z (Own.cell 0 Z Z) (wq Z (QV.add Z Z Z Z c5) (wa Z (nt (WC.ret ?_))))))
 obtain rfl:=(Ae hm6).symm
 exact Ar Z Z fun w hw=>kg hw
theorem Qt {p_n p_t:Addr}{r_ from_ n:Int}{t:Tgt}{r:Bool} (w:World) (hm:It r_ from_ n t=some r) (hp_n:CellsAt w p_n [.int .i64 n] 0) (hp_t:CellsAt w p_t [.int .i64 t.u0,.int .i64 t.u1,.int .i64 t.u2,.int .i64 t.w0,.int .i64 t.w1,.int .i64 t.w2,.int .i64 t.regs] 0):Calls Try.prog 118 #[.int .i64 r_,.int .i64 from_,.pointer (some p_n),.pointer (some p_t)] w (fun e w'=>e=.returned (.bool r)∧Grow w w'):=by
 unfold It at hm
 have hk:=Base.rfl (w:=w)
 refine Ak (n:=24) (args:=[i_ r_,i_ from_,.pointer (some p_n),.pointer (some p_t)]) Try.func118 Z Z (nl Z) ?_ (An hk (Own.start w))
 refine sr (wa Z (ns (wm Z (wq Z (QV.eql Z Z Z Z) (wm Z (gn Z (fun hG=>QV.load pl3 Z Z (fun w hw=>CellsAt.one 0 ((Am 0 Z hk hp_n) w hw) Z)) (gn Z (fun hG=>QV.move Z Z) (gn Z (fun hG=>QV.gtr Z hG Z hG) (gn Z (fun hG=>QV.move Z hG) ?_)))))))))
 refine gpC Z (fun hG=>QV.move Z Z) (gpC Z (fun hG=>QV.gtr Z hG Z Z) (gn Z (fun hG=>Az Z hG Z (fun h=>Agv hG h)) (gn Z (fun hG=>QV.move Z hG) (gpC Z (fun hG=>QV.move Z Z) (gpC Z (fun hG=>QV.fieldAddr H8 Z Z) (gpC Z (fun hG=>QV.load pl3 Z hG (fun w hw=>CellsAt.one 6 ((Am 0 Z hk hp_t) w hw) Z)) (gpC Z (fun hG=>QV.lss Z hG Z hG) (gn Z (fun hG=>Az Z hG Z (fun h=>Agv hG h)) (wq Z (A2 Z Z Z (fun h=>Dv h)) ?_)))))))))
 refine wa Z (nt (WC.ret ?_))
 obtain rfl:=(Ae hm).symm
 exact Ar Z Z fun w hw=>kg hw
theorem Adu {v_k__ops v_logs:Value}{t:Tgt}{k_:Krn}{o:Opr}{logs:List Int}{r:Bool} (w:World) (hm:Lz t k_ o logs=some r) (h_k__ops:Arr w v_k__ops 10 (k_.ops.map Opr.cells)) (h_logs:Arr w v_logs 1 (logs.map Af)):Calls Try.prog 88 #[.agg #[.int .i64 t.u0,.int .i64 t.u1,.int .i64 t.u2,.int .i64 t.w0,.int .i64 t.w1,.int .i64 t.w2,.int .i64 t.regs],.agg #[.int .i64 k_.pace,.int .i64 k_.stages,v_k__ops],.agg #[.int .i64 o.slot,.int .i64 o.stage,.int .i64 o.op,.int .i64 o.dest,.int .i64 o.a,.int .i64 o.b,.int .i64 o.ar,.int .i64 o.sp,.int .i64 o.pl,.int .i64 o.n],v_logs] w (fun e w'=>e=.returned (.bool r)∧Grow w w'):=by
 unfold Lz at hm
 have hk:=Base.rfl (w:=w)
 refine Ak (n:=88) (args:=[.agg #[i_ t.u0,i_ t.u1,i_ t.u2,i_ t.w0,i_ t.w1,i_ t.w2,i_ t.regs],.agg #[i_ k_.pace,i_ k_.stages,v_k__ops],.agg #[i_ o.slot,i_ o.stage,i_ o.op,i_ o.dest,i_ o.a,i_ o.b,i_ o.ar,i_ o.sp,i_ o.pl,i_ o.n],v_logs]) Try.func88 Z Z (nl Z) ?_ (An hk (Own.start w))
 refine sr (Aa Z ?_)
 refine(Aq (by decide) Z Z (fun b1=>?_))
 refine Aa Z ?_
 refine(Aq (by decide) Z Z (fun b2=>?_))
 refine Aa Z ?_
 refine(Aq (by decide) Z Z (fun b3=>?_))
 refine wa Z (ns (wq Z (Ac Ub Z Z Z (Ab 0 Z)) ?_))
 obtain⟨x4,hx5,hm6⟩:=Ag hm;clear hm
 refine wq Z (QV.call en95 (ec Z eN) (fun w hw=>have h:=Rw w hx5 ;h)) (Aa Z ?_)
 refine(EV.alloc (by decide) Nz (fun b7=>?_))
 refine Aa Z ?_
 refine(EV.store 0 Z Z Z Z Z Z (vs:=x4.cells) (show Value.cells _=List.toArray _ from Z) N0 (nl Z) (oc Z (oc Z (oc Z (oc Z (oc Z (oc Z (oc Z (oc Z (oc Z Aw))))))))) ?_)
 refine ns (wq Z (Ac Kk Z Z Z (Ab 0 Z)) (Aa Z ?_))
 obtain⟨x8,hx9,hm10⟩:=Ag hm6;clear hm6
 refine EV.of (C':=Own noM w [kn noM w.heap.size w w,blk b7 x4.cells 81,blk b3 o.cells 75,blk b2 [i_ k_.pace,i_ k_.stages,v_k__ops] 31,blk b1 t.cells 28]) (pk [4,0,1,2,3]) ?_
 refine(A4 (X:=Value×World) (R:=[]) (fun X=>X.1) (fun X=>[]) (fun X=>X.2) (fun X=>Arr X.2 X.1 2 (x8.map Rf.cells)) hk (fun _ h=>by cases h;decide) Ad7 (ec Z eN) (fun M w h1 h2=>have h:=Ii hx9  M w h1 h2;h) (fun X11 hF11 hle11=>?_))
 refine wq Z (Ay Try.underlying76 Z Z hF11.lenMap) (Aa Z ?_)
 refine(EV.alloc (by decide) ze3 (fun b12=>?_))
 refine Aa Z ?_
 refine(EV.store 0 Z Z Z Z Z Z (vs:=[i_ (ln x8)]) (show Value.cells _=List.toArray _ from Z) sz3 (nl Z) (oc Z Aw) ?_)
 refine ns (wq Z (QV.makeFunc (ec Z (ec Z eN))) (wa Z (nt (WC.seq (sr (wl pl3 Z (Own.cell 0 Z Z) (wq Z (QV.gtr Z Z Z Z) (nt ?_))))))))
 obtain⟨o13,hj14,hm15⟩:=Ag hm10;clear hm10
 refine Ah3 (H2:=[blk b12 [i_ (ln x8)] 3,kn noM w.heap.size w X11.2,blk b3 o.cells 75,blk b2 [i_ k_.pace,i_ k_.stages,v_k__ops] 31,blk b1 t.cells 28]) (τ:=[u_ 3 _,u_ 4 _,u_ 5 _,u_ 6 _,u_ 9 _,u_ 11 _]) (fun (b7c1_1:Int) (b7c2_1:Int) (b7c3_1:Int) (b7c4_1:Int)=>[]) (fun b7c1_1 b7c2_1 b7c3_1 b7c4_1=>[blk b7 [i_ x4.op,i_ b7c1_1,i_ b7c2_1,i_ b7c3_1,i_ b7c4_1,i_ x4.ar,i_ x4.sp,i_ x4.pl,i_ x4.n] 81]) (fun b7c1_1 b7c2_1 b7c3_1 b7c4_1=>o13=.go (b7c1_1,b7c2_1,b7c3_1,b7c4_1)) ⟨Z,Z,Z,Z,Z,Z,trivial⟩ (pk [0,1,3,4,5]) ?_ ?_
 ·skip
  rintro b7c1_1 b7c2_1 b7c3_1 b7c4_1 rfl
  refine sr (wm Z (wq Z (QV.build (ps:=[(0,.const (i_ 1))]) (cells:=[i_ 1,i_ 0,i_ 0,i_ 0,i_ 0,i_ 0,i_ 0,i_ 0,i_ 0]) (ec Z eN) (by kernel_rfl)) (wq Z (Ac Kk Z Z Z (Ab 0 Z)) (Aa Z ?_))))
  refine(EV.buildSlice (by decide) sz_23 (by decide) (by decide) (ps:=[(0,.tmp 27),(1,.tmp 28)]) (cells:=[i_ 1,i_ 0,i_ 0,i_ 0,i_ 0,i_ 0,i_ 0,i_ 0,i_ 0,i_ x4.op,i_ b7c1_1,i_ b7c2_1,i_ b7c3_1,i_ b7c4_1,i_ x4.ar,i_ x4.sp,i_ x4.pl,i_ x4.n]) (ec Z (ec Z eN)) (by kernel_rfl) (fun b16=>?_))
  refine wq Z (Ml (ps:=[(0,.tmp 26),(1,.tmp 29)]) (cells:=[v_logs,(Dk b16 2 2),.slice none 0 0]) (css:=[[v_logs],[(Dk b16 2 2)]]) (ec Z (ec Z eN)) (CellsAll.cons (SliceLen.cells (h_logs.le hle11).lenMap) (CellsAll.cons (SliceLen.cells SliceLen.blk) CellsAll.nil)) (by kernel_rfl)) (Aa Z ?_)
  refine(EV.alloc (by decide) ze25 (fun b17=>?_))
  refine Aa Z ?_
  refine(EV.store 0 Z Z Z Z Z Z (vs:=[v_logs,(Dk b16 2 2),.slice none 0 0]) (show Value.cells _=List.toArray _ from Z) sz25 (nl Z) (oc (SliceLen.one (h_logs.le hle11).lenMap) (oc (SliceLen.one SliceLen.blk) (oc Z Aw))) ?_)
  refine ns (wf Wo Z (wl pl3 Z (Own.cell 5 Z Z) (wq Z (QV.geq Z Z Z Z) (wm Z (gp Z (fun hG=>QV.fieldAddr Wo Z Z) (gp Z (fun hG=>QV.load pl3 Z hG (Own.cell 5 Z Z)) (gp Z (fun hG=>QV.fieldAddr P5 Z Z) (gp Z (fun hG=>QV.load pl3 Z hG (Own.cell 6 Z Z)) (gp Z (fun hG=>QV.lss Z hG Z hG) ?_)))))))))
  refine wq Z (Az Z Z Z (fun h=>h)) (wm Z (gp Z (fun hG=>QV.fieldAddr P3 Z Z) (gp Z (fun hG=>QV.load pl3 Z hG (Own.cell 5 Z Z)) (gp Z (fun hG=>QV.geq Z hG Z Z) (wq Z (Az Z Z Z (fun h=>h)) (wm Z (gp Z (fun hG=>QV.fieldAddr P3 Z Z) (gp Z (fun hG=>QV.load pl3 Z hG (Own.cell 5 Z Z)) (gp Z (fun hG=>QV.fieldAddr Uj Z Z) ?_)))))))))
  refine gp Z (fun hG=>QV.load pl3 Z hG (Own.cell 6 Z Z)) (gp Z (fun hG=>QV.lss Z hG Z hG) (wq Z (Az Z Z Z (fun h=>h)) (wm Z (gp Z (fun hG=>Ac Kj Z Z Z (Ab 6 Z)) (gp Z (fun hG=>Ac Ub Z Z Z (Ab 5 Z)) ?_)))))
  obtain⟨x18,hx19,hm20⟩:=Ce hm15;clear hm15
  refine gp Z (fun hG=>QV.call en96 (EvAll.cons Z hG (EvAll.cons Z hG eN)) (fun w hw=>have h:=Nx w (hx19 hG) ((Ah 4 Z hk (h_k__ops.le hle11)) w hw);h)) (gp Z (fun hG=>QV.leq Z hG Z Z) (wq Z (Az Z Z Z (fun h=>h)) (wa Z (ns (wm Z (wm Z (gp Z (fun hG=>Ac Fh Z Z Z (Ab 0 Z)) ?_)))))))
  obtain⟨x21,hx22,hm23⟩:=Ce hm20;clear hm20
  refine gp Z (fun hG=>QV.call Aim (EvAll.cons Z hG eN) (fun w hw=>have h:=M6 w (hx22 hG) ((Ah 4 Z hk (h_logs.le hle11)) w hw) ((Bj 1 (rows:=[(Stm.mk 1 (Rf.mk 0 0) (Rf.mk 0 0) 0 0 0 0),(Stm.mk x4.op (Rf.mk b7c1_1 b7c2_1) (Rf.mk b7c3_1 b7c4_1) x4.ar x4.sp x4.pl x4.n)].map Stm.cells) Z Z (B5 Stm.cells_len)) w hw) Arr.nil;h)) (wq Z (Az Z Z Z (fun h=>h)) (wm Z (gp Z (fun hG=>QV.fieldAddr P0 Z Z) (gp Z (fun hG=>QV.load pl3 Z hG (Own.cell 5 Z Z)) (gp Z (fun hG=>QV.geq Z hG Z Z) (wq Z (Az Z Z Z (fun h=>h)) (wm Z (gp Z (fun hG=>QV.fieldAddr P0 Z Z) (gp Z (fun hG=>QV.load pl3 Z hG (Own.cell 5 Z Z)) ?_)))))))))
  refine gp Z (fun hG=>QV.fieldAddr H8 Z Z) (gp Z (fun hG=>QV.load pl3 Z hG (Own.cell 7 Z Z)) (gp Z (fun hG=>QV.lss Z hG Z hG) (wq Z (Az Z Z Z (fun h=>h)) (wm Z (gp Z (fun hG=>QV.move Z Z) (gp Z (fun hG=>QV.fieldAddr Aaj Z Z) (gp Z (fun hG=>QV.load pl3 Z hG (Own.cell 5 Z Z)) ?_)))))))
  obtain⟨x24,hx25,hm26⟩:=Ce hm23;clear hm23
  refine gp Z (fun hG=>Jr Aod Z hG (EvAll.cons Z hG (ec Z eN)) (fun w hw=>have h:=Qt w (hx25 hG) (Ab 3 Z w hw) (Ab 7 Z w hw);h)) (wq Z (Az Z Z Z (fun h=>h)) (wm Z (gp Z (fun hG=>QV.move Z Z) (gp Z (fun hG=>QV.fieldAddr Aai Z Z) (gp Z (fun hG=>QV.load pl3 Z hG (Own.cell 5 Z Z)) ?_)))))
  obtain⟨x27,hx28,hm29⟩:=Ce hm26;clear hm26
  refine gp Z (fun hG=>Jr Aod Z hG (EvAll.cons Z hG (ec Z eN)) (fun w hw=>have h:=Qt w (hx28 hG) (Ab 3 Z w hw) (Ab 7 Z w hw);h)) (wq Z (Az Z Z Z (fun h=>h)) (wa Z (nt (WC.ret ?_))))
  obtain rfl:=(Ae hm29).symm
  exact Ar Z Z fun w hw=>kg hw
 refine WC.cond Z (fun h30=>?_) (fun h30=>?_)
 ·skip
  have hm31:=Ab1 h30 hj14;clear hj14
  refine WC.region (wq Z (QV.build (ps:=[]) (cells:=[i_ 0,i_ 0]) eN (by kernel_rfl)) (wq Z (QV.build (ps:=[]) (cells:=[i_ 0,i_ 0]) eN (by kernel_rfl)) (wf O0 Z (Aa Z ?_))))
  refine(EV.store 2 Z Z Z Z Z Z (vs:=[i_ 0,i_ 0]) (show Value.cells _=List.toArray _ from Z) Wb (nl Z) (oc Z (oc Z Aw)) ?_)
  refine wf Pz Z (Aa Z ?_)
  refine(EV.store 2 Z Z Z Z Z Z (vs:=[i_ 0,i_ 0]) (show Value.cells _=List.toArray _ from Z) Wb (nl Z) (oc Z (oc Z Aw)) ?_)
  refine WL.nil ?_
  exact Ko 0 0 0 0 (Ae hm31) ⟨Z,Z,Z,Z,Z,Z,trivial⟩ (pk [2,0,1,3,4,5])
 have hm32:=Ab2 h30 hj14;clear hj14
 refine sk ?_
 exact Ko x4.a.st x4.a.bk x4.b.st x4.b.bk (Ae hm32) ⟨Z,Z,Z,Z,Z,Z,trivial⟩ (pk [2,0,1,3,4,5])
theorem T0 {v_k__ops v_logs:Value}{t:Tgt}{k_:Krn}{logs:List Int}{r:Bool} (w:World) (hm:Hh t k_ logs=some r) (h_k__ops:Arr w v_k__ops 10 (k_.ops.map Opr.cells)) (h_logs:Arr w v_logs 1 (logs.map Af)):Calls Try.prog 56 #[.agg #[.int .i64 t.u0,.int .i64 t.u1,.int .i64 t.u2,.int .i64 t.w0,.int .i64 t.w1,.int .i64 t.w2,.int .i64 t.regs],.agg #[.int .i64 k_.pace,.int .i64 k_.stages,v_k__ops],v_logs] w (fun e w'=>e=.returned (.bool r)∧Grow w w'):=by
 unfold Hh at hm
 have hk:=Base.rfl (w:=w)
 refine Ak (n:=82) (args:=[.agg #[i_ t.u0,i_ t.u1,i_ t.u2,i_ t.w0,i_ t.w1,i_ t.w2,i_ t.regs],.agg #[i_ k_.pace,i_ k_.stages,v_k__ops],v_logs]) Try.func56 Z Z (nl Z) ?_ (An hk (Own.start w))
 refine sr (Aa Z ?_)
 refine(Aq (by decide) Z Z (fun b1=>?_))
 refine Aa Z ?_
 refine(Aq (by decide) Z Z (fun b2=>?_))
 refine wa Z (nt (WC.seq (sr (wq Z (Ac Gk Z Z Z (Ab 1 Z)) ?_))))
 obtain⟨x3,hx4,hm5⟩:=Ag hm;clear hm
 refine wq Z (QV.call Alu (ec Z eN) (fun w hw=>have h:=Mg w hx4 ;h)) (wq Z (QV.not Z Z) (wm Z (gn Z (fun hG=>QV.fieldAddr P5 Z Z) (gn Z (fun hG=>QV.load pl3 Z hG (Own.cell 0 Z Z)) (gn Z (fun hG=>QV.lss Z hG Z Z) (wq Z (A2 Z Z Z (fun h=>Dv h)) (wm Z (gn Z (fun hG=>QV.fieldAddr P5 Z Z) (gn Z (fun hG=>QV.load pl3 Z hG (Own.cell 0 Z Z)) ?_)))))))))
 refine gn Z (fun hG=>QV.gtr Z hG Z Z) (wq Z (A2 Z Z Z (fun h=>Dv h)) (wm Z (gn Z (fun hG=>QV.fieldAddr Uj Z Z) (gn Z (fun hG=>QV.load pl3 Z hG (Own.cell 0 Z Z)) (gn Z (fun hG=>QV.lss Z hG Z Z) (wq Z (A2 Z Z Z (fun h=>Dv h)) (wm Z (gn Z (fun hG=>QV.fieldAddr Uj Z Z) (gn Z (fun hG=>QV.load pl3 Z hG (Own.cell 0 Z Z)) ?_)))))))))
 refine gn Z (fun hG=>QV.gtr Z hG Z Z) (wq Z (A2 Z Z Z (fun h=>Dv h)) (wm Z (gn Z (fun hG=>QV.fieldAddr Mx Z Z) (gn Z (fun hG=>QV.load X5 Z hG (Own.cell 0 Z Z)) (gn Z (fun hG=>Ay Try.underlying29 Z hG h_k__ops.lenMap) (gn Z (fun hG=>QV.lss Z hG Z Z) (wq Z (A2 Z Z Z (fun h=>Dv h)) (wm Z (gn Z (fun hG=>QV.fieldAddr Mx Z Z) ?_)))))))))
 refine gn Z (fun hG=>QV.load X5 Z hG (Own.cell 0 Z Z)) (gn Z (fun hG=>Ay Try.underlying29 Z hG h_k__ops.lenMap) (gn Z (fun hG=>QV.gtr Z hG Z Z) (wq Z (A2 Z Z Z (fun h=>Dv h)) (nt ?_))))
 refine wc Z hm5 (fun h6 hm7=>?_) (fun h6 hm8=>?_) <;> clear hm5
 ·skip
  refine sr (wa Z (nt (WC.ret (tr ?_))))
  obtain rfl:=(Ae hm7).symm
  exact Ar Z Z fun w hw=>kg hw
 refine sk (WQ.then (sr (Aa Z ?_)))
 refine(EV.makeMap (ke:=kP) (ve:=Cg) (by decide) (fun b9=>?_))
 refine wa Z (nt (WC.seq (sr (wf Mx Z (wl X5 Z (Own.cell 1 Z Z) (wq Z (Ay Try.underlying29 Z Z h_k__ops.lenMap) (wm Z (nt ?_))))))))
 obtain⟨o10,ho11,hm12⟩:=Ag hm8;clear hm8;obtain⟨n13,ho14⟩:=A0 ho11
 refine Bz (H2:=[blk b2 [i_ k_.pace,i_ k_.stages,v_k__ops] 31,blk b1 t.cells 28,kn noM w.heap.size w w]) (τ:=[u_ 2 _,u_ 3 _,u_ 4 _,u_ 7 _,u_ 48 _,u_ 49 _]) (fun (m9n_1:List ((Int×Int)×Int)) (x50_1:Int)=>[(50,(true,i_ x50_1))]) (fun m9n_1 x50_1=>[Eb b9 kP Cg m9n_1]) (fun m9n_1 x50_1 m=>B3 (Hu t k_ logs) m (m9n_1,x50_1)=some o10) (fun m9n_1 x50_1=>o10=.go (m9n_1,x50_1)) ([]:List ((Int×Int)×Int)) 0 n13 ho14 ⟨Z,Z,Z,Z,Z,Z,Z,trivial⟩ (pk [0,1,2,3]) ?_ ?_
 ·skip
  rintro m9n_1 x50_1 rfl
  refine WQ.then (sr (wa Z (nt (WC.ret ?_))))
  obtain rfl:=(Ae hm12).symm
  exact Ar Z Z fun w hw=>kg hw
 rintro m9n_1 x50_1 m15 hI16
 obtain⟨m17,s18,rfl,hm19,hn20⟩:=Ap hI16;clear hI16;unfold Hu at hm19;simp only at hm19
 refine sr (wq Z (QV.lss Z Z Z Z) (nt (WC.seq ?_)))
 refine wc Z hm19 (fun h21 hm22=>?_) (fun h21 hm48=>?_) <;> clear hm19
 ·skip
  refine sk (WQ.then (WC.seq (WC.block (sr ?_))))
  obtain⟨c23,hm24⟩:=cs hm22;clear hm22
  obtain⟨p25,hp26⟩:=h_k__ops.lenMap.ix (sz:=10) Au c23
  refine wq Z (Ad Alo Z Z Z Z hp26) (wq Z (Ac Ub Z Z Z (fun w hw=>((Ah 3 Z hk h_k__ops) w hw).ele hp26 c23)) (Aa Z ?_))
  refine(EV.alloc (by decide) Agq (fun b27=>?_))
  refine Aa Z ?_
  refine(EV.store 0 Z Z Z Z Z Z (vs:=(Opr.cells (ele k_.ops x50_1))) (show Value.cells _=List.toArray _ from Z) Agr (nl Z) (oc Z (oc Z (oc Z (oc Z (oc Z (oc Z (oc Z (oc Z (oc Z (oc Z Aw)))))))))) ?_)
  refine nt (WC.seq (sr (wq Z (Ac Gk Z Z Z (Ab 3 Z)) (wq Z (Ac Kj Z Z Z (Ab 2 Z)) (wq Z (Ac Ub Z Z Z (Ab 0 Z)) (wm Z ?_))))))
  obtain⟨x28,hx29,hm30⟩:=Ag hm24;clear hm24
  refine wq Z (QV.call en88 (ec Z (ec Z (ec Z (ec Z eN)))) (fun w hw=>have h:=Adu w hx29 ((Ah 4 Z hk h_k__ops) w hw) ((Ah 4 Z hk h_logs) w hw);h)) (wq Z (QV.not Z Z) (nt ?_))
  refine wc Z hm30 (fun h31 hm32=>?_) (fun h31 hm33=>?_) <;> clear hm30
  ·skip
   refine sr (wa Z (nt (WC.ret (tr (kr (tr (tr (kr (tr (tr ?_))))))))))
   obtain rfl:=Cy hm32 hn20
   obtain rfl:=(Ae hm12).symm
   exact Ar Z Z fun w hw=>kg hw
  refine sk (WQ.then (WC.seq (B9 (m:=8) (S:=Own noM w [kn noM w.heap.size w w,blk b27 (Opr.cells (ele k_.ops x50_1)) 75,Eb b9 kP Cg m9n_1,blk b2 [i_ k_.pace,i_ k_.stages,v_k__ops] 31,blk b1 t.cells 28]) (by kernel_rfl) (by kernel_rfl) (pk [4,0,1,2,3]) (zf 0 Wo Z Z (zl 1 pl3 Z Z (Own.cell 1 Z Z) (zf 2 Nw Z Z (zl 3 pl3 Z Z (Own.cell 1 Z Z) ?_)))))))
  obtain⟨x34,hx35,hm36⟩:=Ag hm33;clear hm33
  refine wz 4 Z Z (QV.call Yc (ec Z eN) (fun w hw=>have h:=Fd w hx35 ;h)) (wz 5 Z Z (QV.build (ps:=[(0,.tmp 61),(1,.tmp 64)]) (cells:=[i_ ((ele k_.ops x50_1).slot),i_ x34]) (ec Z (ec Z eN)) (by kernel_rfl)) ?_)
  refine WD.o 6 Z (by kernel_rfl) Z ?_
  refine(EV.alloc (by decide) Anx (fun b37=>?_))
  refine WD.b (H':=[kn noM w.heap.size w w,blk b37 [i_ 0,i_ 0] 146,blk b27 (Opr.cells (ele k_.ops x50_1)) 75,Eb b9 kP Cg m9n_1,blk b2 [i_ k_.pace,i_ k_.stages,v_k__ops] 31,blk b1 t.cells 28]) (pk [5,0,1,2,3,4]) (pk [0,2,3,4,5]) ?_
  refine WD.l 7 Z (by kernel_rfl) Z ?_
  refine(EV.store 0 Z Z Z Z Z Z (vs:=[i_ ((ele k_.ops x50_1).slot),i_ x34]) (show Value.cells _=List.toArray _ from Z) An4 (nl Z) (oc Z (oc Z Aw)) ?_)
  refine WQ.then (WC.seq (B9 (m:=7) (S:=Own noM w [kn noM w.heap.size w w,blk b37 [i_ ((ele k_.ops x50_1).slot),i_ x34] 146,blk b27 (Opr.cells (ele k_.ops x50_1)) 75,Z7 b9 kP Cg 0 m9n_1,blk b2 [i_ k_.pace,i_ k_.stages,v_k__ops] 31,blk b1 t.cells 28]) (by kernel_rfl) (by kernel_rfl) (fun w hw=>Qq 3 0 Z (hw.pick [5,0,1,2,3,4] (by decide))) (zm 0 Z Z (wz 1 Z Z (Ac Afn Z Z Z (Ab 1 Z)) (wz 2 Z Z (Sr (k:=((ele k_.ops x50_1).slot,x34)) 3 0 S3 S4 Md Z Z Z Z Z) ?_)))))
  obtain⟨c38,c41,hm42⟩:=cs2 hm36;clear hm36
  refine wz 3 Z Z (QV.add Z Z Z Z c38) ?_
  refine WD.o 4 Z (by kernel_rfl) Z ?_
  refine(EV.mapEntry (by decide) ((ele k_.ops x50_1).slot,x34) 2 0 S3 S4 Md Z Z Z Z Z (fun s40=>?_))
  refine WD.b (H':=[kn noM w.heap.size w w,blk b37 [i_ ((ele k_.ops x50_1).slot),i_ x34] 146,blk b27 (Opr.cells (ele k_.ops x50_1)) 75,Z7 b9 kP Cg 0 m9n_1,blk b2 [i_ k_.pace,i_ k_.stages,v_k__ops] 31,blk b1 t.cells 28]) (fun w hw=>Qp 3 Z (hw.pick [5,0,1,2,3,4] (by decide))) (pk [0,1,2,3,4,5]) ?_
  refine wz 5 Z Z (QV.extract Z Z Z) ?_
  refine WD.l 6 Z (by kernel_rfl) Z ?_
  refine(EV.entryStore (ke:=kP) (ve:=Cg) ((ele k_.ops x50_1).slot,x34) 2 ((Dm m9n_1 ((ele k_.ops x50_1).slot,x34) 0)+1) s40 Z Z Z Z Z Z Z ?_)
  refine WQ.then (WC.seq (B9 (m:=9) (S:=Own noM w [kn noM w.heap.size w w,blk b37 [i_ ((ele k_.ops x50_1).slot),i_ x34] 146,blk b27 (Opr.cells (ele k_.ops x50_1)) 75,Eb b9 kP Cg (Es m9n_1 ((ele k_.ops x50_1).slot,x34) ((Dm m9n_1 ((ele k_.ops x50_1).slot,x34) 0)+1)),blk b2 [i_ k_.pace,i_ k_.stages,v_k__ops] 31,blk b1 t.cells 28]) (by kernel_rfl) (by kernel_rfl) (pk [5,0,1,2,3,4]) (zm 0 Z Z (wz 1 Z Z (Ac Afn Z Z Z (Ab 1 Z)) (wz 2 Z Z (QV.lookup (k:=((ele k_.ops x50_1).slot,x34)) 3 0 S3 S4 Md Z Z Z Z Z) (wz 3 Z Z (B1 Aoi Z Z Z Z (by decide) (by decide)) (zl 4 pl3 Z Z (Own.cell 1 Z Z) (zf 5 Se Z Z (wz 6 Z Z (B1 Pq Z Z Z Z c41.1 c41.2) ?_)))))))))
  refine zl 7 pl3 Z Z (Da 5 Z (Fo (off:=0) (i:=x34) c41.1 c41.2 Z Z Z) (E8 _ _ _)) (wz 8 Z Z (QV.gtr Z Z Z Z) ?_)
  refine WD.e (by kernel_rfl) ?_
  refine WQ.then ?_
  refine wc Z hm42 (fun h43 hm44=>?_) (fun h43 hm45=>?_) <;> clear hm42
  ·skip
   refine sr (wa Z (nt (WC.ret (kr (tr (tr (kr (tr (tr ?_)))))))))
   obtain rfl:=Cy hm44 hn20
   obtain rfl:=(Ae hm12).symm
   exact Ar Z Z fun w hw=>kg hw
  refine sk (WQ.block (WQ.then (WC.region ?_)))
  obtain⟨c46,hm47⟩:=cs hm45;clear hm45
  refine wq Z (QV.add Z Z Z Z c46) (wm Z (WL.nil ?_))
  exact Bn (Es m9n_1 ((ele k_.ops x50_1).slot,x34) ((Dm m9n_1 ((ele k_.ops x50_1).slot,x34) 0)+1)) (x50_1+1) m17 (Ax hm47 hn20) (Nat.lt_succ_self _) ⟨Z,Z,Z,Z,Z,Z,Z,trivial⟩ (pk [2,3,4,5])
 refine WC.exit (te (te (Ai ?_)))
 exact Cb m9n_1 x50_1 (A6 hm48 hn20) ⟨Z,Z,Z,Z,Z,Z,Z,trivial⟩ (pk [0,1,2,3])
end Go.Proofs.Ytaimbkndebaaiac
end
section
namespace Go.Proofs.Ytaimbkndebaaiac
open Go.Rd
open TNum TLoop TStable TMach TMach2 TKern
namespace TClone
theorem Rn:L6 Try.prog 33 2 1 [.int .i64 0]:=⟨Try.underlying33,by kernel_rfl⟩
theorem Wa:Rl Try.prog 33 2 1 8:=⟨Try.underlying33,by kernel_rfl,by decide⟩
end TClone
open TClone
theorem slClw {v_s:Value}{s r:List Int}{K0:World} (hm:Air v_s s=some r) (h_s:Arr K0 v_s 1 (s.map Af)) (M:Nat→Prop) (w:World) (hk:Base M K0 w) (hw0:Own M w [] w):Calls Try.prog 57 #[v_s] w (fun e w'=>∃ X:Value×World,e=.returned (X.1)∧Own M w (kn M w.heap.size K0 X.2::[vec X.1 2 1 (List.map Af r)]) w'∧SliceLen X.1 (r).length):=by
 unfold Air at hm
 refine Ak (n:=8) (args:=[v_s]) Try.func57 Z Z (nl Z) ?_ (An hk hw0)
 refine sr (wa Z (nt (WC.seq (sr (wm Z (wq Z (Ah8 Try.underlying33 Z Z h_s.lenMap) (nt ?_)))))))
 refine wc Z hm (fun h1 hm2=>?_) (fun h1 hm4=>?_) <;> clear hm
 ·skip
  refine sr (wa Z (nt (WC.ret (tr ?_))))
  obtain rfl:=(Ae hm2).symm
  refine WK.of (fun w hw=>hw.vecNil (E:=2) (sz:=1) (enc:=Af)) ?_
  refine Ar Z Z (fun w hw=>?_)
  exact⟨(.slice none 0 0,K0),Z,hw.pick [1,0] (by decide),SliceLen.nil⟩
 refine sk (WQ.then (sr (Aa Z ?_)))
 refine(X0 (by decide) Rn (fun b5=>?_))
 refine wm Z (Aa Z ?_)
 refine EV.of (fun w hw=>hw.blkVec Af ([]:List Int) Z Bf (nl Z)) ?_
 obtain⟨c6,hm7⟩:=cs hm4;clear hm4
 refine(Bx (enc:=Af) (xs:=[]) (ys:=s) (([]++s)) 0 (by decide) Wa Z Z Z Z Z (Ah 1 Z hk h_s) Bf (Cz _) Z c6.1 c6.2 (fun u8 hu9=>?_))
 refine wa Z (nt (WC.ret ?_))
 obtain rfl:=(Ae hm7).symm
 refine Ar Z Z (fun w hw=>?_)
 exact⟨(u8,K0),Z,hw.pick [1,0] (by decide),hu9⟩
theorem Ago {v_s:Value}{s r:List Int}{K0:World} (hm:Te s=some r) (h_s:Arr K0 v_s 1 (s.map Af)) (M:Nat→Prop) (w:World) (hk:Base M K0 w) (hw0:Own M w [] w):Calls Try.prog 57 #[v_s] w (fun e w'=>∃ X:Value×World,e=.returned (X.1)∧Own M w (kn M w.heap.size K0 X.2::[vec X.1 2 1 (r.map Af)]) w'∧SliceLen X.1 (r).length):=by
  obtain⟨h1,h2⟩:=Abf hm
  obtain rfl:=Ae h2
  refine slClw ?_ h_s M w hk hw0
  unfold Air
  cases hn:Wn v_s with
  | true =>
    have:=Ae3 h_s.lenMap hn
    rw[List.length_eq_zero_iff.1 this];rfl
  | false=>simp[br,Ao h1]
end Go.Proofs.Ytaimbkndebaaiac
end
section
namespace Go.Proofs.Ytaimbkndebaaiac
open Go.Rd
open TNum TLoop TStable TMach TMach2 TKern TClone
namespace TNbr
end TNbr
open TNbr
theorem T5 {v_a v_b:Value}{a b:List Int}{r:Bool} (w:World) (hm:Hj a b=some r) (h_a:Arr w v_a 1 (a.map Af)) (h_b:Arr w v_b 1 (b.map Af)):Calls Try.prog 12 #[v_a,v_b] w (fun e w'=>e=.returned (.bool r)∧Grow w w'):=by
 unfold Hj at hm
 have hk:=Base.rfl (w:=w)
 refine Ak (n:=26) (args:=[v_a,v_b]) Try.func12 Z Z (nl Z) ?_ (An hk (Own.start w))
 refine sr (wa Z (nt (WC.seq (sr (wm Z (wq Z (Ay Try.underlying33 Z Z h_a.lenMap) (wm Z (wq Z (Ay Try.underlying33 Z Z h_b.lenMap) (wq Z (QV.neq Z Z Z Z) (nt ?_))))))))))
 refine wc Z hm (fun h1 hm2=>?_) (fun h1 hm3=>?_) <;> clear hm
 ·skip
  refine sr (wa Z (nt (WC.ret (tr ?_))))
  obtain rfl:=(Ae hm2).symm
  exact Ar Z Z fun w hw=>kg hw
 refine sk (WQ.then (WC.seq (sr (wa Z (nt ?_)))))
 obtain⟨o4,ho5,hm6⟩:=Ag hm3;clear hm3;obtain⟨n7,ho8⟩:=A0 ho5
 refine Ci (H2:=[kn noM w.heap.size w w]) (τ:=[u_ 0 _,u_ 1 _]) (fun (i5_1:Int)=>[(5,(true,i_ i5_1))]) (fun i5_1=>[]) (fun i5_1 m=>B3 (Gt a b) m i5_1=some o4) (fun i5_1=>o4=.go i5_1) 0 n7 ho8 ⟨Z,Z,Z,trivial⟩ (pk [0]) ?_ ?_
 ·skip
  rintro i5_1 rfl
  refine WQ.then (sr (wa Z (nt (WC.ret ?_))))
  obtain rfl:=(Ae hm6).symm
  exact Ar Z Z fun w hw=>kg hw
 rintro i5_1 m9 hI10
 obtain⟨m11,s12,rfl,hm13,hn14⟩:=Ap hI10;clear hI10;unfold Gt at hm13
 refine WC.seq (sr (wm Z (wm Z (wq Z (Ay Try.underlying33 Z Z h_a.lenMap) (wq Z (QV.lss Z Z Z Z) (nt ?_))))))
 refine wc Z hm13 (fun h15 hm16=>?_) (fun h15 hm30=>?_) <;> clear hm13
 ·skip
  refine sk (WQ.then (WC.seq (WC.block (WC.seq (B9 (m:=9) (by kernel_rfl) (by kernel_rfl) (fun w hw=>hw) (zm 0 Z Z (zm 1 Z Z ?_)))))))
  obtain⟨c17,hm18⟩:=cs hm16;clear hm16
  obtain⟨p19,hp20⟩:=h_a.lenMap.ix (sz:=1) Au c17
  refine wz 2 Z Z (Ad Rh Z Z Z Z hp20) (zl 3 pl2 Z Z (fun w hw=>CellsAt.one 0 (((Ah 0 Z hk h_a) w hw).ele hp20 c17) Z) (zm 4 Z Z (zm 5 Z Z ?_)))
  obtain⟨c21,hm22⟩:=cs hm18;clear hm18
  obtain⟨p23,hp24⟩:=h_b.lenMap.ix (sz:=1) Au c21
  refine wz 6 Z Z (Ad Rh Z Z Z Z hp24) (zl 7 pl2 Z Z (fun w hw=>CellsAt.one 0 (((Ah 0 Z hk h_b) w hw).ele hp24 c21) Z) (wz 8 Z Z (QV.neq Z Z Z Z) ?_))
  refine WD.e (by kernel_rfl) ?_
  refine WQ.then ?_
  refine wc Z hm22 (fun h25 hm26=>?_) (fun h25 hm27=>?_) <;> clear hm22
  ·skip
   refine sr (wa Z (nt (WC.ret (kr (tr (tr (kr (tr (tr ?_)))))))))
   obtain rfl:=Cy hm26 hn14
   obtain rfl:=(Ae hm6).symm
   exact Ar Z Z fun w hw=>kg hw
  refine sk (WQ.block (WQ.then (WC.region (wm Z ?_))))
  obtain⟨c28,hm29⟩:=cs hm27;clear hm27
  refine wq Z (QV.add Z Z Z Z c28) (wa Z (WL.nil ?_))
  exact Ch (i5_1+1) m11 (Ax hm29 hn14) (Nat.lt_succ_self _) ⟨Z,Z,Z,trivial⟩ (pk [0])
 refine WC.exit (te (te (Ai ?_)))
 exact C7 i5_1 (A6 hm30 hn14) ⟨Z,Z,Z,trivial⟩ (pk [0])
end Go.Proofs.Ytaimbkndebaaiac
end
section
namespace Go.Proofs.Ytaimbkndebaaiac
open Go.Rd
open TNum TLoop TStable TMach TMach2 TKern TClone TNbr
namespace TSeq
theorem ag50:N4 Try.prog 50 2:=⟨_,Try.underlying50,rfl,by kernel_rfl⟩
theorem Alw:N4 Try.prog 59 2:=⟨_,Try.underlying59,rfl,by kernel_rfl⟩
theorem en12:Go.Rd.Enters Try.prog 12:=eT Try.func12
theorem en52:Go.Rd.Enters Try.prog 52:=eT Try.func52
theorem en53:Go.Rd.Enters Try.prog 53:=eT Try.func53
theorem en54:Go.Rd.Enters Try.prog 54:=eT Try.func54
theorem en57:Go.Rd.Enters Try.prog 57:=eT Try.func57
theorem en85:Go.Rd.Enters Try.prog 85:=eT Try.func85
theorem Aba:Bw Try.prog 107 0 0:=fT 2 Try.underlying107
theorem Qy:Bw Try.prog 107 1 3:=fT 0 Try.underlying107
theorem Aa9:Bw Try.prog 107 2 4:=fT 0 Try.underlying107
theorem Aef:Bw Try.prog 59 0 0:=fT 0 Try.underlying59
theorem sz32:C8 Try.prog 32 1:=by unfold C8;kernel_rfl
theorem sz33:C8 Try.prog 33 1:=by unfold C8;kernel_rfl
theorem Aii:C8 Try.prog 59 2:=by unfold C8;kernel_rfl
theorem Aiq:L6 Try.prog 32 33 1 [.slice none 0 0]:=⟨Try.underlying32,by kernel_rfl⟩
theorem ve32:Rl Try.prog 32 33 1 24:=⟨Try.underlying32,by kernel_rfl,by decide⟩
theorem ze59:ZeroT Try.prog 59 [.slice none 0 0,.slice none 0 0]:=by unfold ZeroT;kernel_rfl
end TSeq
open TSeq
theorem Xl {v_l:Value}{l r:List (List Int)}{K0:World} (hm:Li l=some r) (h_l:RowsA K0 v_l l) (M:Nat→Prop) (w:World) (hk:Base M K0 w) (hw0:Own M w [] w):Calls Try.prog 53 #[v_l] w (fun e w'=>∃ X:Value×(List Value)×World,e=.returned (X.1)∧Own M w (kn M w.heap.size K0 X.2.2::[Bv X.1 X.2.1 33 2 r]) w'∧SliceLen X.1 (r).length∧GL X.2.1 r):=by
 unfold Li at hm
 refine Ak (n:=19) (args:=[v_l]) Try.func53 Z Z (nl Z) ?_ (An hk hw0)
 refine sr (wa Z (ns (wa Z (nt (WC.seq (sr (wm Z (wq Z (Ay Try.underlying32 Z Z h_l.slen) (wm Z (nt ?_))))))))))
 refine WK.of (fun w hw=>hw.gridNil (E1:=33) (E2:=2)) ?_
 obtain⟨o2,ho3,hm4⟩:=Ag hm;clear hm;obtain⟨n5,ho6⟩:=A0 ho3
 refine Ra (H2:=[]) (τ:=[u_ 6 _,u_ 7 _]) (fun (v1_1:List (List Int)) (x8_1:Int) (uv1_1:Value) (hsv1_1:List Value) (k_1:World)=>[(3,(true,uv1_1)),(8,(true,i_ x8_1))]) (fun v1_1 x8_1 uv1_1 hsv1_1 k_1=>[Bv uv1_1 hsv1_1 33 2 v1_1,kn M w.heap.size K0 k_1]) (fun v1_1 x8_1 uv1_1 hsv1_1 k_1 m=>B3 (Kc l) m (v1_1,x8_1)=some o2∧SliceLen uv1_1 v1_1.length∧GL hsv1_1 v1_1∧Le K0 k_1) (fun v1_1 x8_1 uv1_1 hsv1_1 k_1=>o2=.go (v1_1,x8_1)∧SliceLen uv1_1 v1_1.length∧GL hsv1_1 v1_1∧Le K0 k_1) [] 0 H4 [] K0 n5 ⟨ho6,SliceLen.nil,GL.nil,(Le.refl _)⟩ ⟨Z,Z,Z,Z,trivial⟩ (pk [0,1]) ?_ ?_
 ·skip
  rintro v1_1 x8_1 uv1_1 hsv1_1 k_1 ⟨rfl,hlv1_1,hgv1_1,hle_1⟩
  refine WQ.then (sr (wm Z (wa Z (nt (WC.ret ?_)))))
  obtain rfl:=(Ae hm4).symm
  refine Ar Z Z (fun w hw=>?_)
  exact⟨(uv1_1,hsv1_1,k_1),Z,hw.pick [1,0] (by decide),hlv1_1,hgv1_1⟩
 rintro v1_1 x8_1 uv1_1 hsv1_1 k_1 m7 ⟨hI8,hlv1_1,hgv1_1,hle_1⟩
 obtain⟨m9,s10,rfl,hm11,hn12⟩:=Ap hI8;clear hI8;unfold Kc at hm11;simp only at hm11
 refine sr (wq Z (QV.lss Z Z Z Z) (nt (WC.seq ?_)))
 refine wc Z hm11 (fun h13 hm14=>?_) (fun h13 hm35=>?_) <;> clear hm11
 ·skip
  refine sk (WQ.then (WC.seq (WC.block (sr ?_))))
  obtain⟨c15,hm16⟩:=cs hm14;clear hm14
  obtain⟨p17,u19,hp18,hc20,hA21⟩:=(h_l.le hle_1).ix c15
  refine wq Z (Ad Ri Z Z Z Z hp18) (wl Nc Z (fun w hw=>CellsAt.one 0 ((Am 1 Z hk hc20) w hw) Z) (wa Z (nr (wm Z (wm Z (Aa Z ?_))))))
  obtain⟨x22,hx23,hm24⟩:=Ag hm16;clear hm16
  refine EV.of (C':=Own M w [kn M w.heap.size K0 k_1,Bv uv1_1 hsv1_1 33 2 v1_1]) (pk [1,0]) ?_
  refine(A4 (X:=Value×World) (R:=[]) (fun X=>X.1) (fun X=>[vec X.1 2 1 (List.map Af x22)]) (fun X=>X.2) (fun X=>SliceLen X.1 (x22).length) hk (fun _ h=>by cases h;decide) en57 (ec Z eN) (fun M w h1 h2=>have h:=Ago hx23 hA21 M w h1 h2;h) (fun X25 hF25 hle25=>?_))
  refine Aa Z ?_
  refine(EV.buildSlice (by decide) Aiq (by decide) (by decide) (ps:=[(0,.tmp 14)]) (cells:=[X25.1]) (ec Z eN) (Aa6 hF25) (fun b27=>?_))
  refine Aa Z ?_
  obtain⟨c28,c33,hm34⟩:=cs2 hm24;clear hm24
  refine EV.of (C':=Own M w [Bv uv1_1 hsv1_1 33 2 v1_1,vec X25.1 2 1 (List.map Af x22),blk b27 [X25.1] 33,kn M w.heap.size K0 X25.2]) (pk [3,2,0,1]) ?_
  refine(Afg (by decide) ve32 Z Z Z Z hF25 (Bj 2 (rows:=[[X25.1]]) Z Z (Akd)) c28 hgv1_1 (fun u30 hu31=>?_))
  have hg32:=hgv1_1.snoc hF25
  refine wa Z (WL.nil (WQ.block (WQ.then (WC.region (wq Z (QV.add Z Z Z Z c33) (wm Z (WL.nil ?_)))))))
  exact Q9 (v1_1++[x22]) (x8_1+1) u30 (hsv1_1++[X25.1]) X25.2 m9 ⟨Ax hm34 hn12,hu31,hg32,(hle_1.trans hle25)⟩ (Nat.lt_succ_self _) ⟨Z,Z,Z,Z,trivial⟩ (pk [0,2])
 refine WC.exit (te (te (Ai ?_)))
 exact V7 v1_1 x8_1 uv1_1 hsv1_1 k_1 ⟨A6 hm35 hn12,hlv1_1,hgv1_1,hle_1⟩ ⟨Z,Z,Z,Z,trivial⟩ (pk [0,1])
theorem Lo {p_r:Addr}{v_r_Loop_Logs v_r_Loop_Body v_r_Loop_Outs v_r_past v_r_memory v_now:Value}{r_past:List (List Int)}{x:Rf}{now:List Int}{r:Int} (w:World) (hm:De r_past x now=some r) (h_r_past:RowsA w v_r_past r_past) (hp_r:CellsAt w p_r [v_r_Loop_Logs,v_r_Loop_Body,v_r_Loop_Outs,v_r_past,v_r_memory] 0) (h_now:Arr w v_now 1 (now.map Af)):Calls Try.prog 85 #[.pointer (some p_r),.agg #[.int .i64 x.st,.int .i64 x.bk],v_now] w (fun e w'=>e=.returned (.int .i64 r)∧Grow w w'):=by
 unfold De at hm
 have hk:=Base.rfl (w:=w)
 refine Ak (n:=28) (args:=[.pointer (some p_r),.agg #[i_ x.st,i_ x.bk],v_now]) Try.func85 Z Z (nl Z) ?_ (An hk (Own.start w))
 refine sr (Aa Z ?_)
 refine(Aq (by decide) Z Z (fun b1=>?_))
 refine wa Z (nt (WC.seq (sr (wf Mv Z (wl pl3 Z (Own.cell 0 Z Z) (wq Z (QV.eql Z Z Z Z) (nt ?_)))))))
 refine wc Z hm (fun h2 hm3=>?_) (fun h2 hm8=>?_) <;> clear hm
 ·skip
  refine sr (wm Z (wf Mw Z (wl pl3 Z (Own.cell 0 Z Z) ?_)))
  obtain⟨c4,hm5⟩:=cs hm3;clear hm3
  obtain⟨p6,hp7⟩:=h_now.lenMap.ix (sz:=1) Au c4
  refine wq Z (Ad Rh Z Z Z Z hp7) (wl pl2 Z (fun w hw=>CellsAt.one 0 (((Ah 1 Z hk h_now) w hw).ele hp7 c4) Z) (wa Z (nt (WC.ret (tr ?_)))))
  obtain rfl:=(Ae hm5).symm
  exact Ar Z Z fun w hw=>kg hw
 refine sk (WQ.then (WC.seq (B9 (m:=14) (S:=Own noM w [kn noM w.heap.size w w,blk b1 [i_ x.st,i_ x.bk] 79]) (by kernel_rfl) (by kernel_rfl) (pk [1,0]) (zm 0 Z Z (wz 1 Z Z (QV.nilCheck Z Z) (zf 2 Qy Z Z (zl 3 N1 Z Z (fun w hw=>CellsAt.one 3 ((Am 0 Z hk hp_r) w hw) Z) (zf 4 Mv Z Z (zl 5 pl3 Z Z (Own.cell 1 Z Z) ?_)))))))))
 obtain⟨c9,c11,hm12⟩:=cs2 hm8;clear hm8
 refine wz 6 Z Z (QV.sub Z Z Z Z c9) ?_
 obtain⟨p13,u15,hp14,hc16,hA17⟩:=h_r_past.ix c11
 refine wz 7 Z Z (Ad Ri Z Z Z Z hp14) (zl 8 Nc Z Z (fun w hw=>CellsAt.one 0 ((Am 0 Z hk hc16) w hw) Z) (zf 9 Mw Z Z (zl 10 pl3 Z Z (Own.cell 1 Z Z) ?_)))
 obtain⟨c18,hm19⟩:=cs hm12;clear hm12
 obtain⟨p20,hp21⟩:=hA17.lenMap.ix (sz:=1) Au c18
 refine wz 11 Z Z (Ad Rh Z Z Z Z hp21) (zl 12 pl2 Z Z (fun w hw=>CellsAt.one 0 (((Ah 0 Z hk hA17) w hw).ele hp21 c18) Z) (wz 13 Z Z (QV.assign Z Z) ?_))
 refine WD.e (by kernel_rfl) ?_
 refine WQ.then (WC.ret ?_)
 obtain rfl:=(Ae hm19).symm
 exact Ar Z Z fun w hw=>kg hw
theorem T6 {v_r_Loop_Logs v_r_Loop_Body v_r_Loop_Outs v_r_past v_r_memory:Value}{hs_r_memory:List Value}{b_r:Nat}{r_Loop_Logs:List Int}{r_Loop_Body:List Stm}{r_Loop_Outs:List Int}{r_past r_memory:List (List Int)}{t:Int}{r:List (List Int)×List (List Int)}{K0:World} (hm:Gj r_Loop_Logs r_Loop_Body r_Loop_Outs r_past r_memory t=some r) (h_r_Loop_Logs:Arr K0 v_r_Loop_Logs 1 (r_Loop_Logs.map Af)) (h_r_Loop_Body:Arr K0 v_r_Loop_Body 9 (r_Loop_Body.map Stm.cells)) (h_r_Loop_Outs:Arr K0 v_r_Loop_Outs 1 (r_Loop_Outs.map Af)) (h_r_past:RowsA K0 v_r_past r_past) (h_r_memory:SliceLen v_r_memory r_memory.length) (hg_r_memory:GL hs_r_memory r_memory) (M:Nat→Prop) (w:World) (hk:Base M K0 w) (hw0:Own M w [blk b_r [v_r_Loop_Logs,v_r_Loop_Body,v_r_Loop_Outs,v_r_past,v_r_memory] 107,Bv v_r_memory hs_r_memory 33 2 r_memory] w):Calls Try.prog 54 #[.pointer (some (⟨b_r,0,none⟩)),.int .i64 t] w (fun e w'=>∃ X:Value×Value×(List Value)×World,e=.returned (.tuple #[])∧Own M w (kn M w.heap.size K0 X.2.2.2::[blk b_r [v_r_Loop_Logs,v_r_Loop_Body,v_r_Loop_Outs,X.1,X.2.1] 107,Bv X.2.1 X.2.2.1 33 2 r.2]) w'∧RowsA X.2.2.2 X.1 r.1∧SliceLen X.2.1 (r.2).length∧GL X.2.2.1 r.2):=by
 unfold Gj at hm
 refine Ak (n:=116) (args:=[.pointer (some (⟨b_r,0,none⟩)),i_ t]) Try.func54 Z Z (nl Z) ?_ (An hk hw0)
 refine sr (wa Z (nt (WC.seq (sr (wm Z (wq Z (QV.nilCheck Z Z) (wf Aba Z (wf Co Z (wl Gv Z (Own.cell 1 Z Z) (wq Z (Ay Try.underlying23 Z Z h_r_Loop_Body.lenMap) (wm Z ?_)))))))))))
 refine nt ?_
 refine WK.of (fun w hw=>hw.vecNil (E:=2) (sz:=1) (enc:=Af)) ?_
 obtain⟨o2,ho3,hm4⟩:=Ag hm;clear hm;obtain⟨n5,ho6⟩:=A0 ho3
 refine I5 (H2:=[kn M w.heap.size K0 K0,blk b_r [v_r_Loop_Logs,v_r_Loop_Body,v_r_Loop_Outs,v_r_past,v_r_memory] 107]) (τ:=[u_ 0 _,u_ 1 _,u_ 12 _,u_ 13 _]) (fun (v1_1:List Int) (own0v4_1:List (List Int)) (x14_1:Int) (uv1_1:Value)=>[(4,(true,uv1_1)),(14,(true,i_ x14_1))]) (fun v1_1 own0v4_1 x14_1 uv1_1=>[vec uv1_1 2 1 (List.map Af v1_1),Bv v_r_memory hs_r_memory 33 2 own0v4_1]) (fun v1_1 own0v4_1 x14_1 uv1_1 m=>B3 (Dq r_Loop_Logs r_Loop_Body r_past t) m (v1_1,own0v4_1,x14_1)=some o2∧SliceLen uv1_1 v1_1.length∧SliceLen v_r_memory own0v4_1.length∧GL hs_r_memory own0v4_1) (fun v1_1 own0v4_1 x14_1 uv1_1=>o2=.go (v1_1,own0v4_1,x14_1)∧SliceLen uv1_1 v1_1.length∧SliceLen v_r_memory own0v4_1.length∧GL hs_r_memory own0v4_1) [] r_memory 0 (.slice none 0 0) n5 ⟨ho6,SliceLen.nil,h_r_memory,hg_r_memory⟩ ⟨Z,Z,Z,Z,Z,Z,trivial⟩ (pk [0,3,1,2]) ?_ ?_
 ·skip
  rintro v1_1 own0v4_1 x14_1 uv1_1 ⟨rfl,hlv1_1,hlown0v4_1,hgown0v4_1⟩
  refine WQ.then (WC.region (wm Z (wm Z (Aa Z ?_))))
  refine(EV.buildSlice (by decide) Aiq (by decide) (by decide) (ps:=[(0,.tmp 106)]) (cells:=[uv1_1]) (ec Z eN) (Aa6 hlv1_1) (fun b7=>?_))
  refine wm Z (wq Z (QV.nilCheck Z Z) (wf Qy Z (wl N1 Z (Own.cell 4 Z Z) ?_)))
  obtain⟨c8,hm9⟩:=cs hm4;clear hm4
  have hA10:=RowsA.sub h_r_past c8
  refine wq Z (Xt Ri Z Z h_r_past.slen Z Z c8) (Aa Z ?_)
  refine EV.of (C':=Own M w [kn M w.heap.size K0 K0,vec uv1_1 2 1 (List.map Af v1_1),blk b7 [uv1_1] 33,Bv v_r_memory hs_r_memory 33 2 own0v4_1,blk b_r [v_r_Loop_Logs,v_r_Loop_Body,v_r_Loop_Outs,v_r_past,v_r_memory] 107]) (pk [3,1,0,2,4]) ?_
  refine EV.freeze hk (fun k11 hle11 hr11=>?_)
  have hA11:=Cf hr11
  refine EV.of (C':=Own M w [blk b7 [uv1_1] 33,kn M w.heap.size K0 k11,Bv v_r_memory hs_r_memory 33 2 own0v4_1,blk b_r [v_r_Loop_Logs,v_r_Loop_Body,v_r_Loop_Outs,v_r_past,v_r_memory] 107]) (pk [1,0,2,3]) ?_
  refine EV.of (fun w hw=>hw.blkVec Jo ([(uv1_1,v1_1)]:List (Value×List Int)) Z Q4 (nl Z)) ?_
  have hR12:RowsK k11 ([(uv1_1,v1_1)]:List (Value×List Int)):=(RowsK.cons hA11 RowsK.nil)
  obtain⟨B13,hB13,hY13,hR13⟩:=(hA10.le hle11)
  obtain⟨c14,hm15⟩:=cs hm9;clear hm9
  have hR18:RowsK k11 (([(uv1_1,v1_1)]:List (Value×List Int))++B13):=RowsK.append hR12 hR13
  have hB19:((([(uv1_1,v1_1)]:List (Value×List Int))++B13):List (Value×List Int)).map (·.2)=(([v1_1]:List (List Int))++(sub r_past 0 2)):=Ahc rfl hB13
  refine(Bx (enc:=Jo) (xs:=([(uv1_1,v1_1)]:List (Value×List Int))) (ys:=B13) (([(uv1_1,v1_1)]:List (Value×List Int))++B13) 0 (by decide) ve32 Z Z Z Z Z (Ah 1 Z hk hY13) Q4 (Aha hR13) Z (AL.b1 hB19 c14) (AL.b2 hB19 c14) (fun u16 hu17=>?_))
  have hl20:=Acp hB19 hu17
  refine wq Z (QV.nilCheck Z Z) (wf Qy Z (Aa Z ?_))
  refine(EV.store 3 Z Z Z Z Z Z (vs:=[u16]) (SliceLen.cells hl20) sz32 (nl Z) (oc (SliceLen.one hl20) Aw) ?_)
  refine WL.nil ?_
  obtain rfl:=(Ae hm15).symm
  refine WK.of (C':=Own M w [kn M w.heap.size K0 k11,vec u16 33 1 (List.map Jo (([(uv1_1,v1_1)]:List (Value×List Int))++B13)),Bv v_r_memory hs_r_memory 33 2 own0v4_1,blk b_r [v_r_Loop_Logs,v_r_Loop_Body,v_r_Loop_Outs,u16,v_r_memory] 107]) (pk [1,0,2,3]) ?_
  refine WK.freeze hk (fun k21 hle21 hr21=>?_)
  have hA21:RowsA k21 u16 (([v1_1]:List (List Int))++(sub r_past 0 2)):=⟨(([(uv1_1,v1_1)]:List (Value×List Int))++B13),hB19,Cf hr21,(hR18.le hle21)⟩
  refine F6 Z (fun w hw=>?_)
  exact⟨(u16,v_r_memory,hs_r_memory,k21),Z,hw.pick [0,2,1] (by decide),hA21,hlown0v4_1,hgown0v4_1⟩
 rintro v1_1 own0v4_1 x14_1 uv1_1 m22 ⟨hI23,hlv1_1,hlown0v4_1,hgown0v4_1⟩
 obtain⟨m24,s25,rfl,hm26,hn27⟩:=Ap hI23;clear hI23;unfold Dq at hm26;simp only at hm26
 refine sr (wq Z (QV.lss Z Z Z Z) (nt (WC.seq ?_)))
 refine wc Z hm26 (fun h28 hm29=>?_) (fun h28 hm128=>?_) <;> clear hm26
 ·skip
  refine sk (WQ.then (WC.seq (WC.block (sr ?_))))
  obtain⟨c30,hm31⟩:=cs hm29;clear hm29
  obtain⟨p32,hp33⟩:=h_r_Loop_Body.lenMap.ix (sz:=9) Au c30
  refine wq Z (Ad Pp Z Z Z Z hp33) (wq Z (Ac Kk Z Z Z (fun w hw=>((Ah 2 Z hk h_r_Loop_Body) w hw).ele hp33 c30)) (Aa Z ?_))
  refine(EV.alloc (by decide) Nz (fun b34=>?_))
  refine Aa Z ?_
  refine(EV.store 0 Z Z Z Z Z Z (vs:=(Stm.cells (ele r_Loop_Body x14_1))) (show Value.cells _=List.toArray _ from Z) N0 (nl Z) (oc Z (oc Z (oc Z (oc Z (oc Z (oc Z (oc Z (oc Z (oc Z Aw))))))))) ?_)
  refine ns (wa Z (nt (WC.seq (sr (wf F2 Z (wl pl3 Z (Own.cell 0 Z Z) (nt (WC.block (sr (wq Z (QV.eql Z Z Z Z) (wa Z (nt ?_))))))))))))
  refine wc Z hm31 (fun h35 hm36=>?_) (fun h35 hm44=>?_) <;> clear hm31
  ·skip
   refine WC.region (wf Aee Z (wl pl2 Z (Own.cell 0 Z Z) (wa Z (WL.nil (WQ.block (WQ.then (WC.region (wm Z (wm Z (Aa Z ?_))))))))))
   refine(EV.buildSlice (by decide) Rn (by decide) (by decide) (ps:=[(0,.tmp 101)]) (cells:=[i_ ((ele r_Loop_Body x14_1).n)]) (ec Z eN) (by kernel_rfl) (fun b37=>?_))
   refine Aa Z ?_
   obtain⟨c38,c42,hm43⟩:=cs2 hm36;clear hm36
   refine(Bx (enc:=Af) (xs:=v1_1) (ys:=[(ele r_Loop_Body x14_1).n]) ((v1_1++[(ele r_Loop_Body x14_1).n])) 2 (by decide) Wa Z Z Z Z Z (Bj 0 (rows:=[(ele r_Loop_Body x14_1).n].map Af) Z Z (B5 Bf)) Bf (Cz _) Z c38.1 c38.2 (fun u40 hu41=>?_))
   refine wa Z (WL.nil (WQ.block (WQ.then (WC.region (wq Z (QV.add Z Z Z Z c42) (wm Z (WL.nil ?_)))))))
   exact Ev (v1_1++[(ele r_Loop_Body x14_1).n]) own0v4_1 (x14_1+1) u40 m24 ⟨Ax hm43 hn27,hu41,hlown0v4_1,hgown0v4_1⟩ (Nat.lt_succ_self _) ⟨Z,Z,Z,Z,Z,Z,trivial⟩ (pk [2,3,4,5])
  refine sr (wq Z (QV.eql Z Z Z Z) (wa Z (nt ?_)))
  refine wc Z hm44 (fun h45 hm46=>?_) (fun h45 hm54=>?_) <;> clear hm44
  ·skip
   refine WC.region (wm Z (wa Z (WL.nil (WQ.block (WQ.then (WC.region (wm Z (wm Z (Aa Z ?_)))))))))
   refine(EV.buildSlice (by decide) Rn (by decide) (by decide) (ps:=[(0,.tmp 101)]) (cells:=[i_ t]) (ec Z eN) (by kernel_rfl) (fun b47=>?_))
   refine Aa Z ?_
   obtain⟨c48,c52,hm53⟩:=cs2 hm46;clear hm46
   refine(Bx (enc:=Af) (xs:=v1_1) (ys:=[t]) ((v1_1++[t])) 2 (by decide) Wa Z Z Z Z Z (Bj 0 (rows:=[t].map Af) Z Z (B5 Bf)) Bf (Cz _) Z c48.1 c48.2 (fun u50 hu51=>?_))
   refine wa Z (WL.nil (WQ.block (WQ.then (WC.region (wq Z (QV.add Z Z Z Z c52) (wm Z (WL.nil ?_)))))))
   exact Ev (v1_1++[t]) own0v4_1 (x14_1+1) u50 m24 ⟨Ax hm53 hn27,hu51,hlown0v4_1,hgown0v4_1⟩ (Nat.lt_succ_self _) ⟨Z,Z,Z,Z,Z,Z,trivial⟩ (pk [2,3,4,5])
  refine sr (wq Z (QV.eql Z Z Z Z) (wa Z (nt ?_)))
  refine wc Z hm54 (fun h55 hm56=>?_) (fun h55 hm79=>?_) <;> clear hm54
  ·skip
   refine B9 (m:=26) (S:=Own M w [kn M w.heap.size K0 K0,blk b34 (Stm.cells (ele r_Loop_Body x14_1)) 81,vec uv1_1 2 1 (List.map Af v1_1),Bv v_r_memory hs_r_memory 33 2 own0v4_1,blk b_r [v_r_Loop_Logs,v_r_Loop_Body,v_r_Loop_Outs,v_r_past,v_r_memory] 107]) (by kernel_rfl) (by kernel_rfl) (pk [3,0,1,2,4]) (zm 0 Z Z (wz 1 Z Z (QV.nilCheck Z Z) (zf 2 Aa9 Z Z (zl 3 N1 Z Z (Own.cell 4 Z Z) (zf 4 Nv Z Z (zl 5 pl3 Z Z (Own.cell 1 Z Z) ?_))))))
   obtain⟨c57,hm58⟩:=cs hm56;clear hm56
   obtain⟨p59,hp60⟩:=hlown0v4_1.ix (sz:=1) Au c57
   refine wz 6 Z Z (Ad Ri Z Z Z Z hp60) (zl 7 Nc Z Z (Di 3 Z hp60 c57) (zf 8 Sc Z Z (zl 9 pl3 Z Z (Own.cell 1 Z Z) (zf 10 Sb Z Z (zl 11 pl3 Z Z (Own.cell 1 Z Z) (zm 12 Z Z (zm 13 Z Z (wz 14 Z Z (QV.nilCheck Z Z) (zf 15 Aba Z Z ?_)))))))))
   refine zf 16 O1 Z Z (zl 17 Du Z Z (Own.cell 4 Z Z) (zf 18 Nv Z Z (zl 19 pl3 Z Z (Own.cell 1 Z Z) ?_)))
   obtain⟨c61,hm62⟩:=cs hm58;clear hm58
   obtain⟨p63,hp64⟩:=h_r_Loop_Logs.lenMap.ix (sz:=1) Au c61
   refine wz 20 Z Z (Ad Ei Z Z Z Z hp64) (zl 21 pl3 Z Z (fun w hw=>CellsAt.one 0 (((Ah 0 Z hk h_r_Loop_Logs) w hw).ele hp64 c61) Z) ?_)
   obtain⟨x65,hx66,hm67⟩:=Ag hm62;clear hm62
   refine wz 22 Z Z (QV.call en84 (ec Z (ec Z (ec Z (ec Z eN)))) (fun w hw=>have h:=Qm w hx66 ;h)) ?_
   obtain⟨c68,hm69⟩:=cs hm67;clear hm67
   obtain⟨p70,hp71⟩:=(hgown0v4_1.ix ((ele r_Loop_Body x14_1).ar)).ix (sz:=1) Au c68
   refine wz 23 Z Z (Ad Rh Z Z Z Z hp71) (zl 24 pl2 Z Z (fun w hw=>CellsAt.one 0 (((Gb 3 Z c57) w hw).ele hp71 c68) Z) (wz 25 Z Z (QV.assign Z Z) ?_))
   refine WD.e (by kernel_rfl) ?_
   refine WQ.block (WQ.then (WC.region (wm Z (wm Z (Aa Z ?_)))))
   refine(EV.buildSlice (by decide) Rn (by decide) (by decide) (ps:=[(0,.tmp 101)]) (cells:=[i_ (ele (ele own0v4_1 ((ele r_Loop_Body x14_1).ar)) x65)]) (ec Z eN) (by kernel_rfl) (fun b72=>?_))
   refine Aa Z ?_
   obtain⟨c73,c77,hm78⟩:=cs2 hm69;clear hm69
   refine(Bx (enc:=Af) (xs:=v1_1) (ys:=[(ele (ele own0v4_1 ((ele r_Loop_Body x14_1).ar)) x65)]) ((v1_1++[(ele (ele own0v4_1 ((ele r_Loop_Body x14_1).ar)) x65)])) 2 (by decide) Wa Z Z Z Z Z (Bj 0 (rows:=[(ele (ele own0v4_1 ((ele r_Loop_Body x14_1).ar)) x65)].map Af) Z Z (B5 Bf)) Bf (Cz _) Z c73.1 c73.2 (fun u75 hu76=>?_))
   refine wa Z (WL.nil (WQ.block (WQ.then (WC.region (wq Z (QV.add Z Z Z Z c77) (wm Z (WL.nil ?_)))))))
   exact Ev (v1_1++[(ele (ele own0v4_1 ((ele r_Loop_Body x14_1).ar)) x65)]) own0v4_1 (x14_1+1) u75 m24 ⟨Ax hm78 hn27,hu76,hlown0v4_1,hgown0v4_1⟩ (Nat.lt_succ_self _) ⟨Z,Z,Z,Z,Z,Z,trivial⟩ (pk [2,3,4,5])
  refine sr (wq Z (QV.eql Z Z Z Z) (wa Z (nt ?_)))
  refine wc Z hm79 (fun h80 hm81=>?_) (fun h80 hm109=>?_) <;> clear hm79
  ·skip
   refine sr (wm Z (wf O0 Z (wq Z (Ac K6 Z Z Z (fun w hw=>(Ab 0 Z w hw).sub 1 2 Z)) (wm Z ?_))))
   obtain⟨x82,hx83,hm84⟩:=Ag hm81;clear hm81
   refine wq Z (QV.call en85 (ec Z (ec Z (ec Z eN))) (fun w hw=>have h:=Lo w hx83 (Gz 3 Z hk h_r_past w hw) (Ab 4 Z w hw) ((C1 1 Z) w hw);h)) (wa Z (nt (B9 (m:=26) (S:=Own M w [kn M w.heap.size K0 K0,blk b34 (Stm.cells (ele r_Loop_Body x14_1)) 81,vec uv1_1 2 1 (List.map Af v1_1),Bv v_r_memory hs_r_memory 33 2 own0v4_1,blk b_r [v_r_Loop_Logs,v_r_Loop_Body,v_r_Loop_Outs,v_r_past,v_r_memory] 107]) (by kernel_rfl) (by kernel_rfl) (pk [3,0,1,2,4]) (zm 0 Z Z (wz 1 Z Z (QV.nilCheck Z Z) (zf 2 Aa9 Z Z (zl 3 N1 Z Z (Own.cell 4 Z Z) (zf 4 Nv Z Z (zl 5 pl3 Z Z (Own.cell 1 Z Z) ?_)))))))))
   obtain⟨c85,hm86⟩:=cs hm84;clear hm84
   obtain⟨p87,hp88⟩:=hlown0v4_1.ix (sz:=1) Au c85
   refine wz 6 Z Z (Ad Ri Z Z Z Z hp88) (zl 7 Nc Z Z (Di 3 Z hp88 c85) (zf 8 Sc Z Z (zl 9 pl3 Z Z (Own.cell 1 Z Z) (zf 10 Sb Z Z (zl 11 pl3 Z Z (Own.cell 1 Z Z) (zm 12 Z Z (zm 13 Z Z (wz 14 Z Z (QV.nilCheck Z Z) (zf 15 Aba Z Z ?_)))))))))
   refine zf 16 O1 Z Z (zl 17 Du Z Z (Own.cell 4 Z Z) (zf 18 Nv Z Z (zl 19 pl3 Z Z (Own.cell 1 Z Z) ?_)))
   obtain⟨c89,hm90⟩:=cs hm86;clear hm86
   obtain⟨p91,hp92⟩:=h_r_Loop_Logs.lenMap.ix (sz:=1) Au c89
   refine wz 20 Z Z (Ad Ei Z Z Z Z hp92) (zl 21 pl3 Z Z (fun w hw=>CellsAt.one 0 (((Ah 0 Z hk h_r_Loop_Logs) w hw).ele hp92 c89) Z) ?_)
   obtain⟨x93,hx94,hm95⟩:=Ag hm90;clear hm90
   refine wz 22 Z Z (QV.call en84 (ec Z (ec Z (ec Z (ec Z eN)))) (fun w hw=>have h:=Qm w hx94 ;h)) (zm 23 Z Z ?_)
   obtain⟨c96,hm97⟩:=cs hm95;clear hm95
   obtain⟨p98,hp99⟩:=(hgown0v4_1.ix ((ele r_Loop_Body x14_1).ar)).ix (sz:=1) Au c96
   refine wz 24 Z Z (Ad Rh Z Z Z Z hp99) ?_
   refine WD.l 25 Z (by kernel_rfl) Z ?_
   refine(Ou 2 x82 Z Z Z Z Z c85 hp99 sz2 ?_)
   have hg101:=hgown0v4_1.updG ((ele r_Loop_Body x14_1).ar) x93 x82
   have hl100:SliceLen v_r_memory (updG own0v4_1 ((ele r_Loop_Body x14_1).ar) x93 x82).length:=Og hlown0v4_1
   refine WQ.block (WQ.then (WC.region (wm Z (wm Z (Aa Z ?_)))))
   refine(EV.buildSlice (by decide) Rn (by decide) (by decide) (ps:=[(0,.tmp 101)]) (cells:=[i_ x82]) (ec Z eN) (by kernel_rfl) (fun b102=>?_))
   refine Aa Z ?_
   obtain⟨c103,c107,hm108⟩:=cs2 hm97;clear hm97
   refine(Bx (enc:=Af) (xs:=v1_1) (ys:=[x82]) ((v1_1++[x82])) 2 (by decide) Wa Z Z Z Z Z (Bj 0 (rows:=[x82].map Af) Z Z (B5 Bf)) Bf (Cz _) Z c103.1 c103.2 (fun u105 hu106=>?_))
   refine wa Z (WL.nil (WQ.block (WQ.then (WC.region (wq Z (QV.add Z Z Z Z c107) (wm Z (WL.nil ?_)))))))
   exact Ev (v1_1++[x82]) (updG own0v4_1 ((ele r_Loop_Body x14_1).ar) x93 x82) (x14_1+1) u105 m24 ⟨Ax hm108 hn27,hu106,hl100,hg101⟩ (Nat.lt_succ_self _) ⟨Z,Z,Z,Z,Z,Z,trivial⟩ (pk [2,3,4,5])
  refine B9 (m:=15) (S:=Own M w [kn M w.heap.size K0 K0,blk b34 (Stm.cells (ele r_Loop_Body x14_1)) 81,vec uv1_1 2 1 (List.map Af v1_1),Bv v_r_memory hs_r_memory 33 2 own0v4_1,blk b_r [v_r_Loop_Logs,v_r_Loop_Body,v_r_Loop_Outs,v_r_past,v_r_memory] 107]) (by kernel_rfl) (by kernel_rfl) (pk [3,0,1,2,4]) (zf 0 F2 Z Z (zl 1 pl3 Z Z (Own.cell 1 Z Z) ?_))
  obtain⟨c110,hm111⟩:=cs hm109;clear hm109
  refine wz 2 Z Z (QV.sub Z Z Z Z c110) (zm 3 Z Z (zf 4 O0 Z Z (wz 5 Z Z (Ac K6 Z Z Z (fun w hw=>(Ab 1 Z w hw).sub 1 2 Z)) (zm 6 Z Z ?_))))
  obtain⟨x112,hx113,hm114⟩:=Ag hm111;clear hm111
  refine wz 7 Z Z (QV.call en85 (ec Z (ec Z (ec Z eN))) (fun w hw=>have h:=Lo w hx113 (Gz 0 Z hk h_r_past w hw) (Ab 4 Z w hw) ((C1 2 Z) w hw);h)) (zm 8 Z Z (zf 9 Pz Z Z (wz 10 Z Z (Ac K6 Z Z Z (fun w hw=>(Ab 1 Z w hw).sub 3 2 Z)) (zm 11 Z Z ?_))))
  obtain⟨x115,hx116,hm117⟩:=Ag hm114;clear hm114
  refine wz 12 Z Z (QV.call en85 (ec Z (ec Z (ec Z eN))) (fun w hw=>have h:=Lo w hx116 (Gz 0 Z hk h_r_past w hw) (Ab 4 Z w hw) ((C1 2 Z) w hw);h)) ?_
  obtain⟨x118,hx119,hm120⟩:=Ag hm117;clear hm117
  refine wz 13 Z Z (QV.call en86 (ec Z (ec Z (ec Z eN))) (fun w hw=>have h:=Acx w hx119 ;h)) (wz 14 Z Z (QV.assign Z Z) ?_)
  refine WD.e (by kernel_rfl) ?_
  refine WQ.block (WQ.then (WC.region (wm Z (wm Z (Aa Z ?_)))))
  refine(EV.buildSlice (by decide) Rn (by decide) (by decide) (ps:=[(0,.tmp 101)]) (cells:=[i_ x118]) (ec Z eN) (by kernel_rfl) (fun b121=>?_))
  refine Aa Z ?_
  obtain⟨c122,c126,hm127⟩:=cs2 hm120;clear hm120
  refine(Bx (enc:=Af) (xs:=v1_1) (ys:=[x118]) ((v1_1++[x118])) 2 (by decide) Wa Z Z Z Z Z (Bj 0 (rows:=[x118].map Af) Z Z (B5 Bf)) Bf (Cz _) Z c122.1 c122.2 (fun u124 hu125=>?_))
  refine wa Z (WL.nil (WQ.block (WQ.then (WC.region (wq Z (QV.add Z Z Z Z c126) (wm Z (WL.nil ?_)))))))
  exact Ev (v1_1++[x118]) own0v4_1 (x14_1+1) u124 m24 ⟨Ax hm127 hn27,hu125,hlown0v4_1,hgown0v4_1⟩ (Nat.lt_succ_self _) ⟨Z,Z,Z,Z,Z,Z,trivial⟩ (pk [2,3,4,5])
 refine WC.exit (te (te (Ai ?_)))
 exact Ko v1_1 own0v4_1 x14_1 uv1_1 ⟨A6 hm128 hn27,hlv1_1,hlown0v4_1,hgown0v4_1⟩ ⟨Z,Z,Z,Z,Z,Z,trivial⟩ (pk [0,1,2,3])
theorem Ag8 {v_l_logs v_l_body v_l_outs v_s_bef v_s_mem:Value}{l:Lp}{s:Sta}{turns:Int}{r:Rst×Int}{K0:World} (hm:I2 l s turns=some r) (h_l_logs:Arr K0 v_l_logs 1 (l.logs.map Af)) (h_l_body:Arr K0 v_l_body 9 (l.body.map Stm.cells)) (h_l_outs:Arr K0 v_l_outs 1 (l.outs.map Af)) (h_s_bef:RowsA K0 v_s_bef s.bef) (h_s_mem:RowsA K0 v_s_mem s.mem) (M:Nat→Prop) (w:World) (hk:Base M K0 w) (hw0:Own M w [] w):Calls Try.prog 25 #[.agg #[v_l_logs,v_l_body,v_l_outs],.agg #[v_s_bef,v_s_mem],.int .i64 turns] w (fun e w'=>∃ X:Value×Value×World,e=.returned (.tuple #[.agg #[X.1,X.2.1],.int .i64 r.2])∧Own M w (kn M w.heap.size K0 X.2.2::[]) w'∧Arr X.2.2 X.1 1 (r.1.outs.map Af)∧RowsA X.2.2 X.2.1 r.1.mem):=by
 unfold I2 at hm
 refine Ak (n:=102) (args:=[.agg #[v_l_logs,v_l_body,v_l_outs],.agg #[v_s_bef,v_s_mem],i_ turns]) Try.func25 Z Z (nl Z) ?_ (An hk hw0)
 refine sr (Aa Z ?_)
 refine(Aq (by decide) Z Z (fun b1=>?_))
 refine Aa Z ?_
 refine(Aq (by decide) Z Z (fun b2=>?_))
 refine Aa Z ?_
 refine(EV.alloc (by decide) ze59 (fun b3=>?_))
 refine wa Z (nt (WC.seq (WC.block (sr (wq Z (Ac Fh Z Z Z (Ab 2 Z)) (wq Z (Ac ag50 Z Z Z (Ab 1 Z)) ?_))))))
 obtain⟨x4,hx5,hm6⟩:=Ag hm;clear hm
 refine wq Z (QV.call en52 (ec Z (ec Z eN)) (fun w hw=>have h:=Adt w hx5 ((Ah 3 Z hk h_l_logs) w hw) ((Ah 3 Z hk h_l_body) w hw) ((Ah 3 Z hk h_l_outs) w hw) (Gz 3 Z hk h_s_bef w hw) (Gz 3 Z hk h_s_mem w hw);h)) (wq Z (QV.not Z Z) (wa Z (nt ?_)))
 refine wc Z hm6 (fun h7 hm8=>?_) (fun h7 hm9=>?_) <;> clear hm6
 ·skip
  refine sr (wq Z (QV.build (ps:=[]) (cells:=[.slice none 0 0,.slice none 0 0]) eN (by kernel_rfl)) (Aa Z ?_))
  refine(EV.store 0 Z Z Z Z Z Z (vs:=[.slice none 0 0,.slice none 0 0]) (show Value.cells _=List.toArray _ from Z) Aii (nl Z) (oc Z (oc Z Aw)) ?_)
  refine wa Z (nt (WC.ret (kr (tr ?_))))
  obtain rfl:=(Ae hm8).symm
  refine Cx Z Alw Z Z Z (Ab 0 Z) (fun w hw=>?_)
  exact⟨(.slice none 0 0,.slice none 0 0,K0),Z,hw.pick [3] (by decide),Arr.nil,RowsA.nil⟩
 refine sr (wm Z (wq Z (QV.lss Z Z Z Z) (wm Z (gn Z (fun hG=>QV.move Z Z) (gn Z (fun hG=>QV.gtr Z hG Z Z) (wq Z (A2 Z Z Z (fun h=>Dv h)) (wa Z (nt ?_))))))))
 refine wc Z hm9 (fun h10 hm11=>?_) (fun h10 hm12=>?_) <;> clear hm9
 ·skip
  refine sr (wq Z (QV.build (ps:=[]) (cells:=[.slice none 0 0,.slice none 0 0]) eN (by kernel_rfl)) (Aa Z ?_))
  refine(EV.store 0 Z Z Z Z Z Z (vs:=[.slice none 0 0,.slice none 0 0]) (show Value.cells _=List.toArray _ from Z) Aii (nl Z) (oc Z (oc Z Aw)) ?_)
  refine wa Z (nt (WC.ret (kr (tr ?_))))
  obtain rfl:=(Ae hm11).symm
  refine Cx Z Alw Z Z Z (Ab 0 Z) (fun w hw=>?_)
  exact⟨(.slice none 0 0,.slice none 0 0,K0),Z,hw.pick [3] (by decide),Arr.nil,RowsA.nil⟩
 refine sk (WQ.block (WQ.then (WC.seq (B9 (m:=7) (S:=Own M w [kn M w.heap.size K0 K0,blk b3 [.slice none 0 0,.slice none 0 0] 59,blk b2 [v_s_bef,v_s_mem] 50,blk b1 [v_l_logs,v_l_body,v_l_outs] 25]) (by kernel_rfl) (by kernel_rfl) (pk [3,0,1,2]) (wz 0 Z Z (Ac Fh Z Z Z (Ab 3 Z)) (zf 1 Aak Z Z (zl 2 N1 Z Z (Own.cell 2 Z Z) ?_)))))))
 refine WD.o 3 Z (by kernel_rfl) Z ?_
 obtain⟨x13,hx14,hm15⟩:=Ag hm12;clear hm12
 refine EV.of (C':=Own M w [kn M w.heap.size K0 K0,blk b3 [.slice none 0 0,.slice none 0 0] 59,blk b2 [v_s_bef,v_s_mem] 50,blk b1 [v_l_logs,v_l_body,v_l_outs] 25]) (pk [3,0,1,2]) ?_
 refine(A4 (X:=Value×(List Value)×World) (R:=[]) (fun X=>X.1) (fun X=>[Bv X.1 X.2.1 33 2 x13]) (fun X=>X.2.2) (fun X=>SliceLen X.1 (x13).length∧GL X.2.1 x13) hk (fun _ h=>by cases h;decide) en53 (ec Z eN) (fun M w h1 h2=>have h:=Xl hx14 h_s_mem M w h1 h2;h) (fun X16 hF16 hle16=>?_))
 refine WD.b (H':=[kn M w.heap.size K0 X16.2.2,Bv X16.1 X16.2.1 33 2 x13,blk b3 [.slice none 0 0,.slice none 0 0] 59,blk b2 [v_s_bef,v_s_mem] 50,blk b1 [v_l_logs,v_l_body,v_l_outs] 25]) (pk [0,1,2,3,4]) (fun w hw=>Pg hle16 (Le.refl _) (hw.pick [0,2,3,4] (by decide))) ?_
 refine wz 4 Z Z (Ml (ps:=[(0,.tmp 31),(2,.tmp 34)]) (cells:=[v_l_logs,v_l_body,v_l_outs,.slice none 0 0,X16.1]) (css:=[[v_l_logs,v_l_body,v_l_outs],[X16.1]]) (ec Z (ec Z eN)) (CellsAll.cons Z (CellsAll.cons (SliceLen.cells hF16.1) CellsAll.nil)) (by kernel_rfl)) ?_
 refine WD.o 5 Z (by kernel_rfl) Z ?_
 refine(Aq (by decide) Z Z (fun b18=>?_))
 refine WD.b (H':=[kn M w.heap.size K0 X16.2.2,blk b18 [v_l_logs,v_l_body,v_l_outs,.slice none 0 0,X16.1] 107,Bv X16.1 X16.2.1 33 2 x13,blk b3 [.slice none 0 0,.slice none 0 0] 59,blk b2 [v_s_bef,v_s_mem] 50,blk b1 [v_l_logs,v_l_body,v_l_outs] 25]) (pk [1,0,2,3,4,5]) (pk [0,2,3,4,5]) ?_
 refine wz 6 Z Z (QV.assign Z Z) ?_
 refine WD.e (by kernel_rfl) ?_
 refine WQ.then (WC.seq (sr (wm Z (nt ?_))))
 refine WK.of (fun w hw=>hw.vecNil (E:=33) (sz:=1) (enc:=Jo)) ?_
 obtain⟨o20,ho21,hm22⟩:=Ag hm15;clear hm15;obtain⟨n23,ho24⟩:=A0 ho21
 refine Ra (H2:=[Bv X16.1 X16.2.1 33 2 x13,blk b3 [.slice none 0 0,.slice none 0 0] 59,blk b2 [v_s_bef,v_s_mem] 50,blk b1 [v_l_logs,v_l_body,v_l_outs] 25]) (τ:=[u_ 2 _,u_ 3 _,u_ 4 _,u_ 6 _,u_ 8 _]) (fun (v19_4:List (List Int)) (x37_4:Int) (uv19_4:Value) (Bv19_4:List (Value×List Int)) (k_4:World)=>[(37,(true,i_ x37_4))]) (fun v19_4 x37_4 uv19_4 Bv19_4 k_4=>[vec uv19_4 33 1 (List.map Jo Bv19_4),blk b18 [v_l_logs,v_l_body,v_l_outs,uv19_4,X16.1] 107,kn M w.heap.size K0 k_4]) (fun v19_4 x37_4 uv19_4 Bv19_4 k_4 m=>B3 (Lh s) m (v19_4,x37_4)=some o20∧SliceLen uv19_4 v19_4.length∧Bv19_4.map (·.2)=v19_4∧RowsK k_4 Bv19_4∧Le X16.2.2 k_4) (fun v19_4 x37_4 uv19_4 Bv19_4 k_4=>o20=.go (v19_4,x37_4)∧SliceLen uv19_4 v19_4.length∧Bv19_4.map (·.2)=v19_4∧RowsK k_4 Bv19_4∧Le X16.2.2 k_4) [] 0 (.slice none 0 0) [] X16.2.2 n23 ⟨ho24,SliceLen.nil,Z,RowsK.nil,(Le.refl _)⟩ ⟨Z,Z,Z,Z,Z,Z,trivial⟩ (pk [0,1,2,3,4,5,6]) ?_ ?_
 ·skip
  rintro v19_4 x37_4 uv19_4 Bv19_4 k_4 ⟨rfl,hlv19_4,hBv19_4,hRv19_4,hle_4⟩
  refine WQ.then (WC.seq (sr (wm Z (wm Z (nt ?_)))))
  refine WK.of (C':=Own M w [kn M w.heap.size K0 k_4,vec uv19_4 33 1 (List.map Jo Bv19_4),blk b18 [v_l_logs,v_l_body,v_l_outs,uv19_4,X16.1] 107,Bv X16.1 X16.2.1 33 2 x13,blk b3 [.slice none 0 0,.slice none 0 0] 59,blk b2 [v_s_bef,v_s_mem] 50,blk b1 [v_l_logs,v_l_body,v_l_outs] 25]) (pk [2,0,1,3,4,5,6]) ?_
  refine WK.freeze hk (fun k25 hle25 hr25=>?_)
  have hA25:RowsA k25 uv19_4 v19_4:=⟨Bv19_4,hBv19_4,Cf hr25,(hRv19_4.le hle25)⟩
  obtain⟨o26,ho27,hm28⟩:=Ag hm22;clear hm22;obtain⟨n29,ho30⟩:=A0 ho27
  refine Zy (H2:=[blk b3 [.slice none 0 0,.slice none 0 0] 59,blk b2 [v_s_bef,v_s_mem] 50,blk b1 [v_l_logs,v_l_body,v_l_outs] 25]) (τ:=[u_ 3 _,u_ 6 _,u_ 8 _,u_ 66 _]) (fun (r17_5:List (List Int)) (b18c3_5:List (List Int)) (x67_5:Int) (ur17_5:Value) (hsr17_5:List Value) (vb18c3_5:Value) (k_5:World)=>[(67,(true,i_ x67_5))]) (fun r17_5 b18c3_5 x67_5 ur17_5 hsr17_5 vb18c3_5 k_5=>[kn M w.heap.size K0 k_5,blk b18 [v_l_logs,v_l_body,v_l_outs,vb18c3_5,ur17_5] 107,Bv ur17_5 hsr17_5 33 2 r17_5]) (fun r17_5 b18c3_5 x67_5 ur17_5 hsr17_5 vb18c3_5 k_5 m=>B3 (Lg l turns) m (r17_5,b18c3_5,x67_5)=some o26∧SliceLen ur17_5 r17_5.length∧GL hsr17_5 r17_5∧RowsA k_5 vb18c3_5 b18c3_5∧Le k25 k_5) (fun r17_5 b18c3_5 x67_5 ur17_5 hsr17_5 vb18c3_5 k_5=>o26=.go (r17_5,b18c3_5,x67_5)∧SliceLen ur17_5 r17_5.length∧GL hsr17_5 r17_5∧RowsA k_5 vb18c3_5 b18c3_5∧Le k25 k_5) x13 v19_4 0 X16.1 X16.2.1 uv19_4 k25 n29 ⟨ho30,hF16.1,hF16.2,hA25,(Le.refl _)⟩ ⟨Z,Z,Z,Z,Z,trivial⟩ (pk [0,1,2,3,4,5]) ?_ ?_
  ·skip
   rintro r17_5 b18c3_5 x67_5 ur17_5 hsr17_5 vb18c3_5 k_5 ⟨rfl,hlr17_5,hgr17_5,hAb18c3_5,hle_5⟩
   refine WQ.then (sr (wm Z (wq Z (QV.nilCheck Z Z) (wf Aa9 Z (wl N1 Z (Own.cell 1 Z Z) (wq Z (Ml (ps:=[(1,.tmp 77)]) (cells:=[.slice none 0 0,ur17_5]) (css:=[[ur17_5]]) (ec Z eN) (CellsAll.cons (SliceLen.cells hlr17_5) CellsAll.nil) (by kernel_rfl)) (Aa Z ?_)))))))
   refine(EV.alloc (by decide) ze59 (fun b31=>?_))
   refine Aa Z ?_
   refine(EV.store 0 Z Z Z Z Z Z (vs:=[.slice none 0 0,ur17_5]) (show Value.cells _=List.toArray _ from Z) Aii (nl Z) (oc Z (oc (SliceLen.one hlr17_5) Aw)) ?_)
   refine nt (WC.seq (sr (wf Aal Z (wl Du Z (Own.cell 6 Z Z) (wq Z (Ay Try.underlying22 Z Z (h_l_outs.le (((hle16.trans hle_4).trans hle25).trans hle_5)).lenMap) (wm Z (nt ?_)))))))
   refine WK.of (fun w hw=>hw.vecNil (E:=2) (sz:=1) (enc:=Af)) ?_
   obtain⟨o33,ho34,hm35⟩:=Ag hm28;clear hm28;obtain⟨n36,ho37⟩:=A0 ho34
   refine D2 (H2:=[kn M w.heap.size K0 k_5,blk b18 [v_l_logs,v_l_body,v_l_outs,vb18c3_5,ur17_5] 107,Bv ur17_5 hsr17_5 33 2 r17_5,blk b3 [.slice none 0 0,.slice none 0 0] 59,blk b2 [v_s_bef,v_s_mem] 50,blk b1 [v_l_logs,v_l_body,v_l_outs] 25]) (τ:=[u_ 6 _,u_ 8 _,u_ 14 _,u_ 80 _,u_ 81 _]) (fun (v32_6:List Int) (x82_6:Int) (uv32_6:Value)=>[(82,(true,i_ x82_6))]) (fun v32_6 x82_6 uv32_6=>[vec uv32_6 2 1 (List.map Af v32_6),blk b31 [uv32_6,ur17_5] 59]) (fun v32_6 x82_6 uv32_6 m=>B3 (J4 l b18c3_5) m (v32_6,x82_6)=some o33∧SliceLen uv32_6 v32_6.length) (fun v32_6 x82_6 uv32_6=>o33=.go (v32_6,x82_6)∧SliceLen uv32_6 v32_6.length) [] 0 (.slice none 0 0) n36 ⟨ho37,SliceLen.nil⟩ ⟨Z,Z,Z,Z,Z,Z,trivial⟩ (pk [0,1,2,3,4,5,6,7]) ?_ ?_
   ·skip
    rintro v32_6 x82_6 uv32_6 ⟨rfl,hlv32_6⟩
    refine WQ.then (sr (wq Z (Ac Alw Z Z Z (Ab 1 Z)) (Aa Z ?_)))
    refine(EV.store 5 Z Z Z Z Z Z (vs:=[uv32_6,ur17_5]) (show Value.cells _=List.toArray _ from Z) Aii (nl Z) (oc (SliceLen.one hlv32_6) (oc (SliceLen.one hlr17_5) Aw)) ?_)
    refine wa Z (nt (WC.ret ?_))
    obtain rfl:=(Ae hm35).symm
    refine WK.of (C':=Own M w [kn M w.heap.size K0 k_5,vec uv32_6 2 1 (List.map Af v32_6),blk b31 [uv32_6,ur17_5] 59,blk b18 [v_l_logs,v_l_body,v_l_outs,vb18c3_5,ur17_5] 107,Bv ur17_5 hsr17_5 33 2 r17_5,blk b3 [uv32_6,ur17_5] 59,blk b2 [v_s_bef,v_s_mem] 50,blk b1 [v_l_logs,v_l_body,v_l_outs] 25]) (pk [2,0,1,3,4,5,6,7]) ?_
    refine WK.freeze hk (fun k38 hle38 hr38=>?_)
    have hA38:=Cf hr38
    refine WK.of (C':=Own M w [kn M w.heap.size K0 k38,Bv ur17_5 hsr17_5 33 2 r17_5,blk b31 [uv32_6,ur17_5] 59,blk b18 [v_l_logs,v_l_body,v_l_outs,vb18c3_5,ur17_5] 107,blk b3 [uv32_6,ur17_5] 59,blk b2 [v_s_bef,v_s_mem] 50,blk b1 [v_l_logs,v_l_body,v_l_outs] 25]) (pk [0,3,1,2,4,5,6]) ?_
    refine WK.freeze hk (fun k39 hle39 hr39=>?_)
    have hA39:=Uu hr39
    refine Cx Z Alw Z Z Z (Ab 3 Z) (fun w hw=>?_)
    exact⟨(uv32_6,ur17_5,k39),Z,hw.pick [0] (by decide),(hA38.le hle39),hA39⟩
   rintro v32_6 x82_6 uv32_6 m40 ⟨hI41,hlv32_6⟩
   obtain⟨m42,s43,rfl,hm44,hn45⟩:=Ap hI41;clear hI41;unfold J4 at hm44;simp only at hm44
   refine sr (wq Z (QV.lss Z Z Z Z) (nt (WC.seq ?_)))
   refine wc Z hm44 (fun h46 hm47=>?_) (fun h46 hm70=>?_) <;> clear hm44
   ·skip
    refine sk (WQ.then (WC.seq (WC.block (sr ?_))))
    obtain⟨c48,hm49⟩:=cs hm47;clear hm47
    obtain⟨p50,hp51⟩:=(h_l_outs.le (((hle16.trans hle_4).trans hle25).trans hle_5)).lenMap.ix (sz:=1) Au c48
    refine wq Z (Ad Ei Z Z Z Z hp51) (wl pl3 Z (fun w hw=>CellsAt.one 0 (((Ah 2 Z hk (h_l_outs.le (((hle16.trans hle_4).trans hle25).trans hle_5))) w hw).ele hp51 c48) Z) (wa Z (nt (B9 (m:=15) (S:=Own M w [kn M w.heap.size K0 k_5,blk b31 [uv32_6,ur17_5] 59,blk b18 [v_l_logs,v_l_body,v_l_outs,vb18c3_5,ur17_5] 107,Bv ur17_5 hsr17_5 33 2 r17_5,blk b3 [.slice none 0 0,.slice none 0 0] 59,blk b2 [v_s_bef,v_s_mem] 50,blk b1 [v_l_logs,v_l_body,v_l_outs] 25]) (by kernel_rfl) (by kernel_rfl) (pk [2,1,3,4,5,6,7]) (zf 0 Aef Z Z (zl 1 Nc Z Z (Own.cell 1 Z Z) (zm 2 Z Z (wz 3 Z Z (QV.nilCheck Z Z) (zf 4 Qy Z Z ?_)))))))))
    refine zl 5 N1 Z Z (Own.cell 2 Z Z) ?_
    obtain⟨c52,hm53⟩:=cs hm49;clear hm49
    obtain⟨p54,u56,hp55,hc57,hA58⟩:=hAb18c3_5.ix c52
    refine wz 6 Z Z (Ad Ri Z Z Z Z hp55) (zl 7 Nc Z Z (fun w hw=>CellsAt.one 0 ((Am 0 Z hk hc57) w hw) Z) (zm 8 Z Z ?_))
    obtain⟨c59,hm60⟩:=cs hm53;clear hm53
    obtain⟨p61,hp62⟩:=hA58.lenMap.ix (sz:=1) Au c59
    refine wz 9 Z Z (Ad Rh Z Z Z Z hp62) (zl 10 pl2 Z Z (fun w hw=>CellsAt.one 0 (((Ah 0 Z hk hA58) w hw).ele hp62 c59) Z) ?_)
    refine WD.o 11 Z (by kernel_rfl) Z ?_
    refine(EV.buildSlice (by decide) Rn (by decide) (by decide) (ps:=[(0,.tmp 96)]) (cells:=[i_ (ele (ele b18c3_5 0) (ele l.outs x82_6))]) (ec Z eN) (by kernel_rfl) (fun b63=>?_))
    refine WD.b (H':=[kn M w.heap.size K0 k_5,blk b63 [i_ (ele (ele b18c3_5 0) (ele l.outs x82_6))] 2,blk b31 [uv32_6,ur17_5] 59,blk b18 [v_l_logs,v_l_body,v_l_outs,vb18c3_5,ur17_5] 107,Bv ur17_5 hsr17_5 33 2 r17_5,blk b3 [.slice none 0 0,.slice none 0 0] 59,blk b2 [v_s_bef,v_s_mem] 50,blk b1 [v_l_logs,v_l_body,v_l_outs] 25]) (pk [3,0,2,4,5,6,7,8]) (pk [0,2,3,4,5,6,7]) ?_
    refine WD.o 12 Z (by kernel_rfl) Z ?_
    obtain⟨c64,c68,hm69⟩:=cs2 hm60;clear hm60
    refine(Bx (enc:=Af) (xs:=v32_6) (ys:=[(ele (ele b18c3_5 0) (ele l.outs x82_6))]) ((v32_6++[(ele (ele b18c3_5 0) (ele l.outs x82_6))])) 1 (by decide) Wa Z Z Z Z Z (Bj 0 (rows:=[(ele (ele b18c3_5 0) (ele l.outs x82_6))].map Af) Z Z (B5 Bf)) Bf (Cz _) Z c64.1 c64.2 (fun u66 hu67=>?_))
    refine WD.b (H':=[kn M w.heap.size K0 k_5,blk b63 [i_ (ele (ele b18c3_5 0) (ele l.outs x82_6))] 2,vec u66 2 1 (List.map Af (v32_6++[(ele (ele b18c3_5 0) (ele l.outs x82_6))])),blk b31 [uv32_6,ur17_5] 59,blk b18 [v_l_logs,v_l_body,v_l_outs,vb18c3_5,ur17_5] 107,Bv ur17_5 hsr17_5 33 2 r17_5,blk b3 [.slice none 0 0,.slice none 0 0] 59,blk b2 [v_s_bef,v_s_mem] 50,blk b1 [v_l_logs,v_l_body,v_l_outs] 25]) (pk [3,0,1,2,4,5,6,7,8]) (pk [0,1,3,4,5,6,7,8]) ?_
    refine zf 13 Aef Z Z ?_
    refine WD.l 14 Z (by kernel_rfl) Z ?_
    refine(EV.store 2 Z Z Z Z Z Z (vs:=[u66]) (SliceLen.cells hu67) sz33 (nl Z) (oc (SliceLen.one hu67) Aw) ?_)
    refine WQ.block (WQ.then (WC.region (wq Z (QV.add Z Z Z Z c68) (wm Z (WL.nil ?_)))))
    exact C4 (v32_6++[(ele (ele b18c3_5 0) (ele l.outs x82_6))]) (x82_6+1) u66 m42 ⟨Ax hm69 hn45,hu67⟩ (Nat.lt_succ_self _) ⟨Z,Z,Z,Z,Z,Z,trivial⟩ (pk [1,2,3,4,5,6,7,8])
   refine WC.exit (te (te (Ai ?_)))
   exact Gw v32_6 x82_6 uv32_6 ⟨A6 hm70 hn45,hlv32_6⟩ ⟨Z,Z,Z,Z,Z,Z,trivial⟩ (pk [0,1,2,3,4,5,6,7])
  rintro r17_5 b18c3_5 x67_5 ur17_5 hsr17_5 vb18c3_5 k_5 m71 ⟨hI72,hlr17_5,hgr17_5,hAb18c3_5,hle_5⟩
  obtain⟨m73,s74,rfl,hm75,hn76⟩:=Ap hI72;clear hI72;unfold Lg at hm75;simp only at hm75
  refine sr (wq Z (QV.lss Z Z Z Z) (nt (WC.seq ?_)))
  refine wc Z hm75 (fun h77 hm78=>?_) (fun h77 hm85=>?_) <;> clear hm75
  ·skip
   refine sk (WQ.then (WC.seq (WC.block (sr (wm Z (wa Z (nr (wm Z (wm Z (Aa Z ?_))))))))))
   obtain⟨x79,hx80,hm81⟩:=Ag hm78;clear hm78
   refine(A4 (X:=Value×Value×(List Value)×World) (R:=[blk b18 [v_l_logs,v_l_body,v_l_outs,vb18c3_5,ur17_5] 107,Bv ur17_5 hsr17_5 33 2 r17_5]) (fun X=>.tuple #[]) (fun X=>[blk b18 [v_l_logs,v_l_body,v_l_outs,X.1,X.2.1] 107,Bv X.2.1 X.2.2.1 33 2 x79.2]) (fun X=>X.2.2.2) (fun X=>RowsA X.2.2.2 X.1 x79.1∧SliceLen X.2.1 (x79.2).length∧GL X.2.2.1 x79.2) hk (fun _ h=>by cases h;decide) en54 (ec Z (ec Z eN)) (fun M w h1 h2=>have h:=T6 hx80 (h_l_logs.le (((hle16.trans hle_4).trans hle25).trans hle_5)) (h_l_body.le (((hle16.trans hle_4).trans hle25).trans hle_5)) (h_l_outs.le (((hle16.trans hle_4).trans hle25).trans hle_5)) hAb18c3_5 hlr17_5 hgr17_5 M w h1 h2;h) (fun X82 hF82 hle82=>?_))
   refine WL.nil (WQ.block (WQ.then (WC.region ?_)))
   obtain⟨c83,hm84⟩:=cs hm81;clear hm81
   refine wq Z (QV.add Z Z Z Z c83) (wm Z (WL.nil ?_))
   exact Ld x79.2 x79.1 (x67_5+1) X82.2.1 X82.2.2.1 X82.1 X82.2.2.2 m73 ⟨Ax hm84 hn76,hF82.2.1,hF82.2.2,hF82.1,(hle_5.trans hle82)⟩ (Nat.lt_succ_self _) ⟨Z,Z,Z,Z,Z,trivial⟩ (pk [0,1,2,3,4,5])
  refine WC.exit (te (te (Ai ?_)))
  exact Agh r17_5 b18c3_5 x67_5 ur17_5 hsr17_5 vb18c3_5 k_5 ⟨A6 hm85 hn76,hlr17_5,hgr17_5,hAb18c3_5,hle_5⟩ ⟨Z,Z,Z,Z,Z,trivial⟩ (pk [0,1,2,3,4,5])
 rintro v19_4 x37_4 uv19_4 Bv19_4 k_4 m86 ⟨hI87,hlv19_4,hBv19_4,hRv19_4,hle_4⟩
 obtain⟨m88,s89,rfl,hm90,hn91⟩:=Ap hI87;clear hI87;unfold Lh at hm90;simp only at hm90
 refine sr (wq Z (QV.lss Z Z Z Z) (nt (WC.seq ?_)))
 refine wc Z hm90 (fun h92 hm93=>?_) (fun h92 hm138=>?_) <;> clear hm90
 ·skip
  refine sk (WQ.then (WC.seq (WC.block (sr (wm Z (wa Z (ns (wa Z (nt (WC.seq (sr (wf Wp Z (wl N1 Z (Own.cell 5 Z Z) (wq Z (Ay Try.underlying32 Z Z (h_s_bef.le (hle16.trans hle_4)).slen) (wm Z ?_)))))))))))))))
  refine nt ?_
  refine WK.of (fun w hw=>hw.vecNil (E:=2) (sz:=1) (enc:=Af)) ?_
  obtain⟨o95,ho96,hm97⟩:=Ag hm93;clear hm93;obtain⟨n98,ho99⟩:=A0 ho96
  refine D2 (H2:=[vec uv19_4 33 1 (List.map Jo Bv19_4),blk b18 [v_l_logs,v_l_body,v_l_outs,uv19_4,X16.1] 107,kn M w.heap.size K0 k_4,Bv X16.1 X16.2.1 33 2 x13,blk b3 [.slice none 0 0,.slice none 0 0] 59,blk b2 [v_s_bef,v_s_mem] 50,blk b1 [v_l_logs,v_l_body,v_l_outs] 25]) (τ:=[u_ 2 _,u_ 3 _,u_ 4 _,u_ 6 _,u_ 8 _,u_ 9 _,u_ 37 _,u_ 41 _,u_ 42 _]) (fun (v94_7:List Int) (x43_7:Int) (uv94_7:Value)=>[(10,(true,uv94_7)),(43,(true,i_ x43_7))]) (fun v94_7 x43_7 uv94_7=>[vec uv94_7 2 1 (List.map Af v94_7)]) (fun v94_7 x43_7 uv94_7 m=>B3 (J5 s x37_4) m (v94_7,x43_7)=some o95∧SliceLen uv94_7 v94_7.length) (fun v94_7 x43_7 uv94_7=>o95=.go (v94_7,x43_7)∧SliceLen uv94_7 v94_7.length) [] 0 (.slice none 0 0) n98 ⟨ho99,SliceLen.nil⟩ ⟨Z,Z,Z,Z,Z,Z,Z,Z,Z,Z,Z,trivial⟩ (pk [0,1,2,3,4,5,6,7]) ?_ ?_
  ·skip
   rintro v94_7 x43_7 uv94_7 ⟨rfl,hlv94_7⟩
   refine WQ.then (WC.region (wm Z (wm Z (wq Z (QV.nilCheck Z Z) (wf Qy Z (wl N1 Z (Own.cell 2 Z Z) (wm Z (Aa Z ?_))))))))
   refine(EV.buildSlice (by decide) Aiq (by decide) (by decide) (ps:=[(0,.tmp 60)]) (cells:=[uv94_7]) (ec Z eN) (Aa6 hlv94_7) (fun b100=>?_))
   refine Aa Z ?_
   refine EV.of (C':=Own M w [kn M w.heap.size K0 k_4,vec uv94_7 2 1 (List.map Af v94_7),blk b100 [uv94_7] 33,vec uv19_4 33 1 (List.map Jo Bv19_4),blk b18 [v_l_logs,v_l_body,v_l_outs,uv19_4,X16.1] 107,Bv X16.1 X16.2.1 33 2 x13,blk b3 [.slice none 0 0,.slice none 0 0] 59,blk b2 [v_s_bef,v_s_mem] 50,blk b1 [v_l_logs,v_l_body,v_l_outs] 25]) (pk [4,1,0,2,3,5,6,7,8]) ?_
   refine EV.freeze hk (fun k101 hle101 hr101=>?_)
   have hA101:=Cf hr101
   obtain⟨c102,c109,hm110⟩:=cs2 hm97;clear hm97
   have hR106:RowsK k101 (Bv19_4++[(uv94_7,v94_7)]):=Ahb (hRv19_4.le hle101) hA101
   have hB107:((Bv19_4++[(uv94_7,v94_7)]):List (Value×List Int)).map (·.2)=(v19_4++[v94_7]):=Ake hBv19_4
   refine(Bx (enc:=Jo) (xs:=Bv19_4) (ys:=[(uv94_7,v94_7)]) (Bv19_4++[(uv94_7,v94_7)]) 2 (by decide) ve32 Z Z Z Z Z (Bj 1 (rows:=[(uv94_7,v94_7)].map Jo) Z Z (B5 Q4)) Q4 (Ami hA101.lenMap) Z (AL.b1 hB107 c102) (AL.b2 hB107 c102) (fun u104 hu105=>?_))
   have hl108:=Acp hB107 hu105
   refine wq Z (QV.nilCheck Z Z) (wf Qy Z (Aa Z ?_))
   refine(EV.store 3 Z Z Z Z Z Z (vs:=[u104]) (SliceLen.cells hl108) sz32 (nl Z) (oc (SliceLen.one hl108) Aw) ?_)
   refine WL.nil (WQ.block (WQ.then (WC.region (wq Z (QV.add Z Z Z Z c109) (wm Z (WL.nil ?_))))))
   exact Q9 (v19_4++[v94_7]) (x37_4+1) u104 (Bv19_4++[(uv94_7,v94_7)]) k101 m88 ⟨Ax hm110 hn91,hl108,hB107,hR106,(hle_4.trans hle101)⟩ (Nat.lt_succ_self _) ⟨Z,Z,Z,Z,Z,Z,trivial⟩ (pk [2,3,0,4,5,6,7])
  rintro v94_7 x43_7 uv94_7 m111 ⟨hI112,hlv94_7⟩
  obtain⟨m113,s114,rfl,hm115,hn116⟩:=Ap hI112;clear hI112;unfold J5 at hm115;simp only at hm115
  refine sr (wq Z (QV.lss Z Z Z Z) (nt (WC.seq ?_)))
  refine wc Z hm115 (fun h117 hm118=>?_) (fun h117 hm137=>?_) <;> clear hm115
  ·skip
   refine sk (WQ.then (WC.seq (WC.block (sr ?_))))
   obtain⟨c119,hm120⟩:=cs hm118;clear hm118
   obtain⟨p121,u123,hp122,hc124,hA125⟩:=(h_s_bef.le (hle16.trans hle_4)).ix c119
   refine wq Z (Ad Ri Z Z Z Z hp122) (wl Nc Z (fun w hw=>CellsAt.one 0 ((Am 3 Z hk hc124) w hw) Z) (wa Z (nr (wm Z (wm Z (wm Z ?_))))))
   obtain⟨c126,hm127⟩:=cs hm120;clear hm120
   obtain⟨p128,hp129⟩:=hA125.lenMap.ix (sz:=1) Au c126
   refine wq Z (Ad Rh Z Z Z Z hp129) (wl pl2 Z (fun w hw=>CellsAt.one 0 (((Ah 3 Z hk hA125) w hw).ele hp129 c126) Z) (Aa Z ?_))
   refine(EV.buildSlice (by decide) Rn (by decide) (by decide) (ps:=[(0,.tmp 51)]) (cells:=[i_ (ele (ele s.bef x43_7) x37_4)]) (ec Z eN) (by kernel_rfl) (fun b130=>?_))
   refine Aa Z ?_
   obtain⟨c131,c135,hm136⟩:=cs2 hm127;clear hm127
   refine(Bx (enc:=Af) (xs:=v94_7) (ys:=[(ele (ele s.bef x43_7) x37_4)]) ((v94_7++[(ele (ele s.bef x43_7) x37_4)])) 1 (by decide) Wa Z Z Z Z Z (Bj 0 (rows:=[(ele (ele s.bef x43_7) x37_4)].map Af) Z Z (B5 Bf)) Bf (Cz _) Z c131.1 c131.2 (fun u133 hu134=>?_))
   refine wa Z (WL.nil (WQ.block (WQ.then (WC.region (wq Z (QV.add Z Z Z Z c135) (wm Z (WL.nil ?_)))))))
   exact C4 (v94_7++[(ele (ele s.bef x43_7) x37_4)]) (x43_7+1) u133 m113 ⟨Ax hm136 hn116,hu134⟩ (Nat.lt_succ_self _) ⟨Z,Z,Z,Z,Z,Z,Z,Z,Z,Z,Z,trivial⟩ (pk [1,2,3,4,5,6,7,8])
  refine WC.exit (te (te (Ai ?_)))
  exact Gw v94_7 x43_7 uv94_7 ⟨A6 hm137 hn116,hlv94_7⟩ ⟨Z,Z,Z,Z,Z,Z,Z,Z,Z,Z,Z,trivial⟩ (pk [0,1,2,3,4,5,6,7])
 refine WC.exit (te (te (Ai ?_)))
 exact V7 v19_4 x37_4 uv19_4 Bv19_4 k_4 ⟨A6 hm138 hn91,hlv19_4,hBv19_4,hRv19_4,hle_4⟩ ⟨Z,Z,Z,Z,Z,Z,trivial⟩ (pk [0,1,2,3,4,5,6])
theorem Afe {v_a v_b:Value}{a b:List (List Int)}{r:Bool} (w:World) (hm:Lm a b=some r) (h_a:RowsA w v_a a) (h_b:RowsA w v_b b):Calls Try.prog 27 #[v_a,v_b] w (fun e w'=>e=.returned (.bool r)∧Grow w w'):=by
 unfold Lm at hm
 have hk:=Base.rfl (w:=w)
 refine Ak (n:=27) (args:=[v_a,v_b]) Try.func27 Z Z (nl Z) ?_ (An hk (Own.start w))
 refine sr (wa Z (nt (WC.seq (sr (wm Z (wq Z (Ay Try.underlying32 Z Z h_a.slen) (wm Z (wq Z (Ay Try.underlying32 Z Z h_b.slen) (wq Z (QV.neq Z Z Z Z) (nt ?_))))))))))
 refine wc Z hm (fun h1 hm2=>?_) (fun h1 hm3=>?_) <;> clear hm
 ·skip
  refine sr (wa Z (nt (WC.ret (tr ?_))))
  obtain rfl:=(Ae hm2).symm
  exact Ar Z Z fun w hw=>kg hw
 refine sk (WQ.then (WC.seq (sr (wa Z (nt ?_)))))
 obtain⟨o4,ho5,hm6⟩:=Ag hm3;clear hm3;obtain⟨n7,ho8⟩:=A0 ho5
 refine Ci (H2:=[kn noM w.heap.size w w]) (τ:=[u_ 0 _,u_ 1 _]) (fun (i5_1:Int)=>[(5,(true,i_ i5_1))]) (fun i5_1=>[]) (fun i5_1 m=>B3 (Ip a b) m i5_1=some o4) (fun i5_1=>o4=.go i5_1) 0 n7 ho8 ⟨Z,Z,Z,trivial⟩ (pk [0]) ?_ ?_
 ·skip
  rintro i5_1 rfl
  refine WQ.then (sr (wa Z (nt (WC.ret ?_))))
  obtain rfl:=(Ae hm6).symm
  exact Ar Z Z fun w hw=>kg hw
 rintro i5_1 m9 hI10
 obtain⟨m11,s12,rfl,hm13,hn14⟩:=Ap hI10;clear hI10;unfold Ip at hm13
 refine WC.seq (sr (wm Z (wm Z (wq Z (Ay Try.underlying32 Z Z h_a.slen) (wq Z (QV.lss Z Z Z Z) (nt ?_))))))
 refine wc Z hm13 (fun h15 hm16=>?_) (fun h15 hm39=>?_) <;> clear hm13
 ·skip
  refine sk (WQ.then (WC.seq (WC.block (WC.seq (B9 (m:=10) (by kernel_rfl) (by kernel_rfl) (fun w hw=>hw) (zm 0 Z Z (zm 1 Z Z ?_)))))))
  obtain⟨c17,hm18⟩:=cs hm16;clear hm16
  obtain⟨p19,u21,hp20,hc22,hA23⟩:=h_a.ix c17
  refine wz 2 Z Z (Ad Ri Z Z Z Z hp20) (zl 3 Nc Z Z (fun w hw=>CellsAt.one 0 ((Am 0 Z hk hc22) w hw) Z) (zm 4 Z Z (zm 5 Z Z ?_)))
  obtain⟨c24,hm25⟩:=cs hm18;clear hm18
  obtain⟨p26,u28,hp27,hc29,hA30⟩:=h_b.ix c24
  refine wz 6 Z Z (Ad Ri Z Z Z Z hp27) (zl 7 Nc Z Z (fun w hw=>CellsAt.one 0 ((Am 0 Z hk hc29) w hw) Z) ?_)
  obtain⟨x31,hx32,hm33⟩:=Ag hm25;clear hm25
  refine wz 8 Z Z (QV.call en12 (ec Z (ec Z eN)) (fun w hw=>have h:=T5 w hx32 ((Ah 0 Z hk hA23) w hw) ((Ah 0 Z hk hA30) w hw);h)) (wz 9 Z Z (QV.not Z Z) ?_)
  refine WD.e (by kernel_rfl) ?_
  refine WQ.then ?_
  refine wc Z hm33 (fun h34 hm35=>?_) (fun h34 hm36=>?_) <;> clear hm33
  ·skip
   refine sr (wa Z (nt (WC.ret (kr (tr (tr (kr (tr (tr ?_)))))))))
   obtain rfl:=Cy hm35 hn14
   obtain rfl:=(Ae hm6).symm
   exact Ar Z Z fun w hw=>kg hw
  refine sk (WQ.block (WQ.then (WC.region (wm Z ?_))))
  obtain⟨c37,hm38⟩:=cs hm36;clear hm36
  refine wq Z (QV.add Z Z Z Z c37) (wa Z (WL.nil ?_))
  exact Ch (i5_1+1) m11 (Ax hm38 hn14) (Nat.lt_succ_self _) ⟨Z,Z,Z,trivial⟩ (pk [0])
 refine WC.exit (te (te (Ai ?_)))
 exact C7 i5_1 (A6 hm39 hn14) ⟨Z,Z,Z,trivial⟩ (pk [0])
end Go.Proofs.Ytaimbkndebaaiac
end
section
namespace Go.Proofs.Ytaimbkndebaaiac
open Go.Rd
open TNum TLoop TStable TMach TMach2 TKern TClone TNbr TSeq
namespace TKRun
theorem en55:Go.Rd.Enters Try.prog 55:=eT Try.func55
theorem en56:Go.Rd.Enters Try.prog 56:=eT Try.func56
theorem en58:Go.Rd.Enters Try.prog 58:=eT Try.func58
end TKRun
open TKRun
theorem Abt {v_k__ops v_regs v_memory:Value}{t:Tgt}{k_:Krn}{regs:List Int}{memory:List (List Int)}{turns:Int}{r:List Int×List (List Int)×Int}{K0:World} (hm:I9 t k_ regs memory turns=some r) (h_k__ops:Arr K0 v_k__ops 10 (k_.ops.map Opr.cells)) (h_regs:Arr K0 v_regs 1 (regs.map Af)) (h_memory:RowsA K0 v_memory memory) (M:Nat→Prop) (w:World) (hk:Base M K0 w) (hw0:Own M w [] w):Calls Try.prog 26 #[.agg #[.int .i64 t.u0,.int .i64 t.u1,.int .i64 t.u2,.int .i64 t.w0,.int .i64 t.w1,.int .i64 t.w2,.int .i64 t.regs],.agg #[.int .i64 k_.pace,.int .i64 k_.stages,v_k__ops],v_regs,v_memory,.int .i64 turns] w (fun e w'=>∃ X:Value×Value×World,e=.returned (.tuple #[X.1,X.2.1,.int .i64 r.2.2])∧Own M w (kn M w.heap.size K0 X.2.2::[]) w'∧Arr X.2.2 X.1 1 (r.1.map Af)∧RowsA X.2.2 X.2.1 r.2.1):=by
 unfold I9 at hm
 refine Ak (n:=87) (args:=[.agg #[i_ t.u0,i_ t.u1,i_ t.u2,i_ t.w0,i_ t.w1,i_ t.w2,i_ t.regs],.agg #[i_ k_.pace,i_ k_.stages,v_k__ops],v_regs,v_memory,i_ turns]) Try.func26 Z Z (nl Z) ?_ (An hk hw0)
 refine sr (Aa Z ?_)
 refine(Aq (by decide) Z Z (fun b1=>?_))
 refine Aa Z ?_
 refine(Aq (by decide) Z Z (fun b2=>?_))
 refine wa Z (wa Z (wa Z (ns (wm Z (Aa Z ?_)))))
 obtain⟨x3,hx4,hm5⟩:=Ag hm;clear hm
 refine EV.of (C':=Own M w [kn M w.heap.size K0 K0,blk b2 [i_ k_.pace,i_ k_.stages,v_k__ops] 31,blk b1 t.cells 28]) (pk [2,0,1]) ?_
 refine(A4 (X:=Value×World) (R:=[]) (fun X=>.tuple #[X.1,.bool x3.2]) (fun X=>[]) (fun X=>X.2) (fun X=>Arr X.2 X.1 1 (x3.1.map Af)) hk (fun _ h=>by cases h;decide) en55 (ec Z eN) (fun M w h1 h2=>have h:=Yl hx4 h_memory M w h1 h2;h) (fun X6 hF6 hle6=>?_))
 refine wm Z (wq Z (QV.extract Z Z Z) (wq Z (QV.extract Z Z Z) (wa Z (wa Z (nt (WC.seq (WC.block (sr (wm Z (wq Z (QV.not Z Z) (wm Z (gn Z (fun hG=>Ac Gk Z Z Z (Ab 2 Z)) ?_))))))))))))
 refine gn Z (fun hG=>Ac Kj Z Z Z (Ab 1 Z)) (gn Z (fun hG=>QV.move Z Z) ?_)
 obtain⟨x7,hx8,hm9⟩:=Ce hm5;clear hm5
 refine gn Z (fun hG=>QV.call en56 (EvAll.cons Z hG (EvAll.cons Z hG (EvAll.cons Z hG eN))) (fun w hw=>have h:=T0 w (hx8 hG) ((Ah 0 Z hk (h_k__ops.le hle6)) w hw) ((Ah 0 Z hk hF6) w hw);h)) (gn Z (fun hG=>QV.not Z hG) (wq Z (A2 Z Z Z (fun h=>Dv h)) (wm Z (gn Z (fun hG=>QV.move Z Z) (gn Z (fun hG=>Ay Try.underlying33 Z hG (h_regs.le hle6).lenMap) (gn Z (fun hG=>QV.fieldAddr H8 Z Z) (gn Z (fun hG=>QV.load pl3 Z hG (Own.cell 2 Z Z)) (gn Z (fun hG=>QV.neq Z hG Z hG) (wq Z (A2 Z Z Z (fun h=>Dv h)) ?_)))))))))
 refine wa Z (nt ?_)
 refine wc Z hm9 (fun h10 hm11=>?_) (fun h10 hm12=>?_) <;> clear hm9
 ·skip
  refine sr (wa Z (wa Z (wa Z (nt (WC.ret (kr (tr ?_)))))))
  obtain rfl:=(Ae hm11).symm
  refine Q3 Z Z Z Z (fun w hw=>?_)
  exact⟨(.slice none 0 0,.slice none 0 0,X6.2),Z,hw.pick [0] (by decide),Arr.nil,RowsA.nil⟩
 refine sr (wm Z (wq Z (QV.lss Z Z Z Z) (wm Z (gn Z (fun hG=>QV.move Z Z) (gn Z (fun hG=>QV.gtr Z hG Z Z) (wq Z (A2 Z Z Z (fun h=>Dv h)) (wa Z (nt ?_))))))))
 refine wc Z hm12 (fun h13 hm14=>?_) (fun h13 hm15=>?_) <;> clear hm12
 ·skip
  refine sr (wa Z (wa Z (wa Z (nt (WC.ret (kr (tr ?_)))))))
  obtain rfl:=(Ae hm14).symm
  refine Q3 Z Z Z Z (fun w hw=>?_)
  exact⟨(.slice none 0 0,.slice none 0 0,X6.2),Z,hw.pick [0] (by decide),Arr.nil,RowsA.nil⟩
 refine sk (WQ.block (WQ.then (WC.seq (B9 (m:=10) (by kernel_rfl) (by kernel_rfl) (fun w hw=>hw) (wz 0 Z Z (Ac Gk Z Z Z (Ab 2 Z)) (wz 1 Z Z (Ac Kj Z Z Z (Ab 1 Z)) (zm 2 Z Z ?_)))))))
 refine Aan 7 (by kernel_rfl) ?_
 refine G5 4 7 23 Z (by kernel_rfl) Z Z Z (QV.move Z Z) ?_
 refine G5 6 23 87 Z (by kernel_rfl) Z Z Z (QV.move Z Z) ?_
 refine Mc 3 87 95 Z (by kernel_rfl) Z ?_
 obtain⟨x16,hx17,hm18⟩:=Ag hm15;clear hm15
 refine(A4 (X:=Value×World) (R:=[]) (fun X=>X.1) (fun X=>[vec X.1 2 1 (List.map Af x16)]) (fun X=>X.2) (fun X=>SliceLen X.1 (x16).length) hk (fun _ h=>by cases h;decide) en57 (ec Z eN) (fun M w h1 h2=>have h:=Ago hx17 (h_regs.le hle6) M w h1 h2;h) (fun X19 hF19 hle19=>?_))
 refine WD.b (H':=[kn M w.heap.size K0 X19.2,vec X19.1 2 1 (List.map Af x16),blk b2 [i_ k_.pace,i_ k_.stages,v_k__ops] 31,blk b1 t.cells 28]) (pk [0,1,2,3]) (fun w hw=>Pg hle19 hle6 (hw.pick [0,2,3] (by decide))) ?_
 refine Mc 5 95 127 Z (by kernel_rfl) Z ?_
 obtain⟨x21,hx22,hm23⟩:=Ag hm18;clear hm18
 refine(A4 (X:=Value×(List Value)×World) (R:=[]) (fun X=>X.1) (fun X=>[Bv X.1 X.2.1 33 2 x21]) (fun X=>X.2.2) (fun X=>SliceLen X.1 (x21).length∧GL X.2.1 x21) hk (fun _ h=>by cases h;decide) en53 (ec Z eN) (fun M w h1 h2=>have h:=Xl hx22 (h_memory.le (hle6.trans hle19)) M w h1 h2;h) (fun X24 hF24 hle24=>?_))
 refine WD.b (H':=[kn M w.heap.size K0 X24.2.2,Bv X24.1 X24.2.1 33 2 x21,vec X19.1 2 1 (List.map Af x16),blk b2 [i_ k_.pace,i_ k_.stages,v_k__ops] 31,blk b1 t.cells 28]) (pk [0,1,2,3,4]) (fun w hw=>Pg hle24 (hle6.trans hle19) (hw.pick [0,2,3,4] (by decide))) ?_
 refine G5 7 127 255 Z (by kernel_rfl) Z Z Z (Ml (ps:=[(0,.tmp 47),(1,.tmp 48),(2,.tmp 50),(3,.tmp 52),(4,.tmp 53)]) (cells:=[i_ t.u0,i_ t.u1,i_ t.u2,i_ t.w0,i_ t.w1,i_ t.w2,i_ t.regs,i_ k_.pace,i_ k_.stages,v_k__ops,X19.1,X24.1,i_ turns,.slice none 0 0]) (css:=[t.cells,[i_ k_.pace,i_ k_.stages,v_k__ops],[X19.1],[X24.1],[i_ turns]]) (ec Z (ec Z (ec Z (ec Z (ec Z eN))))) (CellsAll.cons Z (CellsAll.cons Z (CellsAll.cons (SliceLen.cells hF19) (CellsAll.cons (SliceLen.cells hF24.1) (CellsAll.cons Z CellsAll.nil))))) (by kernel_rfl)) ?_
 refine Mc 8 255 511 Z (by kernel_rfl) Z ?_
 refine(Aq (by decide) Z Z (fun b26=>?_))
 refine WD.b (H':=[kn M w.heap.size K0 X24.2.2,blk b26 [i_ t.u0,i_ t.u1,i_ t.u2,i_ t.w0,i_ t.w1,i_ t.w2,i_ t.regs,i_ k_.pace,i_ k_.stages,v_k__ops,X19.1,X24.1,i_ turns,.slice none 0 0] 115,Bv X24.1 X24.2.1 33 2 x21,vec X19.1 2 1 (List.map Af x16),blk b2 [i_ k_.pace,i_ k_.stages,v_k__ops] 31,blk b1 t.cells 28]) (pk [1,0,2,3,4,5]) (pk [0,2,3,4,5]) ?_
 refine G5 9 511 1023 Z (by kernel_rfl) Z Z Z (QV.assign Z Z) ?_
 refine Acc (by kernel_rfl) ?_
 refine WQ.then (WC.seq (sr (wm Z (wq Z (QV.gtr Z Z Z Z) (nt ?_)))))
 refine wc Z hm23 (fun h27 hm28=>?_) (fun h27 hm76=>?_) <;> clear hm23
 ·skip
  refine WC.seq (sr (wm Z (wf Uj Z (wl pl3 Z (Own.cell 4 Z Z) ?_))))
  obtain⟨c29,c31,hm32⟩:=cs2 hm28;clear hm28
  refine wq Z (QV.add Z Z Z Z c29) (wq Z (QV.sub Z Z Z Z c31) (wm Z (nt ?_)))
  refine WK.of (fun w hw=>hw.ovecNil (E:=151) (sz:=3) (enc:=Due.cells)) ?_
  obtain⟨o34,ho35,hm36⟩:=Ag hm32;clear hm32;obtain⟨n37,ho38⟩:=A0 ho35
  refine Zx (H2:=[blk b2 [i_ k_.pace,i_ k_.stages,v_k__ops] 31,blk b1 t.cells 28]) (τ:=[u_ 6 _,u_ 15 _,u_ 62 _]) (fun (v33_9:List Due) (r25_9:List (List Int)) (r20_9:List Int) (x63_9:Int) (uv33_9:Value) (ur25_9:Value) (hsr25_9:List Value) (ur20_9:Value) (k_9:World)=>[(63,(true,i_ x63_9))]) (fun v33_9 r25_9 r20_9 x63_9 uv33_9 ur25_9 hsr25_9 ur20_9 k_9=>[Bm uv33_9 151 3 (List.map Due.cells v33_9),blk b26 [i_ t.u0,i_ t.u1,i_ t.u2,i_ t.w0,i_ t.w1,i_ t.w2,i_ t.regs,i_ k_.pace,i_ k_.stages,v_k__ops,ur20_9,ur25_9,i_ turns,uv33_9] 115,kn M w.heap.size K0 k_9,Bv ur25_9 hsr25_9 33 2 r25_9,vec ur20_9 2 1 (List.map Af r20_9)]) (fun v33_9 r25_9 r20_9 x63_9 uv33_9 ur25_9 hsr25_9 ur20_9 k_9 m=>B3 (Gr t k_ turns) m (v33_9,r25_9,r20_9,x63_9)=some o34∧SliceLen uv33_9 v33_9.length∧SliceLen ur25_9 r25_9.length∧GL hsr25_9 r25_9∧SliceLen ur20_9 r20_9.length∧Le X24.2.2 k_9) (fun v33_9 r25_9 r20_9 x63_9 uv33_9 ur25_9 hsr25_9 ur20_9 k_9=>o34=.go (v33_9,r25_9,r20_9,x63_9)∧SliceLen uv33_9 v33_9.length∧SliceLen ur25_9 r25_9.length∧GL hsr25_9 r25_9∧SliceLen ur20_9 r20_9.length∧Le X24.2.2 k_9) [] x21 x16 0 (.slice none 0 0) X24.1 X24.2.1 X19.1 X24.2.2 n37 ⟨ho38,SliceLen.nil,hF24.1,hF24.2,hF19,(Le.refl _)⟩ ⟨Z,Z,Z,Z,trivial⟩ (pk [0,1,2,3,4,5,6]) ?_ ?_
  ·skip
   rintro v33_9 r25_9 r20_9 x63_9 uv33_9 ur25_9 hsr25_9 ur20_9 k_9 ⟨rfl,hlv33_9,hlr25_9,hgr25_9,hlr20_9,hle_9⟩
   refine WQ.then (WC.region (wm Z (Aa Z ?_)))
   obtain⟨x39,hx40,hm41⟩:=Ag hm36;clear hm36
   refine EV.of (C':=Own M w [kn M w.heap.size K0 k_9,blk b26 [i_ t.u0,i_ t.u1,i_ t.u2,i_ t.w0,i_ t.w1,i_ t.w2,i_ t.regs,i_ k_.pace,i_ k_.stages,v_k__ops,ur20_9,ur25_9,i_ turns,uv33_9] 115,vec ur20_9 2 1 (List.map Af r20_9),Bv ur25_9 hsr25_9 33 2 r25_9,Bm uv33_9 151 3 (List.map Due.cells v33_9),blk b2 [i_ k_.pace,i_ k_.stages,v_k__ops] 31,blk b1 t.cells 28]) (pk [2,1,4,3,0,5,6]) ?_
   refine(A4 (X:=Value×Value×World) (R:=[blk b26 [i_ t.u0,i_ t.u1,i_ t.u2,i_ t.w0,i_ t.w1,i_ t.w2,i_ t.regs,i_ k_.pace,i_ k_.stages,v_k__ops,ur20_9,ur25_9,i_ turns,uv33_9] 115,vec ur20_9 2 1 (List.map Af r20_9),Bv ur25_9 hsr25_9 33 2 r25_9,Bm uv33_9 151 3 (List.map Due.cells v33_9)]) (fun X=>.tuple #[]) (fun X=>[blk b26 [i_ t.u0,i_ t.u1,i_ t.u2,i_ t.w0,i_ t.w1,i_ t.w2,i_ t.regs,i_ k_.pace,i_ k_.stages,v_k__ops,X.1,ur25_9,i_ turns,X.2.1] 115,Bv ur25_9 hsr25_9 33 2 r25_9,vec X.1 2 1 (List.map Af x39.1),Bm X.2.1 151 3 (List.map Due.cells x39.2)]) (fun X=>X.2.2) (fun X=>SliceLen X.1 (x39.1).length∧SliceLen X.2.1 (x39.2).length) hk (fun _ h=>by cases h;decide) en59 (ec Z (ec Z eN)) (fun M w h1 h2=>have h:=K5 hx40 (h_k__ops.le (((hle6.trans hle19).trans hle24).trans hle_9)) hlr20_9 hlr25_9 hgr25_9 hlv33_9 M w h1 h2;h) (fun X42 hF42 hle42=>?_))
   refine nt (WC.seq (B9 (m:=11) (by kernel_rfl) (by kernel_rfl) (fun w hw=>hw) (zm 0 Z Z (wz 1 Z Z (QV.nilCheck Z Z) (zf 2 Ta Z Z (zl 3 Nc Z Z (Own.cell 1 Z Z) (zm 4 Z Z (wz 5 Z Z (QV.nilCheck Z Z) (zf 6 Aa8 Z Z (zl 7 N1 Z Z (Own.cell 1 Z Z) ?_))))))))))
   refine wz 8 Z Z (QV.assign Z Z) (wz 9 Z Z (QV.assign Z Z) (wz 10 Z Z (QV.assign Z Z) ?_))
   refine WD.e (by kernel_rfl) ?_
   refine WQ.then (WC.ret ?_)
   obtain rfl:=(Ae hm41).symm
   refine WK.of (C':=Own M w [kn M w.heap.size K0 X42.2.2,vec X42.1 2 1 (List.map Af x39.1),blk b26 [i_ t.u0,i_ t.u1,i_ t.u2,i_ t.w0,i_ t.w1,i_ t.w2,i_ t.regs,i_ k_.pace,i_ k_.stages,v_k__ops,X42.1,ur25_9,i_ turns,X42.2.1] 115,Bv ur25_9 hsr25_9 33 2 r25_9,Bm X42.2.1 151 3 (List.map Due.cells x39.2),blk b2 [i_ k_.pace,i_ k_.stages,v_k__ops] 31,blk b1 t.cells 28]) (pk [0,3,1,2,4,5,6]) ?_
   refine WK.freeze hk (fun k43 hle43 hr43=>?_)
   have hA43:=Cf hr43
   refine WK.of (C':=Own M w [kn M w.heap.size K0 k43,Bv ur25_9 hsr25_9 33 2 r25_9,blk b26 [i_ t.u0,i_ t.u1,i_ t.u2,i_ t.w0,i_ t.w1,i_ t.w2,i_ t.regs,i_ k_.pace,i_ k_.stages,v_k__ops,X42.1,ur25_9,i_ turns,X42.2.1] 115,Bm X42.2.1 151 3 (List.map Due.cells x39.2),blk b2 [i_ k_.pace,i_ k_.stages,v_k__ops] 31,blk b1 t.cells 28]) (pk [0,2,1,3,4,5]) ?_
   refine WK.freeze hk (fun k44 hle44 hr44=>?_)
   have hA44:=Uu hr44
   refine Q3 Z Z Z Z (fun w hw=>?_)
   exact⟨(X42.1,ur25_9,k44),Z,hw.pick [0] (by decide),(hA43.le hle44),hA44⟩
  rintro v33_9 r25_9 r20_9 x63_9 uv33_9 ur25_9 hsr25_9 ur20_9 k_9 m45 ⟨hI46,hlv33_9,hlr25_9,hgr25_9,hlr20_9,hle_9⟩
  obtain⟨m47,s48,rfl,hm49,hn50⟩:=Ap hI46;clear hI46;unfold Gr at hm49;simp only at hm49
  refine sr (wq Z (QV.lss Z Z Z Z) (nt (WC.seq ?_)))
  refine wc Z hm49 (fun h51 hm52=>?_) (fun h51 hm75=>?_) <;> clear hm49
  ·skip
   refine sk (WQ.then (WC.seq (WC.block (sr (wm Z (wa Z (ns (wf P5 Z (wl pl3 Z (Own.cell 5 Z Z) (wm Z (nt ?_)))))))))))
   obtain⟨o53,ho54,hm55⟩:=Ag hm52;clear hm52;obtain⟨n56,ho57⟩:=A0 ho54
   refine Zx (H2:=[blk b2 [i_ k_.pace,i_ k_.stages,v_k__ops] 31,blk b1 t.cells 28]) (τ:=[u_ 6 _,u_ 15 _,u_ 16 _,u_ 62 _,u_ 63 _,u_ 67 _]) (fun (v33_10:List Due) (r25_10:List (List Int)) (r20_10:List Int) (x68_10:Int) (uv33_10:Value) (ur25_10:Value) (hsr25_10:List Value) (ur20_10:Value) (k_10:World)=>[(68,(true,i_ x68_10))]) (fun v33_10 r25_10 r20_10 x68_10 uv33_10 ur25_10 hsr25_10 ur20_10 k_10=>[Bm uv33_10 151 3 (List.map Due.cells v33_10),blk b26 [i_ t.u0,i_ t.u1,i_ t.u2,i_ t.w0,i_ t.w1,i_ t.w2,i_ t.regs,i_ k_.pace,i_ k_.stages,v_k__ops,ur20_10,ur25_10,i_ turns,uv33_10] 115,kn M w.heap.size K0 k_10,Bv ur25_10 hsr25_10 33 2 r25_10,vec ur20_10 2 1 (List.map Af r20_10)]) (fun v33_10 r25_10 r20_10 x68_10 uv33_10 ur25_10 hsr25_10 ur20_10 k_10 m=>B3 (Gq t k_ turns x63_9) m (v33_10,r25_10,r20_10,x68_10)=some o53∧SliceLen uv33_10 v33_10.length∧SliceLen ur25_10 r25_10.length∧GL hsr25_10 r25_10∧SliceLen ur20_10 r20_10.length∧Le k_9 k_10) (fun v33_10 r25_10 r20_10 x68_10 uv33_10 ur25_10 hsr25_10 ur20_10 k_10=>o53=.go (v33_10,r25_10,r20_10,x68_10)∧SliceLen uv33_10 v33_10.length∧SliceLen ur25_10 r25_10.length∧GL hsr25_10 r25_10∧SliceLen ur20_10 r20_10.length∧Le k_9 k_10) v33_9 r25_9 r20_9 0 uv33_9 ur25_9 hsr25_9 ur20_9 k_9 n56 ⟨ho57,hlv33_9,hlr25_9,hgr25_9,hlr20_9,(Le.refl _)⟩ ⟨Z,Z,Z,Z,Z,Z,Z,trivial⟩ (pk [0,1,2,3,4,5,6]) ?_ ?_
   ·skip
    rintro v33_10 r25_10 r20_10 x68_10 uv33_10 ur25_10 hsr25_10 ur20_10 k_10 ⟨rfl,hlv33_10,hlr25_10,hgr25_10,hlr20_10,hle_10⟩
    refine WQ.block (WQ.then (WC.region ?_))
    obtain⟨c58,hm59⟩:=cs hm55;clear hm55
    refine wq Z (QV.add Z Z Z Z c58) (wm Z (WL.nil ?_))
    exact Zv v33_10 r25_10 r20_10 (x63_9+1) uv33_10 ur25_10 hsr25_10 ur20_10 k_10 m47 ⟨Ax hm59 hn50,hlv33_10,hlr25_10,hgr25_10,hlr20_10,(hle_9.trans hle_10)⟩ (Nat.lt_succ_self _) ⟨Z,Z,Z,Z,trivial⟩ (pk [0,1,2,3,4,5,6])
   rintro v33_10 r25_10 r20_10 x68_10 uv33_10 ur25_10 hsr25_10 ur20_10 k_10 m60 ⟨hI61,hlv33_10,hlr25_10,hgr25_10,hlr20_10,hle_10⟩
   obtain⟨m62,s63,rfl,hm64,hn65⟩:=Ap hI61;clear hI61;unfold Gq at hm64;simp only at hm64
   refine sr (wq Z (QV.lss Z Z Z Z) (nt (WC.seq ?_)))
   refine wc Z hm64 (fun h66 hm67=>?_) (fun h66 hm74=>?_) <;> clear hm64
   ·skip
    refine sk (WQ.then (WC.seq (WC.block (sr (wm Z (wa Z (nr (wm Z (wm Z (wm Z (Aa Z ?_)))))))))))
    obtain⟨x68,hx69,hm70⟩:=Ag hm67;clear hm67
    refine EV.of (C':=Own M w [kn M w.heap.size K0 k_10,blk b26 [i_ t.u0,i_ t.u1,i_ t.u2,i_ t.w0,i_ t.w1,i_ t.w2,i_ t.regs,i_ k_.pace,i_ k_.stages,v_k__ops,ur20_10,ur25_10,i_ turns,uv33_10] 115,vec ur20_10 2 1 (List.map Af r20_10),Bv ur25_10 hsr25_10 33 2 r25_10,Bm uv33_10 151 3 (List.map Due.cells v33_10),blk b2 [i_ k_.pace,i_ k_.stages,v_k__ops] 31,blk b1 t.cells 28]) (pk [2,1,4,3,0,5,6]) ?_
    refine(A4 (X:=Value×Value×(List Value)×Value×World) (R:=[blk b26 [i_ t.u0,i_ t.u1,i_ t.u2,i_ t.w0,i_ t.w1,i_ t.w2,i_ t.regs,i_ k_.pace,i_ k_.stages,v_k__ops,ur20_10,ur25_10,i_ turns,uv33_10] 115,vec ur20_10 2 1 (List.map Af r20_10),Bv ur25_10 hsr25_10 33 2 r25_10,Bm uv33_10 151 3 (List.map Due.cells v33_10)]) (fun X=>.tuple #[]) (fun X=>[blk b26 [i_ t.u0,i_ t.u1,i_ t.u2,i_ t.w0,i_ t.w1,i_ t.w2,i_ t.regs,i_ k_.pace,i_ k_.stages,v_k__ops,X.1,X.2.1,i_ turns,X.2.2.2.1] 115,vec X.1 2 1 (List.map Af x68.1),Bv X.2.1 X.2.2.1 33 2 x68.2.1,Bm X.2.2.2.1 151 3 (List.map Due.cells x68.2.2)]) (fun X=>X.2.2.2.2) (fun X=>SliceLen X.1 (x68.1).length∧SliceLen X.2.1 (x68.2.1).length∧GL X.2.2.1 x68.2.1∧SliceLen X.2.2.2.1 (x68.2.2).length) hk (fun _ h=>by cases h;decide) en58 (ec Z (ec Z (ec Z eN))) (fun M w h1 h2=>have h:=Pi hx69 (h_k__ops.le ((((hle6.trans hle19).trans hle24).trans hle_9).trans hle_10)) hlr20_10 hlr25_10 hgr25_10 hlv33_10 M w h1 h2;h) (fun X71 hF71 hle71=>?_))
    refine WL.nil (WQ.block (WQ.then (WC.region ?_)))
    obtain⟨c72,hm73⟩:=cs hm70;clear hm70
    refine wq Z (QV.add Z Z Z Z c72) (wm Z (WL.nil ?_))
    exact Zv x68.2.2 x68.2.1 x68.1 (x68_10+1) X71.2.2.2.1 X71.2.1 X71.2.2.1 X71.1 X71.2.2.2.2 m62 ⟨Ax hm73 hn65,hF71.2.2.2,hF71.2.1,hF71.2.2.1,hF71.1,(hle_10.trans hle71)⟩ (Nat.lt_succ_self _) ⟨Z,Z,Z,Z,Z,Z,Z,trivial⟩ (pk [4,1,0,3,2,5,6])
   refine WC.exit (te (te (Ai ?_)))
   exact Agg v33_10 r25_10 r20_10 x68_10 uv33_10 ur25_10 hsr25_10 ur20_10 k_10 ⟨A6 hm74 hn65,hlv33_10,hlr25_10,hgr25_10,hlr20_10,hle_10⟩ ⟨Z,Z,Z,Z,Z,Z,Z,trivial⟩ (pk [0,1,2,3,4,5,6])
  refine WC.exit (te (te (Ai ?_)))
  exact Agg v33_9 r25_9 r20_9 x63_9 uv33_9 ur25_9 hsr25_9 ur20_9 k_9 ⟨A6 hm75 hn50,hlv33_9,hlr25_9,hgr25_9,hlr20_9,hle_9⟩ ⟨Z,Z,Z,Z,trivial⟩ (pk [0,1,2,3,4,5,6])
 refine sk (WQ.then (WC.seq (B9 (m:=11) (S:=Own M w [kn M w.heap.size K0 X24.2.2,blk b26 [i_ t.u0,i_ t.u1,i_ t.u2,i_ t.w0,i_ t.w1,i_ t.w2,i_ t.regs,i_ k_.pace,i_ k_.stages,v_k__ops,X19.1,X24.1,i_ turns,.slice none 0 0] 115,Bv X24.1 X24.2.1 33 2 x21,vec X19.1 2 1 (List.map Af x16),blk b2 [i_ k_.pace,i_ k_.stages,v_k__ops] 31,blk b1 t.cells 28]) (by kernel_rfl) (by kernel_rfl) (pk [1,0,2,3,4,5]) (zm 0 Z Z (wz 1 Z Z (QV.nilCheck Z Z) (zf 2 Ta Z Z (zl 3 Nc Z Z (Own.cell 1 Z Z) (zm 4 Z Z (wz 5 Z Z (QV.nilCheck Z Z) (zf 6 Aa8 Z Z (zl 7 N1 Z Z (Own.cell 1 Z Z) ?_)))))))))))
 refine wz 8 Z Z (QV.assign Z Z) (wz 9 Z Z (QV.assign Z Z) (wz 10 Z Z (QV.assign Z Z) ?_))
 refine WD.e (by kernel_rfl) ?_
 refine WQ.then (WC.ret ?_)
 obtain rfl:=(Ae hm76).symm
 refine WK.of (C':=Own M w [kn M w.heap.size K0 X24.2.2,vec X19.1 2 1 (List.map Af x16),blk b26 [i_ t.u0,i_ t.u1,i_ t.u2,i_ t.w0,i_ t.w1,i_ t.w2,i_ t.regs,i_ k_.pace,i_ k_.stages,v_k__ops,X19.1,X24.1,i_ turns,.slice none 0 0] 115,Bv X24.1 X24.2.1 33 2 x21,blk b2 [i_ k_.pace,i_ k_.stages,v_k__ops] 31,blk b1 t.cells 28]) (pk [1,3,0,2,4,5]) ?_
 refine WK.freeze hk (fun k77 hle77 hr77=>?_)
 have hA77:=Cf hr77
 refine WK.of (C':=Own M w [kn M w.heap.size K0 k77,Bv X24.1 X24.2.1 33 2 x21,blk b26 [i_ t.u0,i_ t.u1,i_ t.u2,i_ t.w0,i_ t.w1,i_ t.w2,i_ t.regs,i_ k_.pace,i_ k_.stages,v_k__ops,X19.1,X24.1,i_ turns,.slice none 0 0] 115,blk b2 [i_ k_.pace,i_ k_.stages,v_k__ops] 31,blk b1 t.cells 28]) (pk [0,2,1,3,4]) ?_
 refine WK.freeze hk (fun k78 hle78 hr78=>?_)
 have hA78:=Uu hr78
 refine Q3 Z Z Z Z (fun w hw=>?_)
 exact⟨(X19.1,X24.1,k78),Z,hw.pick [0] (by decide),(hA77.le hle78),hA78⟩
end Go.Proofs.Ytaimbkndebaaiac
end
section
namespace Go.Proofs.Ytaimbkndebaaiac
open Go.Rd
open TNum TLoop TStable TMach TMach2 TKern TClone TNbr TSeq TKRun
namespace TKeep
theorem ag185:N4 Try.prog 185 2:=⟨_,Try.underlying185,rfl,by kernel_rfl⟩
theorem en101:Go.Rd.Enters Try.prog 101:=eT Try.func101
theorem en102:Go.Rd.Enters Try.prog 102:=eT Try.func102
theorem en125:Go.Rd.Enters Try.prog 125:=eT Try.func125
theorem en138:Go.Rd.Enters Try.prog 138:=eT Try.func138
theorem en36:Go.Rd.Enters Try.prog 36:=eT Try.func36
theorem Af3:Bw Try.prog 185 0 0:=fT 0 Try.underlying185
theorem Am1:Bw Try.prog 185 1 1:=fT 0 Try.underlying185
theorem Ug:Bw Try.prog 87 0 0:=fT 2 Try.underlying87
theorem Aah:Bw Try.prog 87 1 3:=fT 0 Try.underlying87
theorem Mu:Bw Try.prog 87 2 4:=fT 0 Try.underlying87
theorem Uf:Bw Try.prog 87 3 5:=fT 0 Try.underlying87
theorem Sa:Bw Try.prog 87 4 6:=fT 0 Try.underlying87
theorem K9:Bw Try.prog 87 5 7:=fT 0 Try.underlying87
theorem kt3:KeyT Try.prog 3 kI:=KeyT.int Try.underlying3
theorem Afk:Ad8 Try.prog 154 3 4:=Try.underlying154
theorem pl4:K3 Try.prog 4:=⟨_,Try.underlying4,rfl⟩
theorem sl162:Ia Try.prog 162 185 2:=⟨Try.underlying162,by kernel_rfl⟩
theorem sz185:C8 Try.prog 185 2:=by unfold C8;kernel_rfl
theorem Ao1:L6 Try.prog 162 185 2 [.int .i64 0,.bool false]:=⟨Try.underlying162,by kernel_rfl⟩
theorem ve162:Rl Try.prog 162 185 2 16:=⟨Try.underlying162,by kernel_rfl,by decide⟩
theorem ze185:ZeroT Try.prog 185 [.int .i64 0,.bool false]:=by unfold ZeroT;kernel_rfl
theorem Anv:Z9 Try.prog 4 (bv false):=by unfold Z9;kernel_rfl
end TKeep
open TKeep
theorem Xo {v_l_logs v_l_body v_l_outs:Value}{l:Lp}{a r:Int} (w:World) (hm:Lj l a=some r) (h_l_logs:Arr w v_l_logs 1 (l.logs.map Af)) (h_l_body:Arr w v_l_body 9 (l.body.map Stm.cells)) (h_l_outs:Arr w v_l_outs 1 (l.outs.map Af)):Calls Try.prog 36 #[.agg #[v_l_logs,v_l_body,v_l_outs],.int .i64 a] w (fun e w'=>e=.returned (.int .i64 r)∧Grow w w'):=by
 unfold Lj at hm
 have hk:=Base.rfl (w:=w)
 refine Ak (n:=35) (args:=[.agg #[v_l_logs,v_l_body,v_l_outs],i_ a]) Try.func36 Z Z (nl Z) ?_ (An hk (Own.start w))
 refine sr (Aa Z ?_)
 refine(Aq (by decide) Z Z (fun b1=>?_))
 refine wa Z (ns (wa Z (nt (WC.seq (sr (wf Co Z (wl Gv Z (Own.cell 0 Z Z) (wq Z (Ay Try.underlying23 Z Z h_l_body.lenMap) (wm Z (nt ?_))))))))))
 obtain⟨o2,ho3,hm4⟩:=Ag hm;clear hm;obtain⟨n5,ho6⟩:=A0 ho3
 refine D2 (H2:=[blk b1 [v_l_logs,v_l_body,v_l_outs] 25]) (τ:=[u_ 1 _,u_ 11 _,u_ 12 _]) (fun (far5_3:Int) (x13_3:Int) (k_3:World)=>[(5,(true,i_ far5_3)),(13,(true,i_ x13_3))]) (fun far5_3 x13_3 k_3=>[kn noM w.heap.size w k_3]) (fun far5_3 x13_3 k_3 m=>B3 (Ik l a) m (far5_3,x13_3)=some o2∧Le w k_3) (fun far5_3 x13_3 k_3=>o2=.go (far5_3,x13_3)∧Le w k_3) 0 0 w n5 ⟨ho6,(Le.refl _)⟩ ⟨Z,Z,Z,Z,Z,trivial⟩ (pk [1,0]) ?_ ?_
 ·skip
  rintro far5_3 x13_3 k_3 ⟨rfl,hle_3⟩
  refine WQ.then (sr (wm Z (wa Z (nt (WC.ret ?_)))))
  obtain rfl:=(Ae hm4).symm
  exact Ar Z Z fun w hw=>kg hw
 rintro far5_3 x13_3 k_3 m7 ⟨hI8,hle_3⟩
 obtain⟨m9,s10,rfl,hm11,hn12⟩:=Ap hI8;clear hI8;unfold Ik at hm11;simp only at hm11
 refine sr (wq Z (QV.lss Z Z Z Z) (nt (WC.seq ?_)))
 refine wc Z hm11 (fun h13 hm14=>?_) (fun h13 hm52=>?_) <;> clear hm11
 ·skip
  refine sk (WQ.then (WC.seq (WC.block (sr ?_))))
  obtain⟨c15,hm16⟩:=cs hm14;clear hm14
  obtain⟨p17,hp18⟩:=(h_l_body.le hle_3).lenMap.ix (sz:=9) Au c15
  refine wq Z (Ad Pp Z Z Z Z hp18) (wq Z (Ac Kk Z Z Z (fun w hw=>((Ah 0 Z hk (h_l_body.le hle_3)) w hw).ele hp18 c15)) (Aa Z ?_))
  refine(EV.alloc (by decide) Nz (fun b19=>?_))
  refine Aa Z ?_
  refine(EV.store 0 Z Z Z Z Z Z (vs:=(Stm.cells (ele l.body x13_3))) (show Value.cells _=List.toArray _ from Z) N0 (nl Z) (oc Z (oc Z (oc Z (oc Z (oc Z (oc Z (oc Z (oc Z (oc Z Aw))))))))) ?_)
  refine ns (wq Z (Ac Kk Z Z Z (Ab 0 Z)) (Aa Z ?_))
  obtain⟨x20,hx21,hm22⟩:=Ag hm16;clear hm16
  refine EV.of (C':=Own noM w [kn noM w.heap.size w k_3,blk b19 (Stm.cells (ele l.body x13_3)) 81,blk b1 [v_l_logs,v_l_body,v_l_outs] 25]) (pk [1,0,2]) ?_
  refine(A4 (X:=Value×World) (R:=[]) (fun X=>X.1) (fun X=>[]) (fun X=>X.2) (fun X=>Arr X.2 X.1 2 (x20.map Rf.cells)) hk (fun _ h=>by cases h;decide) Ad7 (ec Z eN) (fun M w h1 h2=>have h:=Ii hx21  M w h1 h2;h) (fun X23 hF23 hle23=>?_))
  refine wq Z (Ay Try.underlying76 Z Z hF23.lenMap) (wm Z (nt ?_))
  obtain⟨o24,ho25,hm26⟩:=Ag hm22;clear hm22;obtain⟨n27,ho28⟩:=A0 ho25
  refine Bz (H2:=[kn noM w.heap.size w X23.2,blk b19 (Stm.cells (ele l.body x13_3)) 81,blk b1 [v_l_logs,v_l_body,v_l_outs] 25]) (τ:=[u_ 1 _,u_ 11 _,u_ 12 _,u_ 13 _,u_ 18 _,u_ 19 _]) (fun (far5_4:Int) (x20_4:Int)=>[(5,(true,i_ far5_4)),(20,(true,i_ x20_4))]) (fun far5_4 x20_4=>[]) (fun far5_4 x20_4 m=>B3 (Ij a x20) m (far5_4,x20_4)=some o24) (fun far5_4 x20_4=>o24=.go (far5_4,x20_4)) far5_3 0 n27 ho28 ⟨Z,Z,Z,Z,Z,Z,Z,Z,trivial⟩ (pk [0,1,2]) ?_ ?_
  ·skip
   rintro far5_4 x20_4 rfl
   refine WQ.block (WQ.then (WC.region ?_))
   obtain⟨c29,hm30⟩:=cs hm26;clear hm26
   refine wq Z (QV.add Z Z Z Z c29) (wm Z (WL.nil ?_))
   exact C4 far5_4 (x13_3+1) X23.2 m9 ⟨Ax hm30 hn12,(hle_3.trans hle23)⟩ (Nat.lt_succ_self _) ⟨Z,Z,Z,Z,Z,trivial⟩ (pk [0,2])
  rintro far5_4 x20_4 m31 hI32
  obtain⟨m33,s34,rfl,hm35,hn36⟩:=Ap hI32;clear hI32;unfold Ij at hm35;simp only at hm35
  refine sr (wq Z (QV.lss Z Z Z Z) (nt (WC.seq ?_)))
  refine wc Z hm35 (fun h37 hm38=>?_) (fun h37 hm51=>?_) <;> clear hm35
  ·skip
   refine sk (WQ.then (WC.seq (WC.block (sr ?_))))
   obtain⟨c39,hm40⟩:=cs hm38;clear hm38
   obtain⟨p41,hp42⟩:=hF23.lenMap.ix (sz:=2) Au c39
   refine wq Z (Ad Ags Z Z Z Z hp42) (wq Z (Ac K6 Z Z Z (fun w hw=>((Ah 0 Z hk hF23) w hw).ele hp42 c39)) (Aa Z ?_))
   refine(EV.alloc (by decide) Ad2 (fun b43=>?_))
   refine Aa Z ?_
   refine(EV.store 0 Z Z Z Z Z Z (vs:=[i_ ((ele x20 x20_4).st),i_ ((ele x20 x20_4).bk)]) (show Value.cells _=List.toArray _ from Z) Wb (nl Z) (oc Z (oc Z Aw)) ?_)
   refine ns (wf Mw Z (wl pl3 Z (Own.cell 0 Z Z) (wm Z (wq Z (QV.eql Z Z Z Z) (nt ?_)))))
   refine wc Z hm40 (fun h44 hm45=>?_) (fun h44 hm48=>?_) <;> clear hm40
   ·skip
    refine WC.region (wm Z (wf Mv Z (wl pl3 Z (Own.cell 0 Z Z) (wq Z (QV.max2 Z Z Z Z) (wa Z (WL.nil (WQ.block (WQ.then (WC.region ?_)))))))))
    obtain⟨c46,hm47⟩:=cs hm45;clear hm45
    refine wq Z (QV.add Z Z Z Z c46) (wm Z (WL.nil ?_))
    exact Bn (max far5_4 ((ele x20 x20_4).bk)) (x20_4+1) m33 (Ax hm47 hn36) (Nat.lt_succ_self _) ⟨Z,Z,Z,Z,Z,Z,Z,Z,trivial⟩ (pk [1,2,3])
   refine sk (WQ.block (WQ.then (WC.region ?_)))
   obtain⟨c49,hm50⟩:=cs hm48;clear hm48
   refine wq Z (QV.add Z Z Z Z c49) (wm Z (WL.nil ?_))
   exact Bn far5_4 (x20_4+1) m33 (Ax hm50 hn36) (Nat.lt_succ_self _) ⟨Z,Z,Z,Z,Z,Z,Z,Z,trivial⟩ (pk [1,2,3])
  refine WC.exit (te (te (Ai ?_)))
  exact Cb far5_4 x20_4 (A6 hm51 hn36) ⟨Z,Z,Z,Z,Z,Z,Z,Z,trivial⟩ (pk [0,1,2])
 refine WC.exit (te (te (Ai ?_)))
 exact Gw far5_3 x13_3 k_3 ⟨A6 hm52 hn12,hle_3⟩ ⟨Z,Z,Z,Z,Z,trivial⟩ (pk [0,1])
theorem Vx {v_s:Value}{s:List Int}{v r:Int} (w:World) (hm:J1 s v=some r) (h_s:Arr w v_s 1 (s.map Af)):Calls Try.prog 138 #[v_s,.int .i64 v] w (fun e w'=>e=.returned (.int .i64 r)∧Grow w w'):=by
 unfold J1 at hm
 have hk:=Base.rfl (w:=w)
 refine Ak (n:=19) (args:=[v_s,i_ v]) Try.func138 Z Z (nl Z) ?_ (An hk (Own.start w))
 refine sr (wa Z (nt (WC.seq (sr (wm Z (wq Z (Ay Try.underlying22 Z Z h_s.lenMap) (wm Z (nt ?_))))))))
 obtain⟨o1,ho2,hm3⟩:=Ag hm;clear hm;obtain⟨n4,ho5⟩:=A0 ho2
 refine Ci (H2:=[kn noM w.heap.size w w]) (τ:=[u_ 0 _,u_ 1 _,u_ 7 _]) (fun (x8_1:Int)=>[(8,(true,i_ x8_1))]) (fun x8_1=>[]) (fun x8_1 m=>B3 (Fi s v) m x8_1=some o1) (fun x8_1=>o1=.go x8_1) 0 n4 ho5 ⟨Z,Z,Z,Z,trivial⟩ (pk [0]) ?_ ?_
 ·skip
  rintro x8_1 rfl
  refine WQ.then (sr (wa Z (nt (WC.ret ?_))))
  obtain rfl:=(Ae hm3).symm
  exact Ar Z Z fun w hw=>kg hw
 rintro x8_1 m6 hI7
 obtain⟨m8,s9,rfl,hm10,hn11⟩:=Ap hI7;clear hI7;unfold Fi at hm10
 refine sr (wq Z (QV.lss Z Z Z Z) (nt (WC.seq ?_)))
 refine wc Z hm10 (fun h12 hm13=>?_) (fun h12 hm23=>?_) <;> clear hm10
 ·skip
  refine sk (WQ.then (WC.seq (WC.block (sr (wm Z (wa Z (ns (wm Z (wm Z (wm Z ?_))))))))))
  obtain⟨c14,hm15⟩:=cs hm13;clear hm13
  obtain⟨p16,hp17⟩:=h_s.lenMap.ix (sz:=1) Au c14
  refine wq Z (Ad Ei Z Z Z Z hp17) (wl pl3 Z (fun w hw=>CellsAt.one 0 (((Ah 0 Z hk h_s) w hw).ele hp17 c14) Z) (wq Z (QV.eql Z Z Z Z) (nt ?_)))
  refine wc Z hm15 (fun h18 hm19=>?_) (fun h18 hm20=>?_) <;> clear hm15
  ·skip
   refine sr (wm Z (wa Z (nt (WC.ret (kr (tr (tr (kr (tr (tr ?_))))))))))
   obtain rfl:=Cy hm19 hn11
   obtain rfl:=(Ae hm3).symm
   exact Ar Z Z fun w hw=>kg hw
  refine sk (WQ.block (WQ.then (WC.region ?_)))
  obtain⟨c21,hm22⟩:=cs hm20;clear hm20
  refine wq Z (QV.add Z Z Z Z c21) (wm Z (WL.nil ?_))
  exact Ch (x8_1+1) m8 (Ax hm22 hn11) (Nat.lt_succ_self _) ⟨Z,Z,Z,Z,trivial⟩ (pk [0])
 refine WC.exit (te (te (Ai ?_)))
 exact C7 x8_1 (A6 hm23 hn11) ⟨Z,Z,Z,Z,trivial⟩ (pk [0])
theorem St {v_s:Value}{s:List Int}{v:Int}{r:Bool} (w:World) (hm:F0 s v=some r) (h_s:Arr w v_s 1 (s.map Af)):Calls Try.prog 125 #[v_s,.int .i64 v] w (fun e w'=>e=.returned (.bool r)∧Grow w w'):=by
 unfold F0 at hm
 have hk:=Base.rfl (w:=w)
 refine Ak (n:=9) (args:=[v_s,i_ v]) Try.func125 Z Z (nl Z) ?_ (An hk (Own.start w))
 refine sr (wa Z (ns (wm Z (wm Z ?_))))
 obtain⟨x1,hx2,hm3⟩:=Ag hm;clear hm
 refine wq Z (QV.call en138 (ec Z (ec Z eN)) (fun w hw=>have h:=Vx w hx2 ((Ah 0 Z hk h_s) w hw);h)) (wq Z (QV.geq Z Z Z Z) (wa Z (nt (WC.ret ?_))))
 obtain rfl:=(Ae hm3).symm
 exact Ar Z Z fun w hw=>kg hw
theorem Aib {p_y:Addr}{v_y_Loop_Logs v_y_Loop_Body v_y_Loop_Outs v_y_Time v_y_Ready v_y_Places:Value}{y_Loop_Body:List Stm}{y_Pace y_Regs:Int}{y_Time:List Int}{a:Int}{r:List Use}{K0:World} (hm:Oq y_Loop_Body y_Pace y_Regs y_Time a=some r) (h_y_Loop_Body:Arr K0 v_y_Loop_Body 9 (y_Loop_Body.map Stm.cells)) (h_y_Time:Arr K0 v_y_Time 1 (y_Time.map Af)) (hp_y:CellsAt K0 p_y [v_y_Loop_Logs,v_y_Loop_Body,v_y_Loop_Outs,.int .i64 y_Pace,.int .i64 y_Regs,v_y_Time,v_y_Ready,v_y_Places] 0) (M:Nat→Prop) (w:World) (hk:Base M K0 w) (hw0:Own M w [] w):Calls Try.prog 101 #[.pointer (some p_y),.int .i64 a] w (fun e w'=>∃ X:Value×World,e=.returned (X.1)∧Own M w (kn M w.heap.size K0 X.2::[]) w'∧Arr X.2 X.1 2 (r.map Use.cells)):=by
 unfold Oq at hm
 refine Ak (n:=57) (args:=[.pointer (some p_y),i_ a]) Try.func101 Z Z (nl Z) ?_ (An hk hw0)
 refine sr (wa Z (ns (wa Z (nt (WC.seq (sr (wm Z (wq Z (QV.nilCheck Z Z) (wf Ug Z (wf Co Z (wl Gv Z (fun w hw=>CellsAt.one 1 ((Am 0 Z hk hp_y) w hw) Z) ?_)))))))))))
 refine wq Z (Ay Try.underlying23 Z Z h_y_Loop_Body.lenMap) (wm Z (nt ?_))
 refine WK.of (fun w hw=>hw.vecNil (E:=185) (sz:=2) (enc:=Use.cells)) ?_
 obtain⟨o2,ho3,hm4⟩:=Ag hm;clear hm;obtain⟨n5,ho6⟩:=A0 ho3
 refine I5 (H2:=[]) (τ:=[u_ 0 _,u_ 1 _,u_ 14 _,u_ 15 _]) (fun (v1_4:List Use) (x16_4:Int) (uv1_4:Value) (k_4:World)=>[(5,(true,uv1_4)),(16,(true,i_ x16_4))]) (fun v1_4 x16_4 uv1_4 k_4=>[vec uv1_4 185 2 (List.map Use.cells v1_4),kn M w.heap.size K0 k_4]) (fun v1_4 x16_4 uv1_4 k_4 m=>B3 (Ln y_Loop_Body y_Pace y_Time a) m (v1_4,x16_4)=some o2∧SliceLen uv1_4 v1_4.length∧Le K0 k_4) (fun v1_4 x16_4 uv1_4 k_4=>o2=.go (v1_4,x16_4)∧SliceLen uv1_4 v1_4.length∧Le K0 k_4) [] 0 (.slice none 0 0) K0 n5 ⟨ho6,SliceLen.nil,(Le.refl _)⟩ ⟨Z,Z,Z,Z,Z,Z,trivial⟩ (pk [0,1]) ?_ ?_
 ·skip
  rintro v1_4 x16_4 uv1_4 k_4 ⟨rfl,hlv1_4,hle_4⟩
  refine WQ.then (sr (wm Z (wa Z (nt (WC.ret ?_)))))
  obtain rfl:=(Ae hm4).symm
  refine WK.of (C':=Own M w [kn M w.heap.size K0 k_4,vec uv1_4 185 2 (List.map Use.cells v1_4)]) (pk [1,0]) ?_
  refine WK.freeze hk (fun k7 hle7 hr7=>?_)
  have hA7:=Cf hr7
  refine Ar Z Z (fun w hw=>?_)
  exact⟨(uv1_4,k7),Z,hw.pick [0] (by decide),hA7⟩
 rintro v1_4 x16_4 uv1_4 k_4 m8 ⟨hI9,hlv1_4,hle_4⟩
 obtain⟨m10,s11,rfl,hm12,hn13⟩:=Ap hI9;clear hI9;unfold Ln at hm12;simp only at hm12
 refine sr (wq Z (QV.lss Z Z Z Z) (nt (WC.seq ?_)))
 refine wc Z hm12 (fun h14 hm15=>?_) (fun h14 hm66=>?_) <;> clear hm12
 ·skip
  refine sk (WQ.then (WC.seq (WC.block (sr (wm Z ?_)))))
  obtain⟨c16,hm17⟩:=cs hm15;clear hm15
  obtain⟨p18,hp19⟩:=(h_y_Loop_Body.le hle_4).lenMap.ix (sz:=9) Au c16
  refine wq Z (Ad Pp Z Z Z Z hp19) (wq Z (Ac Kk Z Z Z (fun w hw=>((Ah 1 Z hk (h_y_Loop_Body.le hle_4)) w hw).ele hp19 c16)) (Aa Z ?_))
  refine(EV.alloc (by decide) Nz (fun b20=>?_))
  refine wa Z (Aa Z ?_)
  refine(EV.store 0 Z Z Z Z Z Z (vs:=(Stm.cells (ele y_Loop_Body x16_4))) (show Value.cells _=List.toArray _ from Z) N0 (nl Z) (oc Z (oc Z (oc Z (oc Z (oc Z (oc Z (oc Z (oc Z (oc Z Aw))))))))) ?_)
  refine ns (wq Z (Ac Kk Z Z Z (Ab 0 Z)) (Aa Z ?_))
  obtain⟨x21,hx22,hm23⟩:=Ag hm17;clear hm17
  refine EV.of (C':=Own M w [kn M w.heap.size K0 k_4,blk b20 (Stm.cells (ele y_Loop_Body x16_4)) 81,vec uv1_4 185 2 (List.map Use.cells v1_4)]) (pk [2,0,1]) ?_
  refine(A4 (X:=Value×World) (R:=[]) (fun X=>X.1) (fun X=>[]) (fun X=>X.2) (fun X=>Arr X.2 X.1 2 (x21.map Rf.cells)) hk (fun _ h=>by cases h;decide) Ad7 (ec Z eN) (fun M w h1 h2=>have h:=Ii hx22  M w h1 h2;h) (fun X24 hF24 hle24=>?_))
  refine wq Z (Ay Try.underlying76 Z Z hF24.lenMap) (wm Z (nt ?_))
  obtain⟨o25,ho26,hm27⟩:=Ag hm23;clear hm23;obtain⟨n28,ho29⟩:=A0 ho26
  refine D2 (H2:=[kn M w.heap.size K0 X24.2,blk b20 (Stm.cells (ele y_Loop_Body x16_4)) 81]) (τ:=[u_ 0 _,u_ 1 _,u_ 6 _,u_ 14 _,u_ 15 _,u_ 16 _,u_ 22 _,u_ 23 _]) (fun (v1_5:List Use) (x24_5:Int) (uv1_5:Value)=>[(5,(true,uv1_5)),(24,(true,i_ x24_5))]) (fun v1_5 x24_5 uv1_5=>[vec uv1_5 185 2 (List.map Use.cells v1_5)]) (fun v1_5 x24_5 uv1_5 m=>B3 (J6 y_Pace y_Time a x16_4 x21) m (v1_5,x24_5)=some o25∧SliceLen uv1_5 v1_5.length) (fun v1_5 x24_5 uv1_5=>o25=.go (v1_5,x24_5)∧SliceLen uv1_5 v1_5.length) v1_4 0 uv1_4 n28 ⟨ho29,hlv1_4⟩ ⟨Z,Z,Z,Z,Z,Z,Z,Z,Z,Z,trivial⟩ (pk [2,0,1]) ?_ ?_
  ·skip
   rintro v1_5 x24_5 uv1_5 ⟨rfl,hlv1_5⟩
   refine WQ.block (WQ.then (WC.region ?_))
   obtain⟨c30,hm31⟩:=cs hm27;clear hm27
   refine wq Z (QV.add Z Z Z Z c30) (wm Z (WL.nil ?_))
   exact Ev v1_5 (x16_4+1) uv1_5 X24.2 m10 ⟨Ax hm31 hn13,hlv1_5,(hle_4.trans hle24)⟩ (Nat.lt_succ_self _) ⟨Z,Z,Z,Z,Z,Z,trivial⟩ (pk [0,1])
  rintro v1_5 x24_5 uv1_5 m32 ⟨hI33,hlv1_5⟩
  obtain⟨m34,s35,rfl,hm36,hn37⟩:=Ap hI33;clear hI33;unfold J6 at hm36;simp only at hm36
  refine sr (wq Z (QV.lss Z Z Z Z) (nt (WC.seq ?_)))
  refine wc Z hm36 (fun h38 hm39=>?_) (fun h38 hm65=>?_) <;> clear hm36
  ·skip
   refine sk (WQ.then (WC.seq (WC.block (sr ?_))))
   obtain⟨c40,hm41⟩:=cs hm39;clear hm39
   obtain⟨p42,hp43⟩:=hF24.lenMap.ix (sz:=2) Au c40
   refine wq Z (Ad Ags Z Z Z Z hp43) (wq Z (Ac K6 Z Z Z (fun w hw=>((Ah 1 Z hk hF24) w hw).ele hp43 c40)) (Aa Z ?_))
   refine(EV.alloc (by decide) Ad2 (fun b44=>?_))
   refine Aa Z ?_
   refine(EV.store 0 Z Z Z Z Z Z (vs:=[i_ ((ele x21 x24_5).st),i_ ((ele x21 x24_5).bk)]) (show Value.cells _=List.toArray _ from Z) Wb (nl Z) (oc Z (oc Z Aw)) ?_)
   refine ns (wf Mw Z (wl pl3 Z (Own.cell 0 Z Z) (wm Z (wq Z (QV.eql Z Z Z Z) (nt ?_)))))
   refine wc Z hm41 (fun h45 hm46=>?_) (fun h45 hm62=>?_) <;> clear hm41
   ·skip
    refine B9 (m:=23) (S:=Own M w [kn M w.heap.size K0 X24.2,blk b44 [i_ ((ele x21 x24_5).st),i_ ((ele x21 x24_5).bk)] 79,blk b20 (Stm.cells (ele y_Loop_Body x16_4)) 81]) (by kernel_rfl) (by kernel_rfl) (pk [2,0,3]) (zm 0 Z Z (zm 1 Z Z (wz 2 Z Z (QV.nilCheck Z Z) (zf 3 Uf Z Z (zl 4 Du Z Z (fun w hw=>CellsAt.one 5 ((Am 0 Z hk (hp_y.le (hle_4.trans hle24))) w hw) Z) (zm 5 Z Z ?_))))))
    obtain⟨c47,hm48⟩:=cs hm46;clear hm46
    obtain⟨p49,hp50⟩:=(h_y_Time.le (hle_4.trans hle24)).lenMap.ix (sz:=1) Au c47
    refine wz 6 Z Z (Ad Ei Z Z Z Z hp50) (zl 7 pl3 Z Z (fun w hw=>CellsAt.one 0 (((Ah 0 Z hk (h_y_Time.le (hle_4.trans hle24))) w hw).ele hp50 c47) Z) (zf 8 Mv Z Z (zl 9 pl3 Z Z (Own.cell 1 Z Z) (zm 10 Z Z (wz 11 Z Z (QV.nilCheck Z Z) (zf 12 Aah Z Z (zl 13 pl3 Z Z (fun w hw=>CellsAt.one 3 ((Am 0 Z hk (hp_y.le (hle_4.trans hle24))) w hw) Z) ?_)))))))
    obtain⟨c51,c53,c56,c60,hm61⟩:=cs4 hm48;clear hm48
    refine wz 14 Z Z (QV.mul Z Z Z Z c51) (wz 15 Z Z (QV.add Z Z Z Z c53) (zf 16 Mv Z Z (zl 17 pl3 Z Z (Own.cell 1 Z Z) (wz 18 Z Z (QV.gtr Z Z Z Z) (wz 19 Z Z (QV.build (ps:=[(0,.tmp 47),(1,.tmp 50)]) (cells:=[i_ ((ele y_Time x16_4)+((ele x21 x24_5).bk * y_Pace)),.bool (decide ((ele x21 x24_5).bk>0))]) (ec Z (ec Z eN)) (by kernel_rfl)) ?_)))))
    refine WD.o 20 Z (by kernel_rfl) Z ?_
    refine(EV.buildSlice (by decide) Ao1 (by decide) (by decide) (ps:=[(0,.tmp 51)]) (cells:=[i_ ((ele y_Time x16_4)+((ele x21 x24_5).bk * y_Pace)),.bool (decide ((ele x21 x24_5).bk>0))]) (ec Z eN) (by kernel_rfl) (fun b55=>?_))
    refine WD.b (H':=[kn M w.heap.size K0 X24.2,blk b55 [i_ ((ele y_Time x16_4)+((ele x21 x24_5).bk * y_Pace)),.bool (decide ((ele x21 x24_5).bk>0))] 185,blk b44 [i_ ((ele x21 x24_5).st),i_ ((ele x21 x24_5).bk)] 79,blk b20 (Stm.cells (ele y_Loop_Body x16_4)) 81]) (pk [3,0,1,4]) (pk [0,2,3]) ?_
    refine WD.o 21 Z (by kernel_rfl) Z ?_
    refine(Bx (enc:=Use.cells) (xs:=v1_5) (ys:=[(Use.mk ((ele y_Time x16_4)+((ele x21 x24_5).bk * y_Pace)) (decide ((ele x21 x24_5).bk>0)))]) ((v1_5++[(Use.mk ((ele y_Time x16_4)+((ele x21 x24_5).bk * y_Pace)) (decide ((ele x21 x24_5).bk>0)))])) 2 (by decide) ve162 Z Z Z Z Z (Bj 0 (rows:=[(Use.mk ((ele y_Time x16_4)+((ele x21 x24_5).bk * y_Pace)) (decide ((ele x21 x24_5).bk>0)))].map Use.cells) Z Z (B5 Use.cells_len)) Use.cells_len (Use.cells_one _) Z c56.1 c56.2 (fun u58 hu59=>?_))
    refine WD.b (H':=[kn M w.heap.size K0 X24.2,blk b55 [i_ ((ele y_Time x16_4)+((ele x21 x24_5).bk * y_Pace)),.bool (decide ((ele x21 x24_5).bk>0))] 185,blk b44 [i_ ((ele x21 x24_5).st),i_ ((ele x21 x24_5).bk)] 79,vec u58 185 2 (List.map Use.cells (v1_5++[(Use.mk ((ele y_Time x16_4)+((ele x21 x24_5).bk * y_Pace)) (decide ((ele x21 x24_5).bk>0)))])),blk b20 (Stm.cells (ele y_Loop_Body x16_4)) 81]) (pk [3,0,1,2,4]) (pk [0,1,2,4]) ?_
    refine wz 22 Z Z (QV.assign Z Z) ?_
    refine WD.e (by kernel_rfl) ?_
    refine WQ.block (WQ.then (WC.region (wq Z (QV.add Z Z Z Z c60) (wm Z (WL.nil ?_)))))
    exact C4 (v1_5++[(Use.mk ((ele y_Time x16_4)+((ele x21 x24_5).bk * y_Pace)) (decide ((ele x21 x24_5).bk>0)))]) (x24_5+1) u58 m34 ⟨Ax hm61 hn37,hu59⟩ (Nat.lt_succ_self _) ⟨Z,Z,Z,Z,Z,Z,Z,Z,Z,Z,trivial⟩ (pk [2,3,4])
   refine sk (WQ.block (WQ.then (WC.region ?_)))
   obtain⟨c63,hm64⟩:=cs hm62;clear hm62
   refine wq Z (QV.add Z Z Z Z c63) (wm Z (WL.nil ?_))
   exact C4 v1_5 (x24_5+1) uv1_5 m34 ⟨Ax hm64 hn37,hlv1_5⟩ (Nat.lt_succ_self _) ⟨Z,Z,Z,Z,Z,Z,Z,Z,Z,Z,trivial⟩ (pk [1,2,3])
  refine WC.exit (te (te (Ai ?_)))
  exact Gw v1_5 x24_5 uv1_5 ⟨A6 hm65 hn37,hlv1_5⟩ ⟨Z,Z,Z,Z,Z,Z,Z,Z,Z,Z,trivial⟩ (pk [0,1,2])
 refine WC.exit (te (te (Ai ?_)))
 exact Ko v1_4 x16_4 uv1_4 k_4 ⟨A6 hm66 hn13,hlv1_4,hle_4⟩ ⟨Z,Z,Z,Z,Z,Z,trivial⟩ (pk [0,1])
theorem Aln {p_y:Addr}{v_y_Loop_Logs v_y_Loop_Body v_y_Loop_Outs v_y_Time v_y_Ready v_y_Places v_uses:Value}{y_Loop_Outs:List Int}{y_Pace y_Regs:Int}{y_Ready:List Int}{a m_ j:Int}{uses:List Use}{r:Bool} (w:World) (hm:Qj y_Loop_Outs y_Pace y_Regs y_Ready a m_ j uses=some r) (h_y_Loop_Outs:Arr w v_y_Loop_Outs 1 (y_Loop_Outs.map Af)) (h_y_Ready:Arr w v_y_Ready 1 (y_Ready.map Af)) (hp_y:CellsAt w p_y [v_y_Loop_Logs,v_y_Loop_Body,v_y_Loop_Outs,.int .i64 y_Pace,.int .i64 y_Regs,v_y_Time,v_y_Ready,v_y_Places] 0) (h_uses:Arr w v_uses 2 (uses.map Use.cells)):Calls Try.prog 102 #[.pointer (some p_y),.int .i64 a,.int .i64 m_,.int .i64 j,v_uses] w (fun e w'=>e=.returned (.bool r)∧Grow w w'):=by
 unfold Qj at hm
 have hk:=Base.rfl (w:=w)
 refine Ak (n:=86) (args:=[.pointer (some p_y),i_ a,i_ m_,i_ j,v_uses]) Try.func102 Z Z (nl Z) ?_ (An hk (Own.start w))
 refine sr (wa Z (nt (WC.seq (B9 (m:=15) (by kernel_rfl) (by kernel_rfl) (fun w hw=>hw) (zm 0 Z Z (wz 1 Z Z (QV.nilCheck Z Z) (zf 2 Sa Z Z (zl 3 Du Z Z (fun w hw=>CellsAt.one 6 ((Am 0 Z hk hp_y) w hw) Z) (zm 4 Z Z ?_)))))))))
 obtain⟨c1,hm2⟩:=cs hm;clear hm
 obtain⟨p3,hp4⟩:=h_y_Ready.lenMap.ix (sz:=1) Au c1
 refine wz 5 Z Z (Ad Ei Z Z Z Z hp4) (zl 6 pl3 Z Z (fun w hw=>CellsAt.one 0 (((Ah 0 Z hk h_y_Ready) w hw).ele hp4 c1) Z) (zm 7 Z Z (zm 8 Z Z (wz 9 Z Z (QV.nilCheck Z Z) (zf 10 Aah Z Z (zl 11 pl3 Z Z (fun w hw=>CellsAt.one 3 ((Am 0 Z hk hp_y) w hw) Z) ?_))))))
 obtain⟨c5,c7,hm8⟩:=cs2 hm2;clear hm2
 refine wz 12 Z Z (QV.mul Z Z Z Z c5) (wz 13 Z Z (QV.add Z Z Z Z c7) (wz 14 Z Z (QV.assign Z Z) ?_))
 refine WD.e (by kernel_rfl) ?_
 refine WQ.then (WC.seq (sr (wm Z (wq Z (Ay Try.underlying162 Z Z h_uses.lenMap) (wm Z (nt ?_))))))
 obtain⟨o9,ho10,hm11⟩:=Ag hm8;clear hm8;obtain⟨n12,ho13⟩:=A0 ho10
 refine Ci (H2:=[kn noM w.heap.size w w]) (τ:=[u_ 0 _,u_ 1 _,u_ 3 _,u_ 11 _,u_ 28 _,u_ 29 _]) (fun (x30_1:Int)=>[(30,(true,i_ x30_1))]) (fun x30_1=>[]) (fun x30_1 m=>B3 (Kb y_Pace y_Ready a m_ j uses) m x30_1=some o9) (fun x30_1=>o9=.go x30_1) 0 n12 ho13 ⟨Z,Z,Z,Z,Z,Z,Z,trivial⟩ (pk [0]) ?_ ?_
 ·skip
  rintro x30_1 rfl
  refine WQ.then (sr (wm Z (wq Z (QV.leq Z Z Z Z) (wm Z (gp Z (fun hG=>QV.move Z Z) (gp Z (fun hG=>QV.move Z Z) (gp Z (fun hG=>QV.nilCheck Z hG) (gp Z (fun hG=>QV.fieldAddr Sa Z hG) (gp Z (fun hG=>QV.load Du Z hG (fun w hw=>CellsAt.one 6 ((Am 0 Z hk hp_y) w hw) Z)) (gp Z (fun hG=>QV.move Z Z) ?_))))))))))
  obtain⟨c14,hm15⟩:=cs hm11;clear hm11
  obtain⟨p16,hp17⟩:=h_y_Ready.lenMap.ixG (sz:=1) Au c14
  refine gp Z (fun hG=>Ad Ei Z hG Z hG (hp17 hG)) (gp Z (fun hG=>QV.load pl3 Z hG (fun w hw=>CellsAt.one 0 (((Ah 0 Z hk h_y_Ready) w hw).ele (hp17 hG) (c14 hG)) Z)) (gp Z (fun hG=>QV.geq Z hG Z hG) (wq Z (Az Z Z Z (fun h=>h)) (wm Z (gp Z (fun hG=>QV.move Z Z) (gp Z (fun hG=>QV.nilCheck Z hG) (gp Z (fun hG=>QV.fieldAddr Ug Z hG) (gp Z (fun hG=>QV.fieldAddr Aal Z hG) (gp Z (fun hG=>QV.load Du Z hG (fun w hw=>CellsAt.one 2 ((Am 0 Z hk hp_y) w hw) Z)) ?_)))))))))
  refine gp Z (fun hG=>QV.move Z Z) ?_
  obtain⟨x18,hx19,hm20⟩:=Ce hm15;clear hm15
  refine gp Z (fun hG=>QV.call en125 (EvAll.cons Z hG (EvAll.cons Z hG eN)) (fun w hw=>have h:=St w (hx19 hG) ((Ah 0 Z hk h_y_Loop_Outs) w hw);h)) (wq Z (Az Z Z Z (fun h=>h)) (wa Z (nt (WC.ret ?_))))
  obtain rfl:=(Ae hm20).symm
  exact Ar Z Z fun w hw=>kg hw
 rintro x30_1 m21 hI22
 obtain⟨m23,s24,rfl,hm25,hn26⟩:=Ap hI22;clear hI22;unfold Kb at hm25
 refine sr (wq Z (QV.lss Z Z Z Z) (nt (WC.seq ?_)))
 refine wc Z hm25 (fun h27 hm28=>?_) (fun h27 hm43=>?_) <;> clear hm25
 ·skip
  refine sk (WQ.then (WC.seq (WC.block (sr ?_))))
  obtain⟨c29,hm30⟩:=cs hm28;clear hm28
  obtain⟨p31,hp32⟩:=h_uses.lenMap.ix (sz:=2) Au c29
  refine wq Z (Ad sl162 Z Z Z Z hp32) (wq Z (Ac ag185 Z Z Z (fun w hw=>((Ah 0 Z hk h_uses) w hw).ele hp32 c29)) (Aa Z ?_))
  refine(EV.alloc (by decide) ze185 (fun b33=>?_))
  refine Aa Z ?_
  refine(EV.store 0 Z Z Z Z Z Z (vs:=[i_ ((ele uses x30_1).til),.bool ((ele uses x30_1).later)]) (show Value.cells _=List.toArray _ from Z) sz185 (nl Z) (oc Z (oc Z Aw)) ?_)
  refine ns (wm Z (wm Z (wq Z (QV.nilCheck Z Z) (wf Sa Z (wl Du Z (fun w hw=>CellsAt.one 6 ((Am 1 Z hk hp_y) w hw) Z) (wm Z ?_))))))
  obtain⟨c34,hm35⟩:=cs hm30;clear hm30
  obtain⟨p36,hp37⟩:=h_y_Ready.lenMap.ix (sz:=1) Au c34
  refine wq Z (Ad Ei Z Z Z Z hp37) (wl pl3 Z (fun w hw=>CellsAt.one 0 (((Ah 1 Z hk h_y_Ready) w hw).ele hp37 c34) Z) (wq Z (QV.geq Z Z Z Z) (wm Z (gp Z (fun hG=>QV.move Z Z) (gp Z (fun hG=>QV.fieldAddr Af3 Z Z) (gp Z (fun hG=>QV.load pl3 Z hG (Own.cell 0 Z Z)) (gp Z (fun hG=>QV.leq Z hG Z hG) (wq Z (Az Z Z Z (fun h=>h)) (wm Z ?_)))))))))
  refine gn Z (fun hG=>QV.fieldAddr Am1 Z Z) (gn Z (fun hG=>QV.load pl4 Z hG (Own.cell 0 Z Z)) (gn Z (fun hG=>QV.move Z hG) (gpC Z (fun hG=>QV.move Z Z) (gpC Z (fun hG=>QV.gtr Z hG Z Z) (gn Z (fun hG=>Az Z hG Z (fun h=>Agv hG h)) (gn Z (fun hG=>QV.move Z hG) (gpC Z (fun hG=>QV.move Z Z) (gpC Z (fun hG=>QV.fieldAddr Af3 Z Z) (gpC Z (fun hG=>QV.load pl3 Z hG (Own.cell 0 Z Z)) ?_)))))))))
  refine gpC Z (fun hG=>QV.leq Z hG Z hG) (gn Z (fun hG=>Az Z hG Z (fun h=>Agv hG h)) (wq Z (A2 Z Z Z (fun h=>Dv h)) (nt ?_)))
  refine wc Z hm35 (fun h38 hm39=>?_) (fun h38 hm40=>?_) <;> clear hm35
  ·skip
   refine sr (wa Z (nt (WC.ret (kr (tr (tr (kr (tr (tr ?_)))))))))
   obtain rfl:=Cy hm39 hn26
   obtain rfl:=(Ae hm11).symm
   exact Ar Z Z fun w hw=>kg hw
  refine sk (WQ.block (WQ.then (WC.region ?_)))
  obtain⟨c41,hm42⟩:=cs hm40;clear hm40
  refine wq Z (QV.add Z Z Z Z c41) (wm Z (WL.nil ?_))
  exact Ch (x30_1+1) m23 (Ax hm42 hn26) (Nat.lt_succ_self _) ⟨Z,Z,Z,Z,Z,Z,Z,trivial⟩ (pk [1])
 refine WC.exit (te (te (Ai ?_)))
 exact C7 x30_1 (A6 hm43 hn26) ⟨Z,Z,Z,Z,Z,Z,Z,trivial⟩ (pk [0])
theorem Ss {p_y:Addr}{v_y_Loop_Logs v_y_Loop_Body v_y_Loop_Outs v_y_Time v_y_Ready v_y_Places:Value}{y_Loop_Body:List Stm}{y_Loop_Outs:List Int}{y_Pace y_Regs:Int}{y_Time y_Ready y_Places:List Int}{a m_:Int}{r:Bool} (w:World) (hm:Ie y_Loop_Body y_Loop_Outs y_Pace y_Regs y_Time y_Ready y_Places a m_=some r) (h_y_Loop_Body:Arr w v_y_Loop_Body 9 (y_Loop_Body.map Stm.cells)) (h_y_Loop_Outs:Arr w v_y_Loop_Outs 1 (y_Loop_Outs.map Af)) (h_y_Time:Arr w v_y_Time 1 (y_Time.map Af)) (h_y_Ready:Arr w v_y_Ready 1 (y_Ready.map Af)) (h_y_Places:Arr w v_y_Places 1 (y_Places.map Af)) (hp_y:CellsAt w p_y [v_y_Loop_Logs,v_y_Loop_Body,v_y_Loop_Outs,.int .i64 y_Pace,.int .i64 y_Regs,v_y_Time,v_y_Ready,v_y_Places] 0):Calls Try.prog 63 #[.pointer (some p_y),.int .i64 a,.int .i64 m_] w (fun e w'=>e=.returned (.bool r)∧Grow w w'):=by
 unfold Ie at hm
 have hk:=Base.rfl (w:=w)
 refine Ak (n:=88) (args:=[.pointer (some p_y),i_ a,i_ m_]) Try.func63 Z Z (nl Z) ?_ (An hk (Own.start w))
 refine sr (wa Z (ns (wm Z (wm Z (Aa Z ?_)))))
 obtain⟨x1,hx2,hm3⟩:=Ag hm;clear hm
 refine(A4 (X:=Value×World) (R:=[]) (fun X=>X.1) (fun X=>[]) (fun X=>X.2) (fun X=>Arr X.2 X.1 2 (x1.map Use.cells)) hk (fun _ h=>by cases h;decide) en101 (ec Z (ec Z eN)) (fun M w h1 h2=>have h:=Aib hx2 h_y_Loop_Body h_y_Time hp_y M w h1 h2;h) (fun X4 hF4 hle4=>?_))
 refine wa Z (nt (WC.seq (B9 (m:=31) (by kernel_rfl) (by kernel_rfl) (fun w hw=>hw) (zm 0 Z Z (wz 1 Z Z (QV.nilCheck Z Z) (zf 2 K9 Z Z (zl 3 Du Z Z (fun w hw=>CellsAt.one 7 ((Am 0 Z hk (hp_y.le hle4)) w hw) Z) (zm 4 Z Z ?_))))))))
 obtain⟨c5,hm6⟩:=cs hm3;clear hm3
 obtain⟨p7,hp8⟩:=(h_y_Places.le hle4).lenMap.ix (sz:=1) Au c5
 refine wz 5 Z Z (Ad Ei Z Z Z Z hp8) (zl 6 pl3 Z Z (fun w hw=>CellsAt.one 0 (((Ah 0 Z hk (h_y_Places.le hle4)) w hw).ele hp8 c5) Z) (zm 7 Z Z (wz 8 Z Z (QV.nilCheck Z Z) (zf 9 K9 Z Z (zl 10 Du Z Z (fun w hw=>CellsAt.one 7 ((Am 0 Z hk (hp_y.le hle4)) w hw) Z) (zm 11 Z Z ?_))))))
 obtain⟨c9,hm10⟩:=cs hm6;clear hm6
 obtain⟨p11,hp12⟩:=(h_y_Places.le hle4).lenMap.ix (sz:=1) Au c9
 refine wz 12 Z Z (Ad Ei Z Z Z Z hp12) (zl 13 pl3 Z Z (fun w hw=>CellsAt.one 0 (((Ah 0 Z hk (h_y_Places.le hle4)) w hw).ele hp12 c9) Z) ?_)
 obtain⟨c13,c15,c17,c19,c21,c23,c25,c27,hm28⟩:=cs8 hm10;clear hm10
 refine wz 14 Z Z (QV.sub Z Z Z Z c13) (zm 15 Z Z (wz 16 Z Z (QV.nilCheck Z Z) (zf 17 Mu Z Z (zl 18 pl3 Z Z (fun w hw=>CellsAt.one 4 ((Am 0 Z hk (hp_y.le hle4)) w hw) Z) (wz 19 Z Z (QV.rem Z Z Z Z c15) (zm 20 Z Z (wz 21 Z Z (QV.nilCheck Z Z) (zf 22 Mu Z Z (zl 23 pl3 Z Z (fun w hw=>CellsAt.one 4 ((Am 0 Z hk (hp_y.le hle4)) w hw) Z) ?_)))))))))
 refine wz 24 Z Z (QV.add Z Z Z Z c17) (zm 25 Z Z (wz 26 Z Z (QV.nilCheck Z Z) (zf 27 Mu Z Z (zl 28 pl3 Z Z (fun w hw=>CellsAt.one 4 ((Am 0 Z hk (hp_y.le hle4)) w hw) Z) (wz 29 Z Z (QV.rem Z Z Z Z c19) (wz 30 Z Z (QV.assign Z Z) ?_))))))
 refine WD.e (by kernel_rfl) ?_
 refine WQ.then (sr (wm Z (wq Z (QV.nilCheck Z Z) (wf Aah Z (wl pl3 Z (fun w hw=>CellsAt.one 3 ((Am 0 Z hk (hp_y.le hle4)) w hw) Z) (wq Z (QV.quo Z Z Z Z c21 c23) (wq Z (QV.add Z Z Z Z c25) (wa Z (nt (WC.seq (WC.seq (B9 (m:=15) (by kernel_rfl) (by kernel_rfl) (fun w hw=>hw) ?_))))))))))))
 refine zm 0 Z Z (zm 1 Z Z (zm 2 Z Z (wz 3 Z Z (QV.nilCheck Z Z) (zf 4 Mu Z Z (zl 5 pl3 Z Z (fun w hw=>CellsAt.one 4 ((Am 0 Z hk (hp_y.le hle4)) w hw) Z) ?_)))))
 obtain⟨c29,c31,c33,c35,hm36⟩:=cs4 hm28;clear hm28
 refine wz 6 Z Z (QV.quo Z Z Z Z c27 c29) (wz 7 Z Z (QV.add Z Z Z Z c31) (zm 8 Z Z (wz 9 Z Z (QV.nilCheck Z Z) (zf 10 Mu Z Z (zl 11 pl3 Z Z (fun w hw=>CellsAt.one 4 ((Am 0 Z hk (hp_y.le hle4)) w hw) Z) (wz 12 Z Z (QV.mul Z Z Z Z c33) (wz 13 Z Z (QV.sub Z Z Z Z c35) (wz 14 Z Z (QV.assign Z Z) ?_))))))))
 refine WD.e (by kernel_rfl) ?_
 refine WQ.then ?_
 obtain⟨o37,ho38,hm39⟩:=Ag hm36;clear hm36;obtain⟨n40,ho41⟩:=A0 ho38
 refine Ci (H2:=[kn noM w.heap.size w X4.2]) (τ:=[u_ 0 _,u_ 1 _,u_ 2 _,u_ 7 _,u_ 9 _]) (fun (j10_1:Int)=>[(10,(true,i_ j10_1))]) (fun j10_1=>[]) (fun j10_1 m=>B3 (Kh y_Loop_Outs y_Pace y_Regs y_Ready a m_ x1) m j10_1=some o37) (fun j10_1=>o37=.go j10_1) ((Int.tmod ((Int.tmod ((ele y_Places a) - (ele y_Places m_)) y_Regs)+y_Regs) y_Regs) - (((Int.tdiv ((Int.tdiv 4000 y_Pace)+1) y_Regs)+2) * y_Regs)) n40 ho41 ⟨Z,Z,Z,Z,Z,Z,trivial⟩ (pk [0]) ?_ ?_
 ·skip
  rintro j10_1 rfl
  refine WQ.then (sr (wa Z (nt (WC.ret ?_))))
  obtain rfl:=(Ae hm39).symm
  exact Ar Z Z fun w hw=>kg hw
 rintro j10_1 m42 hI43
 obtain⟨m44,s45,rfl,hm46,hn47⟩:=Ap hI43;clear hI43;unfold Kh at hm46
 refine WC.seq (sr (wm Z (wm Z (wq Z (QV.leq Z Z Z Z) (nt ?_)))))
 refine wc Z hm46 (fun h48 hm49=>?_) (fun h48 hm58=>?_) <;> clear hm46
 ·skip
  refine sk (WQ.then (WC.seq (WC.block (sr (wm Z (wm Z (wq Z (QV.neq Z Z Z Z) (wm Z (gn Z (fun hG=>QV.move Z Z) (gn Z (fun hG=>QV.neq Z hG Z Z) (wq Z (A2 Z Z Z (fun h=>Dv h)) (wm Z (gp Z (fun hG=>QV.move Z Z) ?_)))))))))))))
  refine gp Z (fun hG=>QV.move Z Z) (gp Z (fun hG=>QV.move Z Z) (gp Z (fun hG=>QV.move Z Z) (gp Z (fun hG=>QV.move Z Z) ?_)))
  obtain⟨x50,hx51,hm52⟩:=Ce hm49;clear hm49
  refine gp Z (fun hG=>QV.call en102 (EvAll.cons Z hG (EvAll.cons Z hG (EvAll.cons Z hG (EvAll.cons Z hG (EvAll.cons Z hG eN))))) (fun w hw=>have h:=Aln w (hx51 hG) ((Ah 0 Z hk (h_y_Loop_Outs.le hle4)) w hw) ((Ah 0 Z hk (h_y_Ready.le hle4)) w hw) (Am 0 Z hk (hp_y.le hle4) w hw) ((Ah 0 Z hk hF4) w hw);h)) (wq Z (Az Z Z Z (fun h=>h)) (nt ?_))
  refine wc Z hm52 (fun h53 hm54=>?_) (fun h53 hm55=>?_) <;> clear hm52
  ·skip
   refine sr (wa Z (nt (WC.ret (kr (tr (tr (kr (tr (tr ?_)))))))))
   obtain rfl:=Cy hm54 hn47
   obtain rfl:=(Ae hm39).symm
   exact Ar Z Z fun w hw=>kg hw
  refine sk (WQ.block (WQ.then (WC.region (wm Z (wm Z (wq Z (QV.nilCheck Z Z) (wf Mu Z (wl pl3 Z (fun w hw=>CellsAt.one 4 ((Am 0 Z hk (hp_y.le hle4)) w hw) Z) ?_))))))))
  obtain⟨c56,hm57⟩:=cs hm55;clear hm55
  refine wq Z (QV.add Z Z Z Z c56) (wa Z (WL.nil ?_))
  exact Ch (j10_1+y_Regs) m44 (Ax hm57 hn47) (Nat.lt_succ_self _) ⟨Z,Z,Z,Z,Z,Z,trivial⟩ (pk [0])
 refine WC.exit (te (te (Ai ?_)))
 exact C7 j10_1 (A6 hm58 hn47) ⟨Z,Z,Z,Z,Z,Z,trivial⟩ (pk [0])
theorem Vr {p_y:Addr}{v_y_Loop_Logs v_y_Loop_Body v_y_Loop_Outs v_y_Time v_y_Ready v_y_Places v_l:Value}{y_Loop_Logs:List Int}{y_Loop_Body:List Stm}{y_Loop_Outs:List Int}{y_Pace y_Regs:Int}{y_Places l:List Int}{r:Bool} (w:World) (hm:Iq y_Loop_Logs y_Loop_Body y_Loop_Outs y_Pace y_Regs y_Places l=some r) (h_y_Loop_Logs:Arr w v_y_Loop_Logs 1 (y_Loop_Logs.map Af)) (h_y_Loop_Body:Arr w v_y_Loop_Body 9 (y_Loop_Body.map Stm.cells)) (h_y_Loop_Outs:Arr w v_y_Loop_Outs 1 (y_Loop_Outs.map Af)) (h_y_Places:Arr w v_y_Places 1 (y_Places.map Af)) (hp_y:CellsAt w p_y [v_y_Loop_Logs,v_y_Loop_Body,v_y_Loop_Outs,.int .i64 y_Pace,.int .i64 y_Regs,v_y_Time,v_y_Ready,v_y_Places] 0) (h_l:Arr w v_l 1 (l.map Af)):Calls Try.prog 64 #[.pointer (some p_y),v_l] w (fun e w'=>e=.returned (.bool r)∧Grow w w'):=by
 unfold Iq at hm
 have hk:=Base.rfl (w:=w)
 refine Ak (n:=58) (args:=[.pointer (some p_y),v_l]) Try.func64 Z Z (nl Z) ?_ (An hk (Own.start w))
 refine sr (wa Z (ns (Aa Z ?_)))
 refine(EV.makeMap (ke:=kI) (ve:=bv) (by decide) (fun b1=>?_))
 refine wa Z (nt (WC.seq (sr (wm Z (wq Z (Ay Try.underlying22 Z Z h_l.lenMap) (wm Z (nt ?_)))))))
 obtain⟨o2,ho3,hm4⟩:=Ag hm;clear hm;obtain⟨n5,ho6⟩:=A0 ho3
 refine Bz (H2:=[kn noM w.heap.size w w]) (τ:=[u_ 0 _,u_ 5 _,u_ 11 _,u_ 12 _]) (fun (m1n_3:List (Int×Bool)) (x13_3:Int)=>[(13,(true,i_ x13_3))]) (fun m1n_3 x13_3=>[Eb b1 kI bv m1n_3]) (fun m1n_3 x13_3 m=>B3 (Je y_Loop_Logs y_Loop_Body y_Loop_Outs y_Regs y_Places l) m (m1n_3,x13_3)=some o2) (fun m1n_3 x13_3=>o2=.go (m1n_3,x13_3)) ([]:List (Int×Bool)) 0 n5 ho6 ⟨Z,Z,Z,Z,Z,trivial⟩ (pk [0,1]) ?_ ?_
 ·skip
  rintro m1n_3 x13_3 rfl
  refine WQ.then (sr (wa Z (nt (WC.ret ?_))))
  obtain rfl:=(Ae hm4).symm
  exact Ar Z Z fun w hw=>kg hw
 rintro m1n_3 x13_3 m7 hI8
 obtain⟨m9,s10,rfl,hm11,hn12⟩:=Ap hI8;clear hI8;unfold Je at hm11;simp only at hm11
 refine sr (wq Z (QV.lss Z Z Z Z) (nt (WC.seq ?_)))
 refine wc Z hm11 (fun h13 hm14=>?_) (fun h13 hm57=>?_) <;> clear hm11
 ·skip
  refine sk (WQ.then (WC.seq (WC.block (sr ?_))))
  obtain⟨c15,hm16⟩:=cs hm14;clear hm14
  obtain⟨p17,hp18⟩:=h_l.lenMap.ix (sz:=1) Au c15
  refine wq Z (Ad Ei Z Z Z Z hp18) (wl pl3 Z (fun w hw=>CellsAt.one 0 (((Ah 1 Z hk h_l) w hw).ele hp18 c15) Z) (wa Z (ns (wm Z (wq Z (QV.nilCheck Z Z) (wf Ug Z (wq Z (Ac Fh Z Z Z (fun w hw=>CellsAt.sub 0 3 ((Am 1 Z hk hp_y) w hw) Z)) (wm Z ?_))))))))
  obtain⟨x19,hx20,hm21⟩:=Ag hm16;clear hm16
  refine wq Z (QV.call en36 (ec Z (ec Z eN)) (fun w hw=>have h:=Xo w hx20 ((Ah 1 Z hk h_y_Loop_Logs) w hw) ((Ah 1 Z hk h_y_Loop_Body) w hw) ((Ah 1 Z hk h_y_Loop_Outs) w hw);h)) (wm Z (nt ?_))
  obtain⟨o22,ho23,hm24⟩:=Ag hm21;clear hm21;obtain⟨n25,ho26⟩:=A0 ho23
  refine Bz (H2:=[kn noM w.heap.size w w]) (τ:=[u_ 0 _,u_ 5 _,u_ 7 _,u_ 11 _,u_ 12 _,u_ 13 _,u_ 22 _]) (fun (m1n_4:List (Int×Bool)) (x23_4:Int)=>[(23,(true,i_ x23_4))]) (fun m1n_4 x23_4=>[Eb b1 kI bv m1n_4]) (fun m1n_4 x23_4 m=>B3 (Gi y_Regs y_Places l x13_3 x19) m (m1n_4,x23_4)=some o22) (fun m1n_4 x23_4=>o22=.go (m1n_4,x23_4)) m1n_3 0 n25 ho26 ⟨Z,Z,Z,Z,Z,Z,Z,Z,trivial⟩ (pk [0,1]) ?_ ?_
  ·skip
   rintro m1n_4 x23_4 rfl
   refine WQ.block (WQ.then (WC.region ?_))
   obtain⟨c27,hm28⟩:=cs hm24;clear hm24
   refine wq Z (QV.add Z Z Z Z c27) (wm Z (WL.nil ?_))
   exact Bn m1n_4 (x13_3+1) m9 (Ax hm28 hn12) (Nat.lt_succ_self _) ⟨Z,Z,Z,Z,Z,trivial⟩ (pk [0,1])
  rintro m1n_4 x23_4 m29 hI30
  obtain⟨m31,s32,rfl,hm33,hn34⟩:=Ap hI30;clear hI30;unfold Gi at hm33;simp only at hm33
  refine sr (wq Z (QV.lss Z Z Z Z) (nt (WC.seq ?_)))
  refine wc Z hm33 (fun h35 hm36=>?_) (fun h35 hm56=>?_) <;> clear hm33
  ·skip
   refine sk (WQ.then (WC.seq (WC.block (sr (wm Z (wa Z (nt (WC.seq (B9 (m:=26) (S:=Own noM w [kn noM w.heap.size w w,Eb b1 kI bv m1n_4]) (by kernel_rfl) (by kernel_rfl) (pk [1,0]) (zm 0 Z Z (wz 1 Z Z (QV.nilCheck Z Z) (zf 2 K9 Z Z (zl 3 Du Z Z (fun w hw=>CellsAt.one 7 ((Am 0 Z hk hp_y) w hw) Z) (zm 4 Z Z ?_))))))))))))))
   obtain⟨c37,hm38⟩:=cs hm36;clear hm36
   obtain⟨p39,hp40⟩:=h_y_Places.lenMap.ix (sz:=1) Au c37
   refine wz 5 Z Z (Ad Ei Z Z Z Z hp40) (zl 6 pl3 Z Z (fun w hw=>CellsAt.one 0 (((Ah 0 Z hk h_y_Places) w hw).ele hp40 c37) Z) (zm 7 Z Z ?_))
   obtain⟨c41,c43,c45,c47,c49,hm50⟩:=cs5 hm38;clear hm38
   refine wz 8 Z Z (QV.sub Z Z Z Z c41) (wz 9 Z Z (QV.sub Z Z Z Z c43) (zm 10 Z Z (wz 11 Z Z (QV.nilCheck Z Z) (zf 12 Mu Z Z (zl 13 pl3 Z Z (fun w hw=>CellsAt.one 4 ((Am 0 Z hk hp_y) w hw) Z) (wz 14 Z Z (QV.rem Z Z Z Z c45) (zm 15 Z Z (wz 16 Z Z (QV.nilCheck Z Z) (zf 17 Mu Z Z ?_)))))))))
   refine zl 18 pl3 Z Z (fun w hw=>CellsAt.one 4 ((Am 0 Z hk hp_y) w hw) Z) (wz 19 Z Z (QV.add Z Z Z Z c47) (zm 20 Z Z (wz 21 Z Z (QV.nilCheck Z Z) (zf 22 Mu Z Z (zl 23 pl3 Z Z (fun w hw=>CellsAt.one 4 ((Am 0 Z hk hp_y) w hw) Z) (wz 24 Z Z (QV.rem Z Z Z Z c49) (wz 25 Z Z (QV.assign Z Z) ?_)))))))
   refine WD.e (by kernel_rfl) ?_
   refine WQ.then (WC.seq (sr (wm Z (wm Z (wq Z (QV.lookup (k:=(Int.tmod ((Int.tmod (((ele y_Places (ele l x13_3)) - x23_4) - 1) y_Regs)+y_Regs) y_Regs)) 0 false Afk kt3 Anv Z Z Z Z Z) (nt ?_))))))
   refine wc Z hm50 (fun h51 hm52=>?_) (fun h51 hm53=>?_) <;> clear hm50
   ·skip
    refine sr (wa Z (nt (WC.ret (tr (kr (tr (tr (kr (tr (kr (tr (tr (kr (tr (tr ?_)))))))))))))))
    obtain rfl:=Cy hm52 hn34
    obtain rfl:=Cy hm24 hn12
    obtain rfl:=(Ae hm4).symm
    exact Ar Z Z fun w hw=>kg hw
   refine sk (WQ.then (WC.region (wm Z (wm Z (Aa Z ?_)))))
   refine(EV.mapUpdate (ke:=kI) (ve:=bv) (Int.tmod ((Int.tmod (((ele y_Places (ele l x13_3)) - x23_4) - 1) y_Regs)+y_Regs) y_Regs) 0 true Afk kt3 Z Z Z Z Z Z Z ?_)
   refine WL.nil (WQ.block (WQ.then (WC.region ?_)))
   obtain⟨c54,hm55⟩:=cs hm53;clear hm53
   refine wq Z (QV.add Z Z Z Z c54) (wm Z (WL.nil ?_))
   exact Bn (Es m1n_4 (Int.tmod ((Int.tmod (((ele y_Places (ele l x13_3)) - x23_4) - 1) y_Regs)+y_Regs) y_Regs) true) (x23_4+1) m31 (Ax hm55 hn34) (Nat.lt_succ_self _) ⟨Z,Z,Z,Z,Z,Z,Z,Z,trivial⟩ (pk [0,1])
  refine WC.exit (te (te (Ai ?_)))
  exact Cb m1n_4 x23_4 (A6 hm56 hn34) ⟨Z,Z,Z,Z,Z,Z,Z,Z,trivial⟩ (pk [0,1])
 refine WC.exit (te (te (Ai ?_)))
 exact Cb m1n_3 x13_3 (A6 hm57 hn12) ⟨Z,Z,Z,Z,Z,trivial⟩ (pk [0,1])
end Go.Proofs.Ytaimbkndebaaiac
end
section
namespace Go.Proofs.Ytaimbkndebaaiac
open Go.Rd
open TNum TLoop TStable TMach TMach2 TKern TClone TNbr TSeq TKRun TKeep
namespace TOrd
theorem en123:Go.Rd.Enters Try.prog 123:=eT Try.func123
theorem Afl:Go.Rd.Enters Try.prog 124:=eT Try.func124
theorem An9:Go.Rd.Enters Try.prog 137:=eT Try.func137
theorem P4:Bw Try.prog 71 0 0:=fT 0 Try.underlying71
theorem Sd:Bw Try.prog 71 1 1:=fT 0 Try.underlying71
theorem Ui:Bw Try.prog 71 2 2:=fT 0 Try.underlying71
theorem Uh:Bw Try.prog 71 3 3:=fT 0 Try.underlying71
end TOrd
open TOrd
theorem Ox {x:Int}{r:Bool} (w:World) (hm:G2 x=some r) :Calls Try.prog 137 #[.int .i64 x] w (fun e w'=>e=.returned (.bool r)∧Grow w w'):=by
 unfold G2 at hm
 have hk:=Base.rfl (w:=w)
 refine Ak (n:=6) (args:=[i_ x]) Try.func137 Z Z (nl Z) ?_ (An hk (Own.start w))
 refine sr (wa Z (ns (wm Z (wm Z (wq Z (QV.neq Z Z Z Z) (wa Z (nt (WC.ret ?_))))))))
 obtain rfl:=(Ae hm).symm
 exact Ar Z Z fun w hw=>kg hw
theorem Hk {x y r:Int} (w:World) (hm:Dc x y=some r) :Calls Try.prog 124 #[.int .i64 x,.int .i64 y] w (fun e w'=>e=.returned (.int .i64 r)∧Grow w w'):=by
 unfold Dc at hm
 have hk:=Base.rfl (w:=w)
 refine Ak (n:=20) (args:=[i_ x,i_ y]) Try.func124 Z Z (nl Z) ?_ (An hk (Own.start w))
 refine sr (wa Z (ns (wm Z ?_)))
 obtain⟨x1,hx2,hm3⟩:=Ag hm;clear hm
 refine wq Z (QV.call An9 (ec Z eN) (fun w hw=>have h:=Ox w hx2 ;h)) (wa Z (ns (wm Z ?_)))
 obtain⟨x4,hx5,hm6⟩:=Ag hm3;clear hm3
 refine wq Z (QV.call An9 (ec Z eN) (fun w hw=>have h:=Ox w hx5 ;h)) (wa Z (nt (WC.seq (sr (wm Z (nt ?_))))))
 refine wc Z hm6 (fun h7 hm8=>?_) (fun h7 hm12=>?_) <;> clear hm6
 ·skip
  refine WC.seq (sr (wm Z (nt ?_)))
  refine wc Z hm8 (fun h9 hm10=>?_) (fun h9 hm11=>?_) <;> clear hm8
  ·skip
   refine sr (wa Z (nt (WC.ret (tr (tr ?_)))))
   obtain rfl:=(Ae hm10).symm
   exact Ar Z Z fun w hw=>kg hw
  refine sk (WQ.then (sr (wa Z (nt (WC.ret (tr ?_))))))
  obtain rfl:=(Ae hm11).symm
  exact Ar Z Z fun w hw=>kg hw
 refine sk (WQ.then (WC.seq (sr (wm Z (nt ?_)))))
 refine wc Z hm12 (fun h13 hm14=>?_) (fun h13 hm15=>?_) <;> clear hm12
 ·skip
  refine sr (wa Z (nt (WC.ret (tr ?_))))
  obtain rfl:=(Ae hm14).symm
  exact Ar Z Z fun w hw=>kg hw
 refine sk (WQ.then (WC.seq (sr (wm Z (wm Z (wq Z (QV.lss Z Z Z Z) (nt ?_)))))))
 refine wc Z hm15 (fun h16 hm17=>?_) (fun h16 hm18=>?_) <;> clear hm15
 ·skip
  refine sr (wa Z (nt (WC.ret (tr ?_))))
  obtain rfl:=(Ae hm17).symm
  exact Ar Z Z fun w hw=>kg hw
 refine sk (WQ.then (WC.seq (sr (wm Z (wm Z (wq Z (QV.gtr Z Z Z Z) (nt ?_)))))))
 refine wc Z hm18 (fun h19 hm20=>?_) (fun h19 hm21=>?_) <;> clear hm18
 ·skip
  refine sr (wa Z (nt (WC.ret (tr ?_))))
  obtain rfl:=(Ae hm20).symm
  exact Ar Z Z fun w hw=>kg hw
 refine sk (WQ.then (sr (wa Z (nt (WC.ret ?_)))))
 obtain rfl:=(Ae hm21).symm
 exact Ar Z Z fun w hw=>kg hw
theorem Ym {v_vals:Value}{vals:List Int}{r:Int} (w:World) (hm:Jw vals=some r) (h_vals:Arr w v_vals 1 (vals.map Af)):Calls Try.prog 123 #[v_vals] w (fun e w'=>e=.returned (.int .i64 r)∧Grow w w'):=by
 unfold Jw at hm
 have hk:=Base.rfl (w:=w)
 refine Ak (n:=18) (args:=[v_vals]) Try.func123 Z Z (nl Z) ?_ (An hk (Own.start w))
 refine sr (wa Z (ns (wa Z (nt (WC.seq (sr (wm Z (wq Z (Ay Try.underlying22 Z Z h_vals.lenMap) (wm Z (nt ?_))))))))))
 obtain⟨o1,ho2,hm3⟩:=Ag hm;clear hm;obtain⟨n4,ho5⟩:=A0 ho2
 refine Ci (H2:=[kn noM w.heap.size w w]) (τ:=[u_ 3 _,u_ 6 _,u_ 7 _]) (fun (x8_1:Int)=>[(8,(true,i_ x8_1))]) (fun x8_1=>[]) (fun x8_1 m=>B3 (Db vals) m x8_1=some o1) (fun x8_1=>o1=.go x8_1) 0 n4 ho5 ⟨Z,Z,Z,Z,trivial⟩ (pk [0]) ?_ ?_
 ·skip
  rintro x8_1 rfl
  refine WQ.then (sr (wm Z (wa Z (nt (WC.ret ?_)))))
  obtain rfl:=(Ae hm3).symm
  exact Ar Z Z fun w hw=>kg hw
 rintro x8_1 m6 hI7
 obtain⟨m8,s9,rfl,hm10,hn11⟩:=Ap hI7;clear hI7;unfold Db at hm10
 refine sr (wq Z (QV.lss Z Z Z Z) (nt (WC.seq ?_)))
 refine wc Z hm10 (fun h12 hm13=>?_) (fun h12 hm23=>?_) <;> clear hm10
 ·skip
  refine sk (WQ.then (WC.seq (WC.block (sr ?_))))
  obtain⟨c14,hm15⟩:=cs hm13;clear hm13
  obtain⟨p16,hp17⟩:=h_vals.lenMap.ix (sz:=1) Au c14
  refine wq Z (Ad Ei Z Z Z Z hp17) (wl pl3 Z (fun w hw=>CellsAt.one 0 (((Ah 0 Z hk h_vals) w hw).ele hp17 c14) Z) (wa Z (ns (wm Z (wm Z (wq Z (QV.neq Z Z Z Z) (nt ?_)))))))
  refine wc Z hm15 (fun h18 hm19=>?_) (fun h18 hm20=>?_) <;> clear hm15
  ·skip
   refine sr (wm Z (wa Z (nt (WC.ret (kr (tr (tr (kr (tr (tr ?_))))))))))
   obtain rfl:=Cy hm19 hn11
   obtain rfl:=(Ae hm3).symm
   exact Ar Z Z fun w hw=>kg hw
  refine sk (WQ.block (WQ.then (WC.region ?_)))
  obtain⟨c21,hm22⟩:=cs hm20;clear hm20
  refine wq Z (QV.add Z Z Z Z c21) (wm Z (WL.nil ?_))
  exact Ch (x8_1+1) m8 (Ax hm22 hn11) (Nat.lt_succ_self _) ⟨Z,Z,Z,Z,trivial⟩ (pk [0])
 refine WC.exit (te (te (Ai ?_)))
 exact C7 x8_1 (A6 hm23 hn11) ⟨Z,Z,Z,Z,trivial⟩ (pk [0])
theorem Adx {a b:Edg}{r:Int} (w:World) (hm:Nm a b=some r) :Calls Try.prog 99 #[.agg #[.int .i64 a.fr,.int .i64 a.to,.int .i64 a.bk,.int .i64 a.wt],.agg #[.int .i64 b.fr,.int .i64 b.to,.int .i64 b.bk,.int .i64 b.wt]] w (fun e w'=>e=.returned (.int .i64 r)∧Grow w w'):=by
 unfold Nm at hm
 have hk:=Base.rfl (w:=w)
 refine Ak (n:=27) (args:=[.agg #[i_ a.fr,i_ a.to,i_ a.bk,i_ a.wt],.agg #[i_ b.fr,i_ b.to,i_ b.bk,i_ b.wt]]) Try.func99 Z Z (nl Z) ?_ (An hk (Own.start w))
 refine sr (Aa Z ?_)
 refine(Aq (by decide) Z Z (fun b1=>?_))
 refine Aa Z ?_
 refine(Aq (by decide) Z Z (fun b2=>?_))
 refine wa Z (nt (WC.seq (B9 (m:=23) (S:=Own noM w [kn noM w.heap.size w w,blk b2 b.cells 71,blk b1 a.cells 71]) (by kernel_rfl) (by kernel_rfl) (pk [2,0,1]) (zf 0 P4 Z Z (zl 1 pl3 Z Z (Own.cell 2 Z Z) (zf 2 P4 Z Z (zl 3 pl3 Z Z (Own.cell 1 Z Z) ?_)))))))
 obtain⟨x3,hx4,hm5⟩:=Ag hm;clear hm
 refine wz 4 Z Z (QV.call Afl (ec Z (ec Z eN)) (fun w hw=>have h:=Hk w hx4 ;h)) (zf 5 Sd Z Z (zl 6 pl3 Z Z (Own.cell 2 Z Z) (zf 7 Sd Z Z (zl 8 pl3 Z Z (Own.cell 1 Z Z) ?_))))
 obtain⟨x6,hx7,hm8⟩:=Ag hm5;clear hm5
 refine wz 9 Z Z (QV.call Afl (ec Z (ec Z eN)) (fun w hw=>have h:=Hk w hx7 ;h)) (zf 10 Ui Z Z (zl 11 pl3 Z Z (Own.cell 2 Z Z) (zf 12 Ui Z Z (zl 13 pl3 Z Z (Own.cell 1 Z Z) ?_))))
 obtain⟨x9,hx10,hm11⟩:=Ag hm8;clear hm8
 refine wz 14 Z Z (QV.call Afl (ec Z (ec Z eN)) (fun w hw=>have h:=Hk w hx10 ;h)) (zf 15 Uh Z Z (zl 16 pl3 Z Z (Own.cell 2 Z Z) (zf 17 Uh Z Z (zl 18 pl3 Z Z (Own.cell 1 Z Z) ?_))))
 obtain⟨x12,hx13,hm14⟩:=Ag hm11;clear hm11
 refine wz 19 Z Z (QV.call Afl (ec Z (ec Z eN)) (fun w hw=>have h:=Hk w hx13 ;h)) ?_
 refine WD.o 20 Z (by kernel_rfl) Z ?_
 refine(EV.buildSlice (by decide) N5 (by decide) (by decide) (ps:=[(0,.tmp 9),(1,.tmp 14),(2,.tmp 19),(3,.tmp 24)]) (cells:=[i_ x3,i_ x6,i_ x9,i_ x12]) (ec Z (ec Z (ec Z (ec Z eN)))) (by kernel_rfl) (fun b15=>?_))
 refine WD.b (H':=[kn noM w.heap.size w w,blk b15 [i_ x3,i_ x6,i_ x9,i_ x12] 3,blk b2 b.cells 71,blk b1 a.cells 71]) (pk [3,0,1,2]) (pk [0,2,3]) ?_
 obtain⟨x16,hx17,hm18⟩:=Ag hm14;clear hm14
 refine wz 21 Z Z (QV.call en123 (ec Z eN) (fun w hw=>have h:=Ym w hx17 ((Bj 1 (rows:=[x3,x6,x9,x12].map Af) Z Z (B5 Bf)) w hw);h)) (wz 22 Z Z (QV.assign Z Z) ?_)
 refine WD.e (by kernel_rfl) ?_
 refine WQ.then (WC.ret ?_)
 obtain rfl:=(Ae hm18).symm
 exact Ar Z Z fun w hw=>kg hw
end Go.Proofs.Ytaimbkndebaaiac
end
section
namespace Go.Rd
open Go.RowKit Go.Sort Go.Shelf Go.Lib Go.Proofs
section
variable {α : Type} [Inhabited α] {enc : α → List Value} {k : Nat}
theorem Xq (hk:∀ x,(enc x).length=k) (h0:0<k) (xs:List α):(flatK enc k xs.toArray).toList=(xs.map enc).flatten:=by
 apply List.ext_getElem?
 intro j
 have hall:∀ r∈xs.map enc,r.length=k:=fun r hr=>by obtain⟨u,_,rfl⟩:=List.mem_map.1 hr;exact hk u
 have hfl:=Cd hall
 rw[List.length_map] at hfl
 by_cases hj:j<xs.length * k
 ·have hq:j / k<xs.length:=Nat.div_lt_of_lt_mul (by rwa [Nat.mul_comm] at hj)
  have hmod:j % k<k:=Nat.mod_lt _ h0
  have hd:=Gg (sz:=k) (rows:=xs.map enc) (i:=j / k) (r:=enc xs[j / k]) hall (by simp[hq])
  have e1:(xs.map enc).flatten[j]?=(enc xs[j / k])[j % k]?:=by
   have:(enc xs[j / k])[j % k]?=(((xs.map enc).flatten.drop (j / k * k)).take (enc xs[j / k]).length)[j % k]?:=by rw[hd]
   rw[this,List.getElem?_take,hk,if_pos hmod,List.getElem?_drop,Nat.mul_comm,Nat.div_add_mod]
  have hlt:j % k<(enc xs[j / k]).length:=by rw[hk];exact hmod
  rw[e1,List.getElem?_eq_getElem hlt]
  simp[flatK,hj,hq,hlt]
 ·rw[List.getElem?_eq_none (by rw[Array.length_toList,size_flatK,List.size_toArray];omega),List.getElem?_eq_none (by rw[hfl];omega)]
variable {M : Nat → Prop} {w w0 : World} {H : List Res} {E : TypeId} {b n cap : Nat} {xs ys : List α}
theorem Xg (hk:∀ x,(enc x).length=k) (h0:0<k) (h:(vec (.slice (some ⟨b,0,none⟩) n cap) E k (xs.map enc)).holds w):HoldsK enc k w b 0 xs.toArray∧n=xs.length∧b<w.heap.size:=by
 obtain⟨⟨h1,h2⟩,h3⟩:=h
 rcases h2 with ⟨h,_⟩ | ⟨g,cap',cur,hv,_,hh,hnc,_,hcs,ht⟩
 ·cases h
 ·simp only[Value.slice.injEq,Option.some.injEq,Addr.mk.injEq,List.length_map] at hv
  obtain⟨⟨rfl,_⟩,rfl,rfl⟩:=hv
  refine⟨fun j hj=>?_,rfl,(Array.getElem?_eq_some_iff.1 hh).1⟩
  rw[size_flatK,List.size_toArray] at hj
  rw[List.length_map] at hnc ht
  have hlt:j<cur.size:=by rw[hcs];exact Nat.lt_of_lt_of_le hj (Nat.mul_le_mul_right _ hnc)
  have hl:=Xq hk h0 xs
  have hget:cur[j]?=some (id (flatK enc k xs.toArray)[j]!):=by
   have h1:(flatK enc k xs.toArray)[j]?=some (flatK enc k xs.toArray)[j]!:=by
    have:j<(flatK enc k xs.toArray).size:=by simpa using hj
    rw[getElem!_pos (flatK enc k xs.toArray) j this,Array.getElem?_eq_getElem this]
   have h2:(flatK enc k xs.toArray).toList[j]?=cur.toList[j]?:=by
    rw[hl,←ht,List.getElem?_take,if_pos hj]
   rw[Array.getElem?_toList,Array.getElem?_toList] at h2
   rw[←h2,h1];rfl
  rw[Nat.zero_add]
  refine⟨?_,by simp[World.frozen?,hh]⟩
  simp only[World.cell?,hh]
  exact hget
theorem Rt {m:Nat}{os:Array Obj}:((sortWorldK enc k w b 0 m ys.toArray os).os=w.os∧(sortWorldK enc k w b 0 m ys.toArray os).tape=w.tape∧((sortWorldK enc k w b 0 m ys.toArray os).output=w.output∧w.drawn≤(sortWorldK enc k w b 0 m ys.toArray os).drawn)∧w.heap.size≤(sortWorldK enc k w b 0 m ys.toArray os).heap.size) ∧
  (∀ j,j<w.heap.size→j≠b→(sortWorldK enc k w b 0 m ys.toArray os).heap[j]?=w.heap[j]?) ∧
  (∀ cur t,w.heap[b]?=some (.cells cur t (0,0))→(sortWorldK enc k w b 0 m ys.toArray os).heap[b]?=some (.cells (putCells id 0 (flatK enc k ys.toArray) cur) t (0,0))):=by
 refine⟨⟨rfl,rfl,⟨rfl,Nat.le_add_right _ _⟩,?_⟩,fun j hj hne=>?_,fun cur t hc=>?_⟩
 ·show w.heap.size≤(w.heap.modify b _++os).size
  simp
 ·show (w.heap.modify b (onCells (putCells id 0 (flatK enc k ys.toArray)))++os)[j]?=_
  rw[Array.getElem?_append_left (by simpa using hj),Array.getElem?_modify,if_neg (Ne.symm hne)]
 ·have hj:=(Array.getElem?_eq_some_iff.1 hc).1
  show (w.heap.modify b (onCells (putCells id 0 (flatK enc k ys.toArray)))++os)[b]?=_
  rw[Array.getElem?_append_left (by simpa using hj),Array.getElem?_modify,if_pos rfl,hc]
  rfl
theorem Aep (hk:∀ x,(enc x).length=k) (h0:0<k) (h:(vec (.slice (some ⟨b,0,none⟩) n cap) E k (xs.map enc)).holds w) (hl:ys.length=xs.length) (m:Nat) (os:Array Obj) :
  (vec (.slice (some ⟨b,0,none⟩) n cap) E k (ys.map enc)).holds (sortWorldK enc k w b 0 m ys.toArray os):=by
 obtain⟨⟨h1,h2⟩,h3⟩:=h
 rcases h2 with ⟨h,_⟩ | ⟨g,cap',cur,hv,hg0,hh,hnc,hcm,hcs,ht⟩
 ·cases h
 ·simp only[Value.slice.injEq,Option.some.injEq,Addr.mk.injEq] at hv
  obtain⟨⟨rfl,_⟩,rfl,rfl⟩:=hv
  have hall:∀ r∈ys.map enc,r.length=k:=fun r hr=>by obtain⟨u,_,rfl⟩:=List.mem_map.1 hr;exact hk u
  have hfl:=Cd hall
  have hb:=(Rt (enc:=enc) (k:=k) (w:=w) (b:=b) (ys:=ys) (m:=m) (os:=os)).2.2 cur E hh
  have hlm:(ys.map enc).length=(xs.map enc).length:=by simp[hl]
  refine⟨⟨hfl,.inr ⟨b,cap,putCells id 0 (flatK enc k ys.toArray) cur,by rw[hlm],hg0,hb,by rw[hlm];exact hnc,hcm,by simp[putCells,hcs],?_⟩⟩,hall⟩
  rw[←Xq hk h0 ys]
  apply List.ext_getElem?
  intro j
  rw[List.getElem?_take]
  have hs:(flatK enc k ys.toArray).size=(ys.map enc).length * k:=by simp
  by_cases hj:j<(ys.map enc).length * k
  ·have hlt:j<cur.size:=by rw[hcs];rw[hlm] at hj;exact Nat.lt_of_lt_of_le hj (Nat.mul_le_mul_right _ hnc)
   have hjf:j<(flatK enc k ys.toArray).size:=by rw[hs];exact hj
   rw[if_pos hj,Array.getElem?_toList,Array.getElem?_toList]
   rw[Array.getElem?_eq_getElem hjf]
   have hj':j<ys.length * k:=by rw[List.length_map] at hj;exact hj
   simp[putCells,hlt,hj']
  ·rw[if_neg hj,List.getElem?_eq_none (by rw[Array.length_toList,hs];omega)]
theorem Aff {K0:World} (hb:Base M K0 w) (hk:∀ x,(enc x).length=k) (h0:0<k) (hw:Own M w [vec (.slice (some ⟨b,0,none⟩) n cap) E k (xs.map enc)] w) (hl:ys.length=xs.length) (m:Nat) (os:Array Obj) :
  Own M w (kn M w.heap.size K0 K0::[vec (.slice (some ⟨b,0,none⟩) n cap) E k (ys.map enc)]) (sortWorldK enc k w b 0 m ys.toArray os):=by
 have hs:=An hb hw
 obtain⟨⟨f1,f2,f3,f4⟩,f5,f6⟩:=Rt (enc:=enc) (k:=k) (w:=w) (b:=b) (ys:=ys) (m:=m) (os:=os)
 refine hs.upd 1 rfl f1 f2 f3 f4 (fun j hj hn=>f5 j hj fun e=>hn (by subst e;exact⟨_,_,rfl⟩)) (Aep hk h0 hw.head hl m os) fun j hj=>?_
 refine⟨.inl hj,?_⟩
 obtain⟨n2,c2,he⟩:=hj
 simp only[Value.slice.injEq,Option.some.injEq,Addr.mk.injEq] at he
 obtain⟨⟨rfl,_⟩,_⟩:=he
 have:=(Xg hk h0 hw.head).2.2
 omega
theorem Amy {w w':World} (h:Grow w w'):∃ q os',w'=grow (w.drewN q) os':=by
 obtain⟨h1,h2,⟨h3,h4⟩,h5,h6⟩:=h
 refine⟨w'.drawn - w.drawn,w'.heap.extract w.heap.size w'.heap.size,?_⟩
 cases w'
 simp only[grow,World.drewN] at *
 subst h1 h2 h3
 congr 1
 ·apply Array.ext_getElem?
  intro j
  by_cases hj:j<w.heap.size
  ·rw[Array.getElem?_append_left hj];exact h6 j hj
  ·rw[Array.getElem?_append_right (by omega),Array.getElem?_extract]
   split
   ·congr 1;omega
   ·rw[Array.getElem?_eq_none (by omega)]
 ·omega
end
end Go.Rd
end
section
namespace Go.Rd
open Go.Sort Go.Shelf Go.Lib Go.Proofs
theorem Amg:SWO (ltOf Vt) where
 irrefl x:=by unfold ltOf;simp[Vt]
 trans x y z h1 h2:=by
  unfold ltOf at *
  simp only[decide_eq_true_eq,C9] at *
  omega
 ntrans x y z h1 h2:=by
  unfold ltOf at *
  simp only[decide_eq_false_iff_not,C9] at *
  omega
theorem Ahh (x y:Edg) (h1:ltOf Vt x y=false) (h2:ltOf Vt y x=false):x=y:=by
 unfold ltOf at *
 simp only[decide_eq_false_iff_not,C9] at *
 cases x;cases y
 simp only[Edg.mk.injEq] at *
 omega
end Go.Rd
end