/- Texts for the law, 7. -/
import Derived.Test.YtaimbkndebaaiacZLbuildRuns6
import Derived.Test.YtaimbkndebaaiacProg
import Derived.KernelRfl
set_option linter.unusedVariables false
set_option linter.unusedSimpArgs false
set_option maxRecDepth 8000
section
namespace Go.Proofs.Ytaimbkndebaaiac
open Go.Rd
open TNum TLoop TStable TMach TMach2 TKern TClone TNbr TSeq TKRun TKeep TOrd
namespace TCpt
theorem Uc:N4 Try.prog 71 4:=⟨_,Try.underlying71,rfl,by kernel_rfl⟩
theorem eq71:EqT Try.prog 71 4:=⟨by kernel_rfl,⟨_,Try.underlying71⟩,by kernel_rfl,by kernel_rfl⟩
theorem Sx:Ia Try.prog 68 71 4:=⟨Try.underlying68,by kernel_rfl⟩
theorem Z4:C8 Try.prog 71 4:=by unfold C8;kernel_rfl
theorem Ad3:ZeroT Try.prog 71 [.int .i64 0,.int .i64 0,.int .i64 0,.int .i64 0]:=by unfold ZeroT;kernel_rfl
end TCpt
open TCpt
theorem Ji {v_s:Value}{s r:List Edg}{K0:World} (hm:B8 s=some r) (h_s:SliceLen v_s s.length) (M:Nat→Prop) (w:World) (hk:Base M K0 w) (hw0:Own M w [vec v_s 71 4 (List.map Edg.cells s)] w):Calls Try.prog 100 #[v_s] w (fun e w'=>∃ X:Value×World,e=.returned (X.1)∧Own M w (kn M w.heap.size K0 X.2::[]) w'∧Arr X.2 X.1 4 (r.map Edg.cells)):=by
 unfold B8 at hm
 refine Ak (n:=61) (args:=[v_s]) Try.func100 Z Z (nl Z) ?_ (An hk hw0)
 refine sr (wa Z (nt (WC.seq (sr (wm Z (wq Z (Ay Try.underlying68 Z Z h_s) (wq Z (QV.lss Z Z Z Z) (nt ?_))))))))
 refine wc Z hm (fun h1 hm2=>?_) (fun h1 hm4=>?_) <;> clear hm
 ·skip
  refine sr (wm Z (wa Z (nt (WC.ret (tr ?_)))))
  obtain rfl:=(Ae hm2).symm
  refine WK.freeze hk (fun k3 hle3 hr3=>?_)
  have hA3:=Cf hr3
  refine Ar Z Z (fun w hw=>?_)
  exact⟨(v_s,k3),Z,hw.pick [0] (by decide),hA3⟩
 refine sk (WQ.then (WC.seq (sr (wa Z (nt ?_)))))
 obtain⟨o5,ho6,hm7⟩:=Ag hm4;clear hm4;obtain⟨n8,ho9⟩:=A0 ho6
 refine Bz (H2:=[kn M w.heap.size K0 K0]) (τ:=[u_ 0 _]) (fun (ows0_3:List Edg) (k3_3:Int)=>[(3,(true,i_ k3_3))]) (fun ows0_3 k3_3=>[vec v_s 71 4 (List.map Edg.cells ows0_3)]) (fun ows0_3 k3_3 m=>B3 (Be) m (ows0_3,k3_3)=some o5∧SliceLen v_s ows0_3.length) (fun ows0_3 k3_3=>o5=.go (ows0_3,k3_3)∧SliceLen v_s ows0_3.length) s 1 n8 ⟨ho9,h_s⟩ ⟨Z,Z,trivial⟩ (pk [1,0]) ?_ ?_
 ·skip
  rintro ows0_3 k3_3 ⟨rfl,hlows0_3⟩
  refine WQ.then (sr (wm Z (wa Z (nt (WC.ret ?_)))))
  obtain rfl:=(Ae hm7).symm
  refine WK.of (C':=Own M w [kn M w.heap.size K0 K0,vec v_s 71 4 (List.map Edg.cells ows0_3)]) (pk [1,0]) ?_
  refine WK.freeze hk (fun k10 hle10 hr10=>?_)
  have hA10:=Cf hr10
  refine Ar Z Z (fun w hw=>?_)
  exact⟨(v_s,k10),Z,hw.pick [0] (by decide),hA10⟩
 rintro ows0_3 k3_3 m11 ⟨hI12,hlows0_3⟩
 obtain⟨m13,s14,rfl,hm15,hn16⟩:=Ap hI12;clear hI12;unfold Be at hm15;simp only at hm15
 refine WC.seq (sr (wm Z (wm Z (wq Z (Ay Try.underlying68 Z Z hlows0_3) (wq Z (QV.lss Z Z Z Z) (nt ?_))))))
 refine wc Z hm15 (fun h17 hm18=>?_) (fun h17 hm87=>?_) <;> clear hm15
 ·skip
  refine sk (WQ.then (WC.seq (WC.block (WC.seq (B9 (m:=10) (S:=Own M w [kn M w.heap.size K0 K0,vec v_s 71 4 (List.map Edg.cells ows0_3)]) (by kernel_rfl) (by kernel_rfl) (pk [1,0]) (zm 0 Z Z (zm 1 Z Z ?_)))))))
  obtain⟨c19,hm20⟩:=cs hm18;clear hm18
  obtain⟨p21,hp22⟩:=hlows0_3.ix (sz:=4) Au c19
  refine wz 2 Z Z (Ad Sx Z Z Z Z hp22) (wz 3 Z Z (Ac Uc Z Z Z (fun w hw=>((C1 1 Z) w hw).ele hp22 c19)) (zm 4 Z Z (zm 5 Z Z ?_)))
  obtain⟨c23,c25,hm26⟩:=cs2 hm20;clear hm20
  refine wz 6 Z Z (QV.sub Z Z Z Z c23) ?_
  obtain⟨p27,hp28⟩:=hlows0_3.ix (sz:=4) Au c25
  refine wz 7 Z Z (Ad Sx Z Z Z Z hp28) (wz 8 Z Z (Ac Uc Z Z Z (fun w hw=>((C1 1 Z) w hw).ele hp28 c25)) (wz 9 Z Z (Nj eq71 (ns:=[(ele ows0_3 k3_3).fr,(ele ows0_3 k3_3).to,(ele ows0_3 k3_3).bk,(ele ows0_3 k3_3).wt]) (ms:=[(ele ows0_3 (k3_3 - 1)).fr,(ele ows0_3 (k3_3 - 1)).to,(ele ows0_3 (k3_3 - 1)).bk,(ele ows0_3 (k3_3 - 1)).wt]) Z Z Z Z Z Z) ?_))
  refine WD.e (by kernel_rfl) ?_
  refine WQ.then ?_
  refine wc Z hm26 (fun h29 hm30=>?_) (fun h29 hm84=>?_) <;> clear hm26
  ·skip
   refine sr (wm Z (wm Z ?_))
   obtain⟨c31,hm32⟩:=cs hm30;clear hm30
   refine wq Z (Sq Sx Z Z hlows0_3 Z Z c31) (wa Z (nt (WC.seq (sr (wa Z (nt ?_))))))
   obtain⟨o33,ho34,hm35⟩:=Ag hm32;clear hm32;obtain⟨n36,ho37⟩:=A0 ho34
   refine D2 (H2:=[kn M w.heap.size K0 K0]) (τ:=[u_ 0 _,u_ 4 _]) (fun (ows0_4:List Edg) (k3_4:Int) (k25_4:Int)=>[(3,(true,i_ k3_4)),(5,(true,i_ k25_4))]) (fun ows0_4 k3_4 k25_4=>[vec v_s 71 4 (List.map Edg.cells ows0_4)]) (fun ows0_4 k3_4 k25_4 m=>B3 (Bd ows0_3 k3_3) m (ows0_4,k3_4,k25_4)=some o33∧SliceLen v_s ows0_4.length) (fun ows0_4 k3_4 k25_4=>o33=.go (ows0_4,k3_4,k25_4)∧SliceLen v_s ows0_4.length) ows0_3 k3_3 1 n36 ⟨ho37,hlows0_3⟩ ⟨Z,Z,Z,Z,trivial⟩ (pk [0,1]) ?_ ?_
   ·skip
    rintro ows0_4 k3_4 k25_4 ⟨rfl,hlows0_4⟩
    refine WQ.then (sr (wm Z (wm Z ?_)))
    obtain⟨c38,c41,hm42⟩:=cs2 hm35;clear hm35
    refine wq Z (Sq Sx Z Z hlows0_4 Z Z c38) (Aa Z ?_)
    refine(EV.clear (enc:=Edg.cells) (d:=none) (dd:=0) 0 (Edg.mk 0 0 0 0) Sx Ad3 Edg.cells_len (by decide) (fun c hc=>Edg.cells_one [_] _ (List.mem_singleton.2 Z) c hc) Z Z Z c38 Z (.inr Z) ?_ (fun _ h=>(by cases h)))
    have hl40:SliceLen v_s (clr ows0_4 k3_4 (Edg.mk 0 0 0 0)).length:=(Abe c38.2.1).symm▸hlows0_4
    refine ns (wm Z (wm Z (wq Z (Xt Sx Z Z hl40 Z Z c41) (wa Z (nt (WC.ret (kr (tr (tr (kr (tr (tr ?_))))))))))))
    obtain rfl:=Cy hm42 hn16
    obtain rfl:=(Ae hm7).symm
    refine WK.of (C':=Own M w [kn M w.heap.size K0 K0,vec v_s 71 4 (List.map Edg.cells (clr ows0_4 k3_4 (Edg.mk 0 0 0 0)))]) (pk [1,0]) ?_
    refine WK.freeze hk (fun k43 hle43 hr43=>?_)
    have hA43:=Cf hr43
    have hA44:=Qa hA43 c41
    refine Ar Z Z (fun w hw=>?_)
    exact⟨((Lr v_s 4 (Int.toNat 0) (Int.toNat k3_4)),k43),Z,hw.pick [0] (by decide),hA44⟩
   rintro ows0_4 k3_4 k25_4 m45 ⟨hI46,hlows0_4⟩
   obtain⟨m47,s48,rfl,hm49,hn50⟩:=Ap hI46;clear hI46;unfold Bd at hm49;simp only at hm49
   refine WC.seq (sr (wm Z (wm Z ?_)))
   obtain⟨c51,hm52⟩:=cs hm49;clear hm49
   refine wq Z (Ay Try.underlying68 Z Z (Oe (sz:=4) hlows0_4 c51)) (wq Z (QV.lss Z Z Z Z) (nt ?_))
   refine wc Z hm52 (fun h53 hm54=>?_) (fun h53 hm83=>?_) <;> clear hm52
   ·skip
    refine sk (WQ.then (WC.seq (WC.block (WC.seq (B9 (m:=10) (S:=Own M w [kn M w.heap.size K0 K0,vec v_s 71 4 (List.map Edg.cells ows0_4)]) (by kernel_rfl) (by kernel_rfl) (pk [1,0]) (zm 0 Z Z (zm 1 Z Z ?_)))))))
    obtain⟨c55,hm56⟩:=cs hm54;clear hm54
    obtain⟨p57,hp58⟩:=(Oe (sz:=4) hlows0_4 c51).ix (sz:=4) Au c55
    refine wz 2 Z Z (Ad Sx Z Z Z Z hp58) (wz 3 Z Z (Ac Uc Z Z Z (fun w hw=>((fun w hw=>Qa ((C1 1 Z) w hw) c51) w hw).ele hp58 c55)) (zm 4 Z Z (zm 5 Z Z ?_)))
    obtain⟨c59,c61,hm62⟩:=cs2 hm56;clear hm56
    refine wz 6 Z Z (QV.sub Z Z Z Z c59) ?_
    obtain⟨p63,hp64⟩:=(Oe (sz:=4) hlows0_4 c51).ix (sz:=4) Au c61
    refine wz 7 Z Z (Ad Sx Z Z Z Z hp64) (wz 8 Z Z (Ac Uc Z Z Z (fun w hw=>((fun w hw=>Qa ((C1 1 Z) w hw) c51) w hw).ele hp64 c61)) (wz 9 Z Z (Agk eq71 (ns:=[(ele (sub ows0_4 k3_3 (ln ows0_3)) k25_4).fr,(ele (sub ows0_4 k3_3 (ln ows0_3)) k25_4).to,(ele (sub ows0_4 k3_3 (ln ows0_3)) k25_4).bk,(ele (sub ows0_4 k3_3 (ln ows0_3)) k25_4).wt]) (ms:=[(ele (sub ows0_4 k3_3 (ln ows0_3)) (k25_4 - 1)).fr,(ele (sub ows0_4 k3_3 (ln ows0_3)) (k25_4 - 1)).to,(ele (sub ows0_4 k3_3 (ln ows0_3)) (k25_4 - 1)).bk,(ele (sub ows0_4 k3_3 (ln ows0_3)) (k25_4 - 1)).wt]) Z Z Z Z Z Z) ?_))
    refine WD.e (by kernel_rfl) ?_
    refine WQ.then ?_
    refine wc Z hm62 (fun h65 hm66=>?_) (fun h65 hm80=>?_) <;> clear hm62
    ·skip
     refine sr (wm Z (wm Z (wm Z (wm Z ?_))))
     obtain⟨c67,hm68⟩:=cs hm66;clear hm66
     obtain⟨p69,hp70⟩:=(Oe (sz:=4) hlows0_4 c51).ix (sz:=4) Au c67
     refine wq Z (Ad Sx Z Z Z Z hp70) (wq Z (Ac Uc Z Z Z (fun w hw=>((fun w hw=>Qa ((C1 0 Z) w hw) c51) w hw).ele hp70 c67)) ?_)
     obtain⟨c71,hm72⟩:=cs hm68;clear hm68
     obtain⟨p73,hp74⟩:=hlows0_4.ix (sz:=4) Au c71
     refine wq Z (Ad Sx Z Z Z Z hp74) (Aa Z ?_)
     refine(Aie (enc:=Edg.cells) (off:=0) (vs:=(Edg.cells (ele (sub ows0_4 k3_3 (ln ows0_3)) k25_4))) 0 (ele (sub ows0_4 k3_3 (ln ows0_3)) k25_4) rfl rfl rfl rfl rfl hp74 c71 (by first | rfl | exact I4 _) (show Value.cells _=List.toArray _ from rfl) Z4 (nl rfl) (oc rfl (oc rfl (oc rfl (oc rfl Aw)))) rfl ?_)
     have hl75:SliceLen v_s (upd ows0_4 k3_4 (ele (sub ows0_4 k3_3 (ln ows0_3)) k25_4)).length:=Fm hlows0_4
     refine nr (wm Z ?_)
     obtain⟨c76,c78,hm79⟩:=cs2 hm72;clear hm72
     refine wq Z (QV.add Z Z Z Z c76) (wa Z (WL.nil (WQ.block (WQ.then (WC.region (wm Z (wq Z (QV.add Z Z Z Z c78) (wa Z (WL.nil ?_)))))))))
     exact C4 (upd ows0_4 k3_4 (ele (sub ows0_4 k3_3 (ln ows0_3)) k25_4)) (k3_4+1) (k25_4+1) m47 ⟨Ax hm79 hn50,hl75⟩ (Nat.lt_succ_self _) ⟨Z,Z,Z,Z,trivial⟩ (pk [0,1])
    refine sk (WQ.block (WQ.then (WC.region (wm Z ?_))))
    obtain⟨c81,hm82⟩:=cs hm80;clear hm80
    refine wq Z (QV.add Z Z Z Z c81) (wa Z (WL.nil ?_))
    exact C4 ows0_4 k3_4 (k25_4+1) m47 ⟨Ax hm82 hn50,hlows0_4⟩ (Nat.lt_succ_self _) ⟨Z,Z,Z,Z,trivial⟩ (pk [0,1])
   refine WC.exit (te (te (Ai ?_)))
   exact Gw ows0_4 k3_4 k25_4 ⟨A6 hm83 hn50,hlows0_4⟩ ⟨Z,Z,Z,Z,trivial⟩ (pk [0,1])
  refine sk (WQ.block (WQ.then (WC.region (wm Z ?_))))
  obtain⟨c85,hm86⟩:=cs hm84;clear hm84
  refine wq Z (QV.add Z Z Z Z c85) (wa Z (WL.nil ?_))
  exact Bn ows0_3 (k3_3+1) m13 ⟨Ax hm86 hn16,hlows0_3⟩ (Nat.lt_succ_self _) ⟨Z,Z,trivial⟩ (pk [0,1])
 refine WC.exit (te (te (Ai ?_)))
 exact Cb ows0_3 k3_3 ⟨A6 hm87 hn16,hlows0_3⟩ ⟨Z,Z,trivial⟩ (pk [0,1])
def Ama:Go.Shelf.Ren:=⟨fun n=>match n with | 6=>98 | 14=>122 | 15=>87 | 20=>129 | 21=>130 | 22=>131 | 23=>132 | 24=>133 | 25=>134 | 26=>135 | 27=>136 | 28=>116 | 29=>117 | 46=>140 | 47=>141 | 48=>142 | 49=>143 | 50=>144 | 57=>146 | n=>n,fun n=>match n with | 22=>68 | 24=>71 | 25=>160 | 39=>144 | 45=>192 | 46=>193 | 50=>197 | 53=>177 | 55=>179 | 66=>200 | 70=>172 | 76=>205 | 77=>206 | n=>n,fun n=>match n with  | n=>n⟩
theorem An5:Go.Proofs.SlLaysF0.n6 Try.prog Ama where
  mixed:=by kernel_rfl
  f6:=⟨Try.f98.name,by kernel_rfl,Try.func98.trans (congrArg some (by kernel_rfl))⟩
  f14:=⟨Try.f122.name,by kernel_rfl,Try.func122.trans (congrArg some (by kernel_rfl))⟩
  f15:=Try.func87.trans (congrArg some (by kernel_rfl))
  f20:=⟨Try.f129.name,by kernel_rfl,Try.func129.trans (congrArg some (by kernel_rfl))⟩
  f21:=⟨Try.f130.name,by kernel_rfl,Try.func130.trans (congrArg some (by kernel_rfl))⟩
  f22:=⟨Try.f131.name,by kernel_rfl,Try.func131.trans (congrArg some (by kernel_rfl))⟩
  f23:=⟨Try.f132.name,by kernel_rfl,Try.func132.trans (congrArg some (by kernel_rfl))⟩
  f24:=⟨Try.f133.name,by kernel_rfl,Try.func133.trans (congrArg some (by kernel_rfl))⟩
  f25:=⟨Try.f134.name,by kernel_rfl,Try.func134.trans (congrArg some (by kernel_rfl))⟩
  f26:=⟨Try.f135.name,by kernel_rfl,Try.func135.trans (congrArg some (by kernel_rfl))⟩
  f27:=⟨Try.f136.name,by kernel_rfl,Try.func136.trans (congrArg some (by kernel_rfl))⟩
  f28:=Try.func116.trans (congrArg some (by kernel_rfl))
  f29:=Try.func117.trans (congrArg some (by kernel_rfl))
  f46:=⟨Try.f140.name,by kernel_rfl,Try.func140.trans (congrArg some (by kernel_rfl))⟩
  f47:=Try.func141.trans (congrArg some (by kernel_rfl))
  f48:=Try.func142.trans (congrArg some (by kernel_rfl))
  f49:=⟨Try.f143.name,by kernel_rfl,Try.func143.trans (congrArg some (by kernel_rfl))⟩
  f50:=⟨Try.f144.name,by kernel_rfl,Try.func144.trans (congrArg some (by kernel_rfl))⟩
  f57:=⟨Try.f146.name,by kernel_rfl,Try.func146.trans (congrArg some (by kernel_rfl))⟩
  t0:=Try.underlying0
  a0:=Try.isAgg0
  z0:=Try.sizeOf0
  v0:=Try.zeroValue0
  t3:=Try.underlying3
  a3:=Try.isAgg3
  z3:=Try.sizeOf3
  v3:=Try.zeroValue3
  t4:=Try.underlying4
  a4:=Try.isAgg4
  z4:=Try.sizeOf4
  v4:=Try.zeroValue4
  t5:=Try.underlying5
  a5:=Try.isAgg5
  z5:=Try.sizeOf5
  v5:=Try.zeroValue5
  t9:=Try.underlying9
  a9:=Try.isAgg9
  z9:=Try.sizeOf9
  v9:=Try.zeroValue9
  t22:=Try.underlying68
  a22:=Try.isAgg68
  z22:=Try.sizeOf68
  v22:=Try.zeroValue68
  t25:=Try.underlying160
  a25:=Try.isAgg160
  z25:=Try.sizeOf160
  v25:=Try.zeroValue160
  t39:=Try.underlying144
  a39:=Try.isAgg144
  z39:=Try.sizeOf144
  v39:=Try.zeroValue144
  t45:=Try.underlying192
  a45:=Try.isAgg192
  z45:=Try.sizeOf192
  v45:=Try.zeroValue192
  t46:=Try.underlying193
  a46:=Try.isAgg193
  z46:=Try.sizeOf193
  v46:=Try.zeroValue193
  t50:=Try.underlying197
  a50:=Try.isAgg197
  z50:=Try.sizeOf197
  v50:=Try.zeroValue197
  t53:=Try.underlying177
  a53:=Try.isAgg177
  z53:=Try.sizeOf177
  v53:=Try.zeroValue177
  t55:=Try.underlying179
  a55:=Try.isAgg179
  z55:=Try.sizeOf179
  v55:=Try.zeroValue179
  t66:=Try.underlying200
  a66:=Try.isAgg200
  z66:=Try.sizeOf200
  v66:=Try.zeroValue200
  t70:=Try.underlying172
  a70:=Try.isAgg172
  z70:=Try.sizeOf172
  v70:=Try.zeroValue172
  t76:=Try.underlying205
  a76:=Try.isAgg205
  z76:=Try.sizeOf205
  v76:=Try.zeroValue205
  t77:=Try.underlying206
  a77:=Try.isAgg206
  z77:=Try.sizeOf206
  v77:=Try.zeroValue206
theorem Ag6:We []=[]:=by simp[We]
theorem Afd {v_x:Value}{x r:List Edg}{K0:World} (hm:So x=some r) (h_x:SliceLen v_x x.length) (M:Nat→Prop) (w:World) (hk:Base M K0 w) (hw0:Own M w [vec v_x 71 4 (List.map Edg.cells x)] w):Calls Try.prog 98 #[v_x,.func (.func 99) #[] #[]] w (fun e w'=>∃ X:World,e=.returned (.tuple #[])∧Own M w (kn M w.heap.size K0 X::[vec v_x 71 4 (List.map Edg.cells r)]) w'∧SliceLen v_x (r).length):=by
  obtain⟨hlt,h2⟩:=Abf hm
  obtain rfl:=Ae h2
  have hlen:(We x).length=x.length:=List.length_mergeSort ..
  obtain⟨a,c,rfl,ha,hc⟩:=h_x
  by_cases h0:x=[]
  · subst h0
    refine(Go.Proofs.AnyF.slices_SortFunc_none { An5 with } a c (.func (.func 99) #[] #[]) w).mono ?_
    rintro e w' ⟨rfl,rfl⟩
    rw[Ag6]
    exact⟨K0,rfl,An hk hw0,⟨a,c,rfl,ha,hc⟩⟩
  · obtain⟨q,rfl⟩:=Option.isSome_iff_exists.1 (ha (by cases x with | nil=>exact absurd rfl h0 | cons _ _=>simp))
    have hv:=hw0.head
    have hq:∃ b,q=⟨b,0,none⟩:=by
      rcases hv.1.2 with ⟨h,_⟩ | ⟨g,cap,cur,hv,_⟩
      · cases h
      · simp only[Value.slice.injEq,Option.some.injEq] at hv;exact⟨g,hv.1⟩
    obtain⟨b,rfl⟩:=hq
    obtain⟨hH,_,hb⟩:=Xg Edg.cells_len (by decide) hv
    refine(Go.Proofs.AnyQ.slices_SortFunc_total An5 4 Try.isAgg71 Try.sizeOf71 Edg.cells Edg.cells_len (fun u v hv=>Edg.cells_one [u] u (List.mem_singleton.2 rfl) v hv) Vt Amg 99 #[] b 0 c x.toArray w (enters_of Try.func99 (by kernel_rfl) rfl) ?_ hH hb (by simpa using hlt) Ahh).mono ?_
    · intro m os dk hdk u v
      exact(Adx _ (Amf u v)).mono fun e w' ⟨he,hg⟩=>⟨he,Amy hg⟩
    · rintro e w' ⟨rfl,m,os,rfl⟩
      exact⟨K0,rfl,Aff hk Edg.cells_len (by decide) hw0 hlen m os,by rw[hlen];exact⟨_,c,rfl,ha,hc⟩⟩
end Go.Proofs.Ytaimbkndebaaiac
end
section
namespace Go.Proofs.Ytaimbkndebaaiac
open Go.Rd
open TNum TLoop TStable TMach TMach2 TKern TClone TNbr TSeq TKRun TKeep TOrd TCpt
namespace TDep
theorem en100:Go.Rd.Enters Try.prog 100:=eT Try.func100
theorem Aoc:Go.Rd.Enters Try.prog 120:=eT Try.func120
theorem en121:Go.Rd.Enters Try.prog 121:=eT Try.func121
theorem Ail:Go.Rd.Enters Try.prog 69:=eT Try.func69
theorem en97:Go.Rd.Enters Try.prog 97:=eT Try.func97
theorem en98:Go.Rd.Enters Try.prog 98:=eT Try.func98
theorem An3:L6 Try.prog 68 71 4 [.int .i64 0,.int .i64 0,.int .i64 0,.int .i64 0]:=⟨Try.underlying68,by kernel_rfl⟩
theorem ve68:Rl Try.prog 68 71 4 32:=⟨Try.underlying68,by kernel_rfl,by decide⟩
end TDep
open TDep
theorem Ae8 {a b:Stm}{back size:Int}{r:Bool} (w:World) (hm:Lk a b back size=some r) :Calls Try.prog 121 #[.agg #[.int .i64 a.op,.int .i64 a.a.st,.int .i64 a.a.bk,.int .i64 a.b.st,.int .i64 a.b.bk,.int .i64 a.ar,.int .i64 a.sp,.int .i64 a.pl,.int .i64 a.n],.agg #[.int .i64 b.op,.int .i64 b.a.st,.int .i64 b.a.bk,.int .i64 b.b.st,.int .i64 b.b.bk,.int .i64 b.ar,.int .i64 b.sp,.int .i64 b.pl,.int .i64 b.n],.int .i64 back,.int .i64 size] w (fun e w'=>e=.returned (.bool r)∧Grow w w'):=by
 unfold Lk at hm
 have hk:=Base.rfl (w:=w)
 refine Ak (n:=36) (args:=[.agg #[i_ a.op,i_ a.a.st,i_ a.a.bk,i_ a.b.st,i_ a.b.bk,i_ a.ar,i_ a.sp,i_ a.pl,i_ a.n],.agg #[i_ b.op,i_ b.a.st,i_ b.a.bk,i_ b.b.st,i_ b.b.bk,i_ b.ar,i_ b.sp,i_ b.pl,i_ b.n],i_ back,i_ size]) Try.func121 Z Z (nl Z) ?_ (An hk (Own.start w))
 refine sr (Aa Z ?_)
 refine(Aq (by decide) Z Z (fun b1=>?_))
 refine Aa Z ?_
 refine(Aq (by decide) Z Z (fun b2=>?_))
 refine wa Z (nt (WC.seq (sr (wm Z (wm Z (nt ?_))))))
 obtain⟨o3,ho4,hm5⟩:=Ag hm;clear hm;obtain⟨n6,ho7⟩:=A0 ho4
 refine Ci (H2:=[blk b2 b.cells 81,blk b1 a.cells 81,kn noM w.heap.size w w]) (τ:=[u_ 2 _,u_ 3 _,u_ 4 _,u_ 5 _,u_ 10 _]) (fun (x11_1:Int)=>[(11,(true,i_ x11_1))]) (fun x11_1=>[]) (fun x11_1 m=>B3 (Ga a b back size) m x11_1=some o3) (fun x11_1=>o3=.go x11_1) 0 n6 ho7 ⟨Z,Z,Z,Z,Z,Z,trivial⟩ (pk [0,1,2]) ?_ ?_
 ·skip
  rintro x11_1 rfl
  refine WQ.then (sr (wa Z (nt (WC.ret ?_))))
  obtain rfl:=(Ae hm5).symm
  exact Ar Z Z fun w hw=>kg hw
 rintro x11_1 m8 hI9
 obtain⟨m10,s11,rfl,hm12,hn13⟩:=Ap hI9;clear hI9;unfold Ga at hm12
 refine sr (wq Z (QV.lss Z Z Z Z) (nt (WC.seq ?_)))
 refine wc Z hm12 (fun h14 hm15=>?_) (fun h14 hm35=>?_) <;> clear hm12
 ·skip
  refine sk (WQ.then (WC.seq (WC.block (sr (wm Z (wa Z (ns (wf Sc Z (wl pl3 Z (Own.cell 1 Z Z) (wm Z ?_))))))))))
  obtain⟨c16,c18,c20,c22,c24,c26,c28,hm29⟩:=cs7 hm15;clear hm15
  refine wq Z (QV.mul Z Z Z Z c16) (wf Sb Z (wl pl3 Z (Own.cell 1 Z Z) (wq Z (QV.add Z Z Z Z c18) (wf Sc Z (wl pl3 Z (Own.cell 0 Z Z) (wm Z (wm Z (wq Z (QV.add Z Z Z Z c20) (wq Z (QV.mul Z Z Z Z c22) ?_)))))))))
  refine wq Z (QV.sub Z Z Z Z c24) (wf Sb Z (wl pl3 Z (Own.cell 0 Z Z) (wq Z (QV.sub Z Z Z Z c26) (wm Z (wq Z (QV.sub Z Z Z Z c28) (wq Z (V8 Z Z Z Z) (wq Z (QV.eql Z Z Z Z) (nt ?_))))))))
  refine wc Z hm29 (fun h30 hm31=>?_) (fun h30 hm32=>?_) <;> clear hm29
  ·skip
   refine sr (wa Z (nt (WC.ret (kr (tr (tr (kr (tr (tr ?_)))))))))
   obtain rfl:=Cy hm31 hn13
   obtain rfl:=(Ae hm5).symm
   exact Ar Z Z fun w hw=>kg hw
  refine sk (WQ.block (WQ.then (WC.region ?_)))
  obtain⟨c33,hm34⟩:=cs hm32;clear hm32
  refine wq Z (QV.add Z Z Z Z c33) (wm Z (WL.nil ?_))
  exact Ch (x11_1+1) m10 (Ax hm34 hn13) (Nat.lt_succ_self _) ⟨Z,Z,Z,Z,Z,Z,trivial⟩ (pk [0,1,2])
 refine WC.exit (te (te (Ai ?_)))
 exact C7 x11_1 (A6 hm35 hn13) ⟨Z,Z,Z,Z,Z,Z,trivial⟩ (pk [0,1,2])
theorem Vm {s:Stm}{r:Bool} (w:World) (hm:L4 s=some r) :Calls Try.prog 120 #[.agg #[.int .i64 s.op,.int .i64 s.a.st,.int .i64 s.a.bk,.int .i64 s.b.st,.int .i64 s.b.bk,.int .i64 s.ar,.int .i64 s.sp,.int .i64 s.pl,.int .i64 s.n]] w (fun e w'=>e=.returned (.bool r)∧Grow w w'):=by
 unfold L4 at hm
 have hk:=Base.rfl (w:=w)
 refine Ak (n:=11) (args:=[.agg #[i_ s.op,i_ s.a.st,i_ s.a.bk,i_ s.b.st,i_ s.b.bk,i_ s.ar,i_ s.sp,i_ s.pl,i_ s.n]]) Try.func120 Z Z (nl Z) ?_ (An hk (Own.start w))
 refine sr (Aa Z ?_)
 refine(Aq (by decide) Z Z (fun b1=>?_))
 refine wa Z (ns (wf F2 Z (wl pl3 Z (Own.cell 0 Z Z) (wq Z (QV.eql Z Z Z Z) (wm Z (gn Z (fun hG=>QV.fieldAddr F2 Z Z) (gn Z (fun hG=>QV.load pl3 Z hG (Own.cell 0 Z Z)) (gn Z (fun hG=>QV.eql Z hG Z Z) (wq Z (A2 Z Z Z (fun h=>Dv h)) ?_)))))))))
 refine wa Z (nt (WC.ret ?_))
 obtain rfl:=(Ae hm).symm
 exact Ar Z Z fun w hw=>kg hw
theorem Abv {v_l_logs v_l_body v_l_outs:Value}{l:Lp}{from_ to:Int}{r:Edg×Bool} (w:World) (hm:Kv l from_ to=some r) (h_l_logs:Arr w v_l_logs 1 (l.logs.map Af)) (h_l_body:Arr w v_l_body 9 (l.body.map Stm.cells)) (h_l_outs:Arr w v_l_outs 1 (l.outs.map Af)):Calls Try.prog 97 #[.agg #[v_l_logs,v_l_body,v_l_outs],.int .i64 from_,.int .i64 to] w (fun e w'=>e=.returned (.tuple #[.agg #[.int .i64 r.1.fr,.int .i64 r.1.to,.int .i64 r.1.bk,.int .i64 r.1.wt],.bool r.2])∧Grow w w'):=by
 unfold Kv at hm
 have hk:=Base.rfl (w:=w)
 refine Ak (n:=80) (args:=[.agg #[v_l_logs,v_l_body,v_l_outs],i_ from_,i_ to]) Try.func97 Z Z (nl Z) ?_ (An hk (Own.start w))
 refine sr (Aa Z ?_)
 refine(Aq (by decide) Z Z (fun b1=>?_))
 refine Aa Z ?_
 refine(EV.alloc (by decide) Ad3 (fun b2=>?_))
 refine wa Z (nt (WC.seq (B9 (m:=14) (S:=Own noM w [kn noM w.heap.size w w,blk b2 [i_ 0,i_ 0,i_ 0,i_ 0] 71,blk b1 [v_l_logs,v_l_body,v_l_outs] 25]) (by kernel_rfl) (by kernel_rfl) (pk [2,0,1]) ?_)))
 refine Aan 0 (by kernel_rfl) ?_
 refine G5 0 0 1 Z (by kernel_rfl) Z Z Z (QV.fieldAddr Co Z Z) ?_
 refine G5 1 1 3 Z (by kernel_rfl) Z Z Z (QV.load Gv Z Z (Own.cell 2 Z Z)) ?_
 refine G5 2 3 7 Z (by kernel_rfl) Z Z Z (QV.move Z Z) ?_
 obtain⟨c3,hm4⟩:=cs hm;clear hm
 obtain⟨p5,hp6⟩:=h_l_body.lenMap.ix (sz:=9) Au c3
 refine G5 3 7 15 Z (by kernel_rfl) Z Z Z (Ad Pp Z Z Z Z hp6) ?_
 refine G5 4 15 31 Z (by kernel_rfl) Z Z Z (Ac Kk Z Z Z (fun w hw=>((Ah 0 Z hk h_l_body) w hw).ele hp6 c3)) ?_
 refine G5 5 31 63 Z (by kernel_rfl) Z Z Z (QV.fieldAddr Co Z Z) ?_
 refine G5 6 63 127 Z (by kernel_rfl) Z Z Z (QV.load Gv Z Z (Own.cell 2 Z Z)) ?_
 refine G5 7 127 255 Z (by kernel_rfl) Z Z Z (QV.move Z Z) ?_
 obtain⟨c7,hm8⟩:=cs hm4;clear hm4
 obtain⟨p9,hp10⟩:=h_l_body.lenMap.ix (sz:=9) Au c7
 refine G5 8 255 511 Z (by kernel_rfl) Z Z Z (Ad Pp Z Z Z Z hp10) ?_
 refine G5 9 511 1023 Z (by kernel_rfl) Z Z Z (Ac Kk Z Z Z (fun w hw=>((Ah 0 Z hk h_l_body) w hw).ele hp10 c7)) ?_
 refine Agi (fun (b11:Nat) (b12:Nat)=>[(1,(true,i_ from_)),(2,(true,i_ to)),(3,(true,.pointer (some (⟨b1,0,none⟩)))),(6,(true,.pointer (some (⟨b2,0,none⟩)))),(8,(true,.pointer (some (⟨b11,0,none⟩)))),(9,(true,.pointer (some (⟨b12,0,none⟩))))]) (fun (b11:Nat) (b12:Nat)=>Own noM w [blk b12 (Stm.cells (ele l.body to)) 81,blk b11 (Stm.cells (ele l.body from_)) 81,blk b2 [i_ 0,i_ 0,i_ 0,i_ 0] 71,blk b1 [v_l_logs,v_l_body,v_l_outs] 25,kn noM w.heap.size w w]) ?_ ?_
 ·skip
  rintro b11 b12
  refine WQ.then (WC.seq (sr (wq Z (Ac Kk Z Z Z (Ab 1 Z)) ?_)))
  obtain⟨x13,hx14,hm15⟩:=Ag hm8;clear hm8
  refine wq Z (QV.call Aoc (ec Z eN) (fun w hw=>have h:=Vm w hx14 ;h)) (wq Z (QV.not Z Z) (wm Z (gn Z (fun hG=>Ac Kk Z Z Z (Ab 0 Z)) ?_)))
  obtain⟨x16,hx17,hm18⟩:=Ce hm15;clear hm15
  refine gn Z (fun hG=>QV.call Aoc (EvAll.cons Z hG eN) (fun w hw=>have h:=Vm w (hx17 hG) ;h)) (gn Z (fun hG=>QV.not Z hG) (wq Z (A2 Z Z Z (fun h=>Dv h)) (wm Z (gn Z (fun hG=>QV.fieldAddr Nv Z Z) (gn Z (fun hG=>QV.load pl3 Z hG (Own.cell 1 Z Z)) (gn Z (fun hG=>QV.fieldAddr Nv Z Z) (gn Z (fun hG=>QV.load pl3 Z hG (Own.cell 0 Z Z)) (gn Z (fun hG=>QV.neq Z hG Z hG) (wq Z (A2 Z Z Z (fun h=>Dv h)) ?_)))))))))
  refine wm Z (gn Z (fun hG=>QV.fieldAddr F2 Z Z) (gn Z (fun hG=>QV.load pl3 Z hG (Own.cell 1 Z Z)) (gn Z (fun hG=>QV.eql Z hG Z Z) (gn Z (fun hG=>QV.move Z hG) (gpC Z (fun hG=>QV.fieldAddr F2 Z Z) (gpC Z (fun hG=>QV.load pl3 Z hG (Own.cell 0 Z Z)) (gpC Z (fun hG=>QV.eql Z hG Z Z) (gn Z (fun hG=>Az Z hG Z (fun h=>Agv hG h)) (wq Z (A2 Z Z Z (fun h=>Dv h)) ?_)))))))))
  refine nt ?_
  refine wc Z hm18 (fun h19 hm20=>?_) (fun h19 hm21=>?_) <;> clear hm18
  ·skip
   refine sr (wq Z (QV.build (ps:=[]) (cells:=[i_ 0,i_ 0,i_ 0,i_ 0]) eN (by kernel_rfl)) (Aa Z ?_))
   refine(EV.store 2 Z Z Z Z Z Z (vs:=[i_ 0,i_ 0,i_ 0,i_ 0]) (show Value.cells _=List.toArray _ from Z) Z4 (nl Z) (oc Z (oc Z (oc Z (oc Z Aw)))) ?_)
   refine wa Z (nt (WC.ret (tr ?_)))
   obtain rfl:=(Ae hm20).symm
   exact Cx Z Uc Z Z Z (Ab 2 Z) fun w hw=>kg hw
  refine sk (WQ.then (sr (wa Z (wa Z (nt (WC.seq (sr (wm Z (wm Z (wq Z (QV.geq Z Z Z Z) (nt ?_)))))))))))
  obtain⟨o22,hj23,hm24⟩:=Ag hm21;clear hm21
  refine Zw (H2:=[blk b12 (Stm.cells (ele l.body to)) 81,blk b11 (Stm.cells (ele l.body from_)) 81,blk b2 [i_ 0,i_ 0,i_ 0,i_ 0] 71,blk b1 [v_l_logs,v_l_body,v_l_outs] 25,kn noM w.heap.size w w]) (τ:=[u_ 1 _,u_ 2 _,u_ 3 _,u_ 6 _,u_ 8 _,u_ 9 _,u_ 11 _]) (fun (least10_1:Int)=>[(10,(true,i_ least10_1))]) (fun least10_1=>[]) (fun least10_1=>o22=.go least10_1) ⟨Z,Z,Z,Z,Z,Z,Z,trivial⟩ (pk [0,1,2,3,4]) ?_ ?_
  ·skip
   rintro least10_1 rfl
   refine WC.seq (sr (wf F2 Z (wl pl3 Z (Own.cell 1 Z Z) (wq Z (QV.eql Z Z Z Z) (nt ?_)))))
   obtain⟨o25,hj26,hm27⟩:=Ag hm24;clear hm24
   refine Zw (H2:=[blk b12 (Stm.cells (ele l.body to)) 81,blk b11 (Stm.cells (ele l.body from_)) 81,blk b2 [i_ 0,i_ 0,i_ 0,i_ 0] 71,blk b1 [v_l_logs,v_l_body,v_l_outs] 25,kn noM w.heap.size w w]) (τ:=[u_ 1 _,u_ 2 _,u_ 3 _,u_ 6 _,u_ 8 _,u_ 9 _,u_ 10 _]) (fun (wait11_2:Int)=>[(11,(true,i_ wait11_2))]) (fun wait11_2=>[]) (fun wait11_2=>o25=.go wait11_2) ⟨Z,Z,Z,Z,Z,Z,Z,trivial⟩ (pk [0,1,2,3,4]) ?_ ?_
   ·skip
    rintro wait11_2 rfl
    refine sr (wf O1 Z (wl Du Z (Own.cell 3 Z Z) (wf Nv Z (wl pl3 Z (Own.cell 1 Z Z) ?_))))
    obtain⟨c28,hm29⟩:=cs hm27;clear hm27
    obtain⟨p30,hp31⟩:=h_l_logs.lenMap.ix (sz:=1) Au c28
    refine wq Z (Ad Ei Z Z Z Z hp31) (wl pl3 Z (fun w hw=>CellsAt.one 0 (((Ah 4 Z hk h_l_logs) w hw).ele hp31 c28) Z) ?_)
    obtain⟨c32,hm33⟩:=cs hm29;clear hm29
    refine wq Z (QV.shlD Z Z Z Z c32) (wa Z (nt (WC.seq (sr (wm Z (wa Z (nt ?_)))))))
    obtain⟨o34,ho35,hm36⟩:=Ag hm33;clear hm33;obtain⟨n37,ho38⟩:=A0 ho35
    refine Ci (H2:=[blk b12 (Stm.cells (ele l.body to)) 81,blk b11 (Stm.cells (ele l.body from_)) 81,blk b2 [i_ 0,i_ 0,i_ 0,i_ 0] 71,blk b1 [v_l_logs,v_l_body,v_l_outs] 25,kn noM w.heap.size w w]) (τ:=[u_ 1 _,u_ 2 _,u_ 6 _,u_ 8 _,u_ 9 _,u_ 11 _,u_ 12 _]) (fun (back13_3:Int)=>[(13,(true,i_ back13_3))]) (fun back13_3=>[]) (fun back13_3 m=>B3 (Ee l from_ to wait11_2) m back13_3=some o34) (fun back13_3=>o34=.go back13_3) least10_1 n37 ho38 ⟨Z,Z,Z,Z,Z,Z,Z,Z,trivial⟩ (pk [0,1,2,3,4]) ?_ ?_
    ·skip
     rintro back13_3 rfl
     refine WQ.then (sr (wq Z (QV.build (ps:=[]) (cells:=[i_ 0,i_ 0,i_ 0,i_ 0]) eN (by kernel_rfl)) (Aa Z ?_)))
     refine(EV.store 2 Z Z Z Z Z Z (vs:=[i_ 0,i_ 0,i_ 0,i_ 0]) (show Value.cells _=List.toArray _ from Z) Z4 (nl Z) (oc Z (oc Z (oc Z (oc Z Aw)))) ?_)
     refine wa Z (nt (WC.ret ?_))
     obtain rfl:=(Ae hm36).symm
     exact Cx Z Uc Z Z Z (Ab 2 Z) fun w hw=>kg hw
    rintro back13_3 m39 hI40
    obtain⟨m41,s42,rfl,hm43,hn44⟩:=Ap hI40;clear hI40;unfold Ee at hm43
    refine WC.seq (sr (wm Z (wm Z (wq Z (QV.leq Z Z Z Z) (nt ?_)))))
    refine wc Z hm43 (fun h45 hm46=>?_) (fun h45 hm55=>?_) <;> clear hm43
    ·skip
     refine sk (WQ.then (WC.seq (WC.block (sr (wq Z (Ac Kk Z Z Z (Ab 1 Z)) (wq Z (Ac Kk Z Z Z (Ab 0 Z)) (wm Z (wm Z ?_))))))))
     obtain⟨x47,hx48,hm49⟩:=Ag hm46;clear hm46
     refine wq Z (QV.call en121 (ec Z (ec Z (ec Z (ec Z eN)))) (fun w hw=>have h:=Ae8 w hx48 ;h)) (nt ?_)
     refine wc Z hm49 (fun h50 hm51=>?_) (fun h50 hm52=>?_) <;> clear hm49
     ·skip
      refine sr (wm Z (wm Z (wm Z (wm Z (wq Z (QV.build (ps:=[(0,.tmp 74),(1,.tmp 75),(2,.tmp 76),(3,.tmp 77)]) (cells:=[i_ from_,i_ to,i_ back13_3,i_ wait11_2]) (ec Z (ec Z (ec Z (ec Z eN)))) (by kernel_rfl)) (Aa Z ?_))))))
      refine(EV.store 2 Z Z Z Z Z Z (vs:=[i_ from_,i_ to,i_ back13_3,i_ wait11_2]) (show Value.cells _=List.toArray _ from Z) Z4 (nl Z) (oc Z (oc Z (oc Z (oc Z Aw)))) ?_)
      refine wa Z (nt (WC.ret (kr (tr (tr (kr (tr (tr ?_))))))))
      obtain rfl:=Cy hm51 hn44
      obtain rfl:=(Ae hm36).symm
      exact Cx Z Uc Z Z Z (Ab 2 Z) fun w hw=>kg hw
     refine sk (WQ.block (WQ.then (WC.region (wm Z ?_))))
     obtain⟨c53,hm54⟩:=cs hm52;clear hm52
     refine wq Z (QV.add Z Z Z Z c53) (wa Z (WL.nil ?_))
     exact Ch (back13_3+1) m41 (Ax hm54 hn44) (Nat.lt_succ_self _) ⟨Z,Z,Z,Z,Z,Z,Z,Z,trivial⟩ (pk [0,1,2,3,4])
    refine WC.exit (te (te (Ai ?_)))
    exact C7 back13_3 (A6 hm55 hn44) ⟨Z,Z,Z,Z,Z,Z,Z,Z,trivial⟩ (pk [0,1,2,3,4])
   refine WC.cond Z (fun h56=>?_) (fun h56=>?_)
   ·skip
    have hm57:=Ab1 h56 hj26;clear hj26
    refine WC.region (wa Z (WL.nil ?_))
    exact C7 1 (Ae hm57) ⟨Z,Z,Z,Z,Z,Z,Z,Z,trivial⟩ (pk [0,1,2,3,4])
   have hm58:=Ab2 h56 hj26;clear hj26
   refine sk ?_
   exact C7 0 (Ae hm58) ⟨Z,Z,Z,Z,Z,Z,Z,Z,trivial⟩ (pk [0,1,2,3,4])
  refine WC.cond Z (fun h59=>?_) (fun h59=>?_)
  ·skip
   have hm60:=Ab1 h59 hj23;clear hj23
   refine WC.region (wa Z (WL.nil ?_))
   exact C7 1 (Ae hm60) ⟨Z,Z,Z,Z,Z,Z,Z,Z,trivial⟩ (pk [0,1,2,3,4])
  have hm61:=Ab2 h59 hj23;clear hj23
  refine sk ?_
  exact C7 0 (Ae hm61) ⟨Z,Z,Z,Z,Z,Z,Z,Z,trivial⟩ (pk [0,1,2,3,4])
 refine WD.two 10 11 1023 2047 3071 (by kernel_rfl) Z Z Z Z (by kernel_rfl) (by kernel_rfl) ?_ ?_
 ·skip
  refine(EV.alloc (by decide) Nz (fun b62=>?_))
  refine WD.b (H':=[kn noM w.heap.size w w,blk b2 [i_ 0,i_ 0,i_ 0,i_ 0] 71,blk b1 [v_l_logs,v_l_body,v_l_outs] 25]) (pk [3,1,2]) (fun w hw=>hw) ?_
  refine Mc 11 2047 4095 Z (by kernel_rfl) Z ?_
  refine(EV.alloc (by decide) Nz (fun b63=>?_))
  refine WD.b (H':=[kn noM w.heap.size w w,blk b2 [i_ 0,i_ 0,i_ 0,i_ 0] 71,blk b1 [v_l_logs,v_l_body,v_l_outs] 25]) (pk [4,2,3]) (fun w hw=>hw) ?_
  refine Mc 12 4095 8191 Z (by kernel_rfl) Z ?_
  refine(EV.store 1 Z Z Z Z Z Z (vs:=(Stm.cells (ele l.body from_))) (show Value.cells _=List.toArray _ from Z) N0 (nl Z) (oc Z (oc Z (oc Z (oc Z (oc Z (oc Z (oc Z (oc Z (oc Z Aw))))))))) ?_)
  refine WD.b (H':=[kn noM w.heap.size w w,blk b2 [i_ 0,i_ 0,i_ 0,i_ 0] 71,blk b1 [v_l_logs,v_l_body,v_l_outs] 25]) (pk [4,2,3]) (fun w hw=>hw) ?_
  refine Mc 13 8191 16383 Z (by kernel_rfl) Z ?_
  refine(EV.store 0 Z Z Z Z Z Z (vs:=(Stm.cells (ele l.body to))) (show Value.cells _=List.toArray _ from Z) N0 (nl Z) (oc Z (oc Z (oc Z (oc Z (oc Z (oc Z (oc Z (oc Z (oc Z Aw))))))))) ?_)
  refine WD.b (H':=[kn noM w.heap.size w w,blk b2 [i_ 0,i_ 0,i_ 0,i_ 0] 71,blk b1 [v_l_logs,v_l_body,v_l_outs] 25]) (pk [4,2,3]) (fun w hw=>hw) ?_
  refine Acc (by kernel_rfl) ?_
  exact Pb b62 b63 ⟨Z,Z,Z,Z,Z,Z,trivial⟩ (pk [0,1,2,3,4])
 refine(EV.alloc (by decide) Nz (fun b64=>?_))
 refine WD.b (H':=[kn noM w.heap.size w w,blk b2 [i_ 0,i_ 0,i_ 0,i_ 0] 71,blk b1 [v_l_logs,v_l_body,v_l_outs] 25]) (pk [3,1,2]) (fun w hw=>hw) ?_
 refine Mc 10 3071 4095 Z (by kernel_rfl) Z ?_
 refine(EV.alloc (by decide) Nz (fun b65=>?_))
 refine WD.b (H':=[kn noM w.heap.size w w,blk b2 [i_ 0,i_ 0,i_ 0,i_ 0] 71,blk b1 [v_l_logs,v_l_body,v_l_outs] 25]) (pk [4,2,3]) (fun w hw=>hw) ?_
 refine Mc 12 4095 8191 Z (by kernel_rfl) Z ?_
 refine(EV.store 0 Z Z Z Z Z Z (vs:=(Stm.cells (ele l.body from_))) (show Value.cells _=List.toArray _ from Z) N0 (nl Z) (oc Z (oc Z (oc Z (oc Z (oc Z (oc Z (oc Z (oc Z (oc Z Aw))))))))) ?_)
 refine WD.b (H':=[kn noM w.heap.size w w,blk b2 [i_ 0,i_ 0,i_ 0,i_ 0] 71,blk b1 [v_l_logs,v_l_body,v_l_outs] 25]) (pk [4,2,3]) (fun w hw=>hw) ?_
 refine Mc 13 8191 16383 Z (by kernel_rfl) Z ?_
 refine(EV.store 1 Z Z Z Z Z Z (vs:=(Stm.cells (ele l.body to))) (show Value.cells _=List.toArray _ from Z) N0 (nl Z) (oc Z (oc Z (oc Z (oc Z (oc Z (oc Z (oc Z (oc Z (oc Z Aw))))))))) ?_)
 refine WD.b (H':=[kn noM w.heap.size w w,blk b2 [i_ 0,i_ 0,i_ 0,i_ 0] 71,blk b1 [v_l_logs,v_l_body,v_l_outs] 25]) (pk [4,2,3]) (fun w hw=>hw) ?_
 refine Acc (by kernel_rfl) ?_
 exact Pb b65 b64 ⟨Z,Z,Z,Z,Z,Z,trivial⟩ (pk [1,0,2,3,4])
theorem Nn {v_l_logs v_l_body v_l_outs:Value}{l:Lp}{t:Tgt}{r:List Edg×Int}{K0:World} (hm:D4 l t=some r) (h_l_logs:Arr K0 v_l_logs 1 (l.logs.map Af)) (h_l_body:Arr K0 v_l_body 9 (l.body.map Stm.cells)) (h_l_outs:Arr K0 v_l_outs 1 (l.outs.map Af)) (M:Nat→Prop) (w:World) (hk:Base M K0 w) (hw0:Own M w [] w):Calls Try.prog 62 #[.agg #[v_l_logs,v_l_body,v_l_outs],.agg #[.int .i64 t.u0,.int .i64 t.u1,.int .i64 t.u2,.int .i64 t.w0,.int .i64 t.w1,.int .i64 t.w2,.int .i64 t.regs]] w (fun e w'=>∃ X:Value×World,e=.returned (.tuple #[X.1,.int .i64 r.2])∧Own M w (kn M w.heap.size K0 X.2::[]) w'∧Arr X.2 X.1 4 (r.1.map Edg.cells)):=by
 unfold D4 at hm
 refine Ak (n:=80) (args:=[.agg #[v_l_logs,v_l_body,v_l_outs],.agg #[i_ t.u0,i_ t.u1,i_ t.u2,i_ t.w0,i_ t.w1,i_ t.w2,i_ t.regs]]) Try.func62 Z Z (nl Z) ?_ (An hk hw0)
 refine sr (Aa Z ?_)
 refine(Aq (by decide) Z Z (fun b1=>?_))
 refine Aa Z ?_
 refine(Aq (by decide) Z Z (fun b2=>?_))
 refine wa Z (wa Z (nt (WC.seq (sr (wq Z (Ac Fh Z Z Z (Ab 1 Z)) ?_)))))
 obtain⟨x3,hx4,hm5⟩:=Ag hm;clear hm
 refine wq Z (QV.call Aim (ec Z eN) (fun w hw=>have h:=M6 w hx4 ((Ah 2 Z hk h_l_logs) w hw) ((Ah 2 Z hk h_l_body) w hw) ((Ah 2 Z hk h_l_outs) w hw);h)) (wq Z (QV.not Z Z) (wm Z (gn Z (fun hG=>Ac Gk Z Z Z (Ab 0 Z)) ?_)))
 obtain⟨x6,hx7,hm8⟩:=Ce hm5;clear hm5
 refine gn Z (fun hG=>QV.call Alu (EvAll.cons Z hG eN) (fun w hw=>have h:=Mg w (hx7 hG) ;h)) (gn Z (fun hG=>QV.not Z hG) (wq Z (A2 Z Z Z (fun h=>Dv h)) (nt ?_)))
 refine wc Z hm8 (fun h9 hm10=>?_) (fun h9 hm11=>?_) <;> clear hm8
 ·skip
  refine sr (wa Z (wa Z (nt (WC.ret (tr ?_)))))
  obtain rfl:=(Ae hm10).symm
  refine Dn Z Z Z (fun w hw=>?_)
  exact⟨(.slice none 0 0,K0),Z,hw.pick [2] (by decide),Arr.nil⟩
 refine sk (WQ.then (sr (wa Z (nt (WC.seq (sr (wf Co Z (wl Gv Z (Own.cell 1 Z Z) (wq Z (Ay Try.underlying23 Z Z h_l_body.lenMap) (wm Z (nt ?_)))))))))))
 refine WK.of (fun w hw=>hw.vecNil (E:=71) (sz:=4) (enc:=Edg.cells)) ?_
 obtain⟨o13,ho14,hm15⟩:=Ag hm11;clear hm11;obtain⟨n16,ho17⟩:=A0 ho14
 refine I5 (H2:=[blk b2 t.cells 28,blk b1 [v_l_logs,v_l_body,v_l_outs] 25]) (τ:=[u_ 2 _,u_ 3 _,u_ 23 _,u_ 24 _]) (fun (v12_7:List Edg) (x25_7:Int) (uv12_7:Value) (k_7:World)=>[(6,(true,uv12_7)),(25,(true,i_ x25_7))]) (fun v12_7 x25_7 uv12_7 k_7=>[vec uv12_7 71 4 (List.map Edg.cells v12_7),kn M w.heap.size K0 k_7]) (fun v12_7 x25_7 uv12_7 k_7 m=>B3 (Jd l t) m (v12_7,x25_7)=some o13∧SliceLen uv12_7 v12_7.length∧Le K0 k_7) (fun v12_7 x25_7 uv12_7 k_7=>o13=.go (v12_7,x25_7)∧SliceLen uv12_7 v12_7.length∧Le K0 k_7) [] 0 (.slice none 0 0) K0 n16 ⟨ho17,SliceLen.nil,(Le.refl _)⟩ ⟨Z,Z,Z,Z,Z,Z,trivial⟩ (pk [0,3,1,2]) ?_ ?_
 ·skip
  rintro v12_7 x25_7 uv12_7 k_7 ⟨rfl,hlv12_7,hle_7⟩
  refine WQ.then (sr (wm Z (Aa Z ?_)))
  obtain⟨x18,hx19,hm20⟩:=Ag hm15;clear hm15
  refine EV.of (C':=Own M w [kn M w.heap.size K0 k_7,vec uv12_7 71 4 (List.map Edg.cells v12_7),blk b2 t.cells 28,blk b1 [v_l_logs,v_l_body,v_l_outs] 25]) (pk [1,0,2,3]) ?_
  refine(A4 (X:=World) (R:=[vec uv12_7 71 4 (List.map Edg.cells v12_7)]) (fun X=>.tuple #[]) (fun X=>[vec uv12_7 71 4 (List.map Edg.cells x18)]) (fun X=>X) (fun X=>SliceLen uv12_7 (x18).length) hk (fun _ h=>by cases h;decide) en98 (ec Z (ec Z eN)) (fun M w h1 h2=>have h:=Afd hx19 hlv12_7 M w h1 h2;h) (fun X21 hF21 hle21=>?_))
  refine ns (wm Z (Aa Z ?_))
  obtain⟨x22,hx23,hm24⟩:=Ag hm20;clear hm20
  refine(A4 (X:=Value×World) (R:=[vec uv12_7 71 4 (List.map Edg.cells x18)]) (fun X=>X.1) (fun X=>[]) (fun X=>X.2) (fun X=>Arr X.2 X.1 4 (x22.map Edg.cells)) hk (fun _ h=>by cases h;decide) en100 (ec Z eN) (fun M w h1 h2=>have h:=Ji hx23 hF21 M w h1 h2;h) (fun X25 hF25 hle25=>?_))
  refine wa Z (wa Z (nt (WC.ret ?_)))
  obtain rfl:=(Ae hm24).symm
  refine Dn Z Z Z (fun w hw=>?_)
  exact⟨(X25.1,X25.2),Z,hw.pick [0] (by decide),hF25⟩
 rintro v12_7 x25_7 uv12_7 k_7 m26 ⟨hI27,hlv12_7,hle_7⟩
 obtain⟨m28,s29,rfl,hm30,hn31⟩:=Ap hI27;clear hI27;unfold Jd at hm30;simp only at hm30
 refine sr (wq Z (QV.lss Z Z Z Z) (nt (WC.seq ?_)))
 refine wc Z hm30 (fun h32 hm33=>?_) (fun h32 hm108=>?_) <;> clear hm30
 ·skip
  refine sk (WQ.then (WC.seq (WC.block (sr (wm Z ?_)))))
  obtain⟨c34,hm35⟩:=cs hm33;clear hm33
  obtain⟨p36,hp37⟩:=(h_l_body.le hle_7).lenMap.ix (sz:=9) Au c34
  refine wq Z (Ad Pp Z Z Z Z hp37) (wq Z (Ac Kk Z Z Z (fun w hw=>((Ah 1 Z hk (h_l_body.le hle_7)) w hw).ele hp37 c34)) (Aa Z ?_))
  refine(EV.alloc (by decide) Nz (fun b38=>?_))
  refine wa Z (Aa Z ?_)
  refine(EV.store 0 Z Z Z Z Z Z (vs:=(Stm.cells (ele l.body x25_7))) (show Value.cells _=List.toArray _ from Z) N0 (nl Z) (oc Z (oc Z (oc Z (oc Z (oc Z (oc Z (oc Z (oc Z (oc Z Aw))))))))) ?_)
  refine nt (WC.seq (sr (wq Z (Ac Kk Z Z Z (Ab 0 Z)) (Aa Z ?_))))
  obtain⟨x39,hx40,hm41⟩:=Ag hm35;clear hm35
  refine EV.of (C':=Own M w [kn M w.heap.size K0 k_7,blk b38 (Stm.cells (ele l.body x25_7)) 81,vec uv12_7 71 4 (List.map Edg.cells v12_7),blk b2 t.cells 28,blk b1 [v_l_logs,v_l_body,v_l_outs] 25]) (pk [2,0,1,3,4]) ?_
  refine(A4 (X:=Value×World) (R:=[]) (fun X=>X.1) (fun X=>[]) (fun X=>X.2) (fun X=>Arr X.2 X.1 2 (x39.map Rf.cells)) hk (fun _ h=>by cases h;decide) Ad7 (ec Z eN) (fun M w h1 h2=>have h:=Ii hx40  M w h1 h2;h) (fun X42 hF42 hle42=>?_))
  refine wq Z (Ay Try.underlying76 Z Z hF42.lenMap) (wm Z (nt ?_))
  obtain⟨o43,ho44,hm45⟩:=Ag hm41;clear hm41;obtain⟨n46,ho47⟩:=A0 ho44
  refine D2 (H2:=[kn M w.heap.size K0 X42.2,blk b38 (Stm.cells (ele l.body x25_7)) 81,blk b2 t.cells 28,blk b1 [v_l_logs,v_l_body,v_l_outs] 25]) (τ:=[u_ 2 _,u_ 3 _,u_ 7 _,u_ 23 _,u_ 24 _,u_ 25 _,u_ 31 _,u_ 32 _]) (fun (v12_8:List Edg) (x33_8:Int) (uv12_8:Value)=>[(6,(true,uv12_8)),(33,(true,i_ x33_8))]) (fun v12_8 x33_8 uv12_8=>[vec uv12_8 71 4 (List.map Edg.cells v12_8)]) (fun v12_8 x33_8 uv12_8 m=>B3 (Jc l t x25_7 x39) m (v12_8,x33_8)=some o43∧SliceLen uv12_8 v12_8.length) (fun v12_8 x33_8 uv12_8=>o43=.go (v12_8,x33_8)∧SliceLen uv12_8 v12_8.length) v12_7 0 uv12_7 n46 ⟨ho47,hlv12_7⟩ ⟨Z,Z,Z,Z,Z,Z,Z,Z,Z,Z,trivial⟩ (pk [2,0,1,3,4]) ?_ ?_
  ·skip
   rintro v12_8 x33_8 uv12_8 ⟨rfl,hlv12_8⟩
   refine WQ.then (sr (wf Co Z (wl Gv Z (Own.cell 4 Z Z) (wq Z (Ay Try.underlying23 Z Z (h_l_body.le (hle_7.trans hle42)).lenMap) (wm Z (nt ?_))))))
   obtain⟨o48,ho49,hm50⟩:=Ag hm45;clear hm45;obtain⟨n51,ho52⟩:=A0 ho49
   refine D2 (H2:=[kn M w.heap.size K0 X42.2,blk b38 (Stm.cells (ele l.body x25_7)) 81,blk b2 t.cells 28,blk b1 [v_l_logs,v_l_body,v_l_outs] 25]) (τ:=[u_ 2 _,u_ 3 _,u_ 7 _,u_ 23 _,u_ 24 _,u_ 25 _,u_ 58 _]) (fun (v12_9:List Edg) (x59_9:Int) (uv12_9:Value)=>[(6,(true,uv12_9)),(59,(true,i_ x59_9))]) (fun v12_9 x59_9 uv12_9=>[vec uv12_9 71 4 (List.map Edg.cells v12_9)]) (fun v12_9 x59_9 uv12_9 m=>B3 (Jb l x25_7) m (v12_9,x59_9)=some o48∧SliceLen uv12_9 v12_9.length) (fun v12_9 x59_9 uv12_9=>o48=.go (v12_9,x59_9)∧SliceLen uv12_9 v12_9.length) v12_8 0 uv12_8 n51 ⟨ho52,hlv12_8⟩ ⟨Z,Z,Z,Z,Z,Z,Z,Z,Z,trivial⟩ (pk [0,1,2,3,4]) ?_ ?_
   ·skip
    rintro v12_9 x59_9 uv12_9 ⟨rfl,hlv12_9⟩
    refine WQ.block (WQ.then (WC.region ?_))
    obtain⟨c53,hm54⟩:=cs hm50;clear hm50
    refine wq Z (QV.add Z Z Z Z c53) (wm Z (WL.nil ?_))
    exact Ev v12_9 (x25_7+1) uv12_9 X42.2 m28 ⟨Ax hm54 hn31,hlv12_9,(hle_7.trans hle42)⟩ (Nat.lt_succ_self _) ⟨Z,Z,Z,Z,Z,Z,trivial⟩ (pk [0,1,3,4])
   rintro v12_9 x59_9 uv12_9 m55 ⟨hI56,hlv12_9⟩
   obtain⟨m57,s58,rfl,hm59,hn60⟩:=Ap hI56;clear hI56;unfold Jb at hm59;simp only at hm59
   refine sr (wq Z (QV.lss Z Z Z Z) (nt (WC.seq ?_)))
   refine wc Z hm59 (fun h61 hm62=>?_) (fun h61 hm79=>?_) <;> clear hm59
   ·skip
    refine sk (WQ.then (WC.seq (WC.block (sr (wm Z (wa Z (ns (wq Z (Ac Fh Z Z Z (Ab 4 Z)) (wm Z (wm Z ?_))))))))))
    obtain⟨x63,hx64,hm65⟩:=Ag hm62;clear hm62
    refine wq Z (QV.call en97 (ec Z (ec Z (ec Z eN))) (fun w hw=>have h:=Abv w hx64 ((Ah 1 Z hk (h_l_logs.le (hle_7.trans hle42))) w hw) ((Ah 1 Z hk (h_l_body.le (hle_7.trans hle42))) w hw) ((Ah 1 Z hk (h_l_outs.le (hle_7.trans hle42))) w hw);h)) (wm Z (wq Z (QV.extract Z Z Z) (wq Z (QV.extract Z Z Z) (Aa Z ?_))))
    refine(EV.alloc (by decide) Ad3 (fun b66=>?_))
    refine Aa Z ?_
    refine(EV.store 0 Z Z Z Z Z Z (vs:=(Edg.cells x63.1)) (show Value.cells _=List.toArray _ from Z) Z4 (nl Z) (oc Z (oc Z (oc Z (oc Z Aw)))) ?_)
    refine wa Z (ns (wm Z (nt ?_)))
    refine wc Z hm65 (fun h67 hm68=>?_) (fun h67 hm76=>?_) <;> clear hm65
    ·skip
     refine WC.region (wm Z (wq Z (Ac Uc Z Z Z (Ab 0 Z)) (Aa Z ?_)))
     refine(EV.buildSlice (by decide) An3 (by decide) (by decide) (ps:=[(0,.tmp 71)]) (cells:=(Edg.cells x63.1)) (ec Z eN) (by kernel_rfl) (fun b69=>?_))
     refine Aa Z ?_
     obtain⟨c70,c74,hm75⟩:=cs2 hm68;clear hm68
     refine(Bx (enc:=Edg.cells) (xs:=v12_9) (ys:=[x63.1]) ((v12_9++[x63.1])) 2 (by decide) ve68 Z Z Z Z Z (Bj 0 (rows:=[x63.1].map Edg.cells) Z Z (B5 Edg.cells_len)) Edg.cells_len (Edg.cells_one _) Z c70.1 c70.2 (fun u72 hu73=>?_))
     refine wa Z (WL.nil (WQ.block (WQ.then (WC.region (wq Z (QV.add Z Z Z Z c74) (wm Z (WL.nil ?_)))))))
     exact C4 (v12_9++[x63.1]) (x59_9+1) u72 m57 ⟨Ax hm75 hn60,hu73⟩ (Nat.lt_succ_self _) ⟨Z,Z,Z,Z,Z,Z,Z,Z,Z,trivial⟩ (pk [2,3,4,5,6])
    refine sk (WQ.block (WQ.then (WC.region ?_)))
    obtain⟨c77,hm78⟩:=cs hm76;clear hm76
    refine wq Z (QV.add Z Z Z Z c77) (wm Z (WL.nil ?_))
    exact C4 v12_9 (x59_9+1) uv12_9 m57 ⟨Ax hm78 hn60,hlv12_9⟩ (Nat.lt_succ_self _) ⟨Z,Z,Z,Z,Z,Z,Z,Z,Z,trivial⟩ (pk [1,2,3,4,5])
   refine WC.exit (te (te (Ai ?_)))
   exact Gw v12_9 x59_9 uv12_9 ⟨A6 hm79 hn60,hlv12_9⟩ ⟨Z,Z,Z,Z,Z,Z,Z,Z,Z,trivial⟩ (pk [0,1,2,3,4])
  rintro v12_8 x33_8 uv12_8 m80 ⟨hI81,hlv12_8⟩
  obtain⟨m82,s83,rfl,hm84,hn85⟩:=Ap hI81;clear hI81;unfold Jc at hm84;simp only at hm84
  refine sr (wq Z (QV.lss Z Z Z Z) (nt (WC.seq ?_)))
  refine wc Z hm84 (fun h86 hm87=>?_) (fun h86 hm107=>?_) <;> clear hm84
  ·skip
   refine sk (WQ.then (WC.seq (WC.block (sr ?_))))
   obtain⟨c88,hm89⟩:=cs hm87;clear hm87
   obtain⟨p90,hp91⟩:=hF42.lenMap.ix (sz:=2) Au c88
   refine wq Z (Ad Ags Z Z Z Z hp91) (wq Z (Ac K6 Z Z Z (fun w hw=>((Ah 1 Z hk hF42) w hw).ele hp91 c88)) (Aa Z ?_))
   refine(EV.alloc (by decide) Ad2 (fun b92=>?_))
   refine Aa Z ?_
   refine(EV.store 0 Z Z Z Z Z Z (vs:=[i_ ((ele x39 x33_8).st),i_ ((ele x39 x33_8).bk)]) (show Value.cells _=List.toArray _ from Z) Wb (nl Z) (oc Z (oc Z Aw)) ?_)
   refine nt (B9 (m:=19) (S:=Own M w [kn M w.heap.size K0 X42.2,blk b92 [i_ ((ele x39 x33_8).st),i_ ((ele x39 x33_8).bk)] 79,blk b38 (Stm.cells (ele l.body x25_7)) 81,blk b2 t.cells 28,blk b1 [v_l_logs,v_l_body,v_l_outs] 25]) (by kernel_rfl) (by kernel_rfl) (pk [2,0,3,4,5]) (zm 0 Z Z (zf 1 Mw Z Z (zl 2 pl3 Z Z (Own.cell 1 Z Z) (zm 3 Z Z (zf 4 Mv Z Z (zl 5 pl3 Z Z (Own.cell 1 Z Z) (wz 6 Z Z (Ac Gk Z Z Z (Ab 3 Z)) (zf 7 Co Z Z ?_)))))))))
   refine zl 8 Gv Z Z (Own.cell 4 Z Z) (zf 9 Mw Z Z (zl 10 pl3 Z Z (Own.cell 1 Z Z) ?_))
   obtain⟨c93,hm94⟩:=cs hm89;clear hm89
   obtain⟨p95,hp96⟩:=(h_l_body.le (hle_7.trans hle42)).lenMap.ix (sz:=9) Au c93
   refine wz 11 Z Z (Ad Pp Z Z Z Z hp96) (zf 12 F2 Z Z (zl 13 pl3 Z Z (fun w hw=>CellsAt.one 0 (((Ah 0 Z hk (h_l_body.le (hle_7.trans hle42))) w hw).ele hp96 c93) Z) ?_))
   obtain⟨x97,hx98,hm99⟩:=Ag hm94;clear hm94
   refine wz 14 Z Z (QV.call Ail (ec Z (ec Z eN)) (fun w hw=>have h:=Js w hx98 ;h)) (wz 15 Z Z (QV.build (ps:=[(0,.tmp 39),(1,.tmp 40),(2,.tmp 42),(3,.tmp 51)]) (cells:=[i_ ((ele x39 x33_8).st),i_ x25_7,i_ ((ele x39 x33_8).bk),i_ x97]) (ec Z (ec Z (ec Z (ec Z eN)))) (by kernel_rfl)) ?_)
   refine WD.o 16 Z (by kernel_rfl) Z ?_
   refine(EV.buildSlice (by decide) An3 (by decide) (by decide) (ps:=[(0,.tmp 52)]) (cells:=[i_ ((ele x39 x33_8).st),i_ x25_7,i_ ((ele x39 x33_8).bk),i_ x97]) (ec Z eN) (by kernel_rfl) (fun b100=>?_))
   refine WD.b (H':=[kn M w.heap.size K0 X42.2,blk b100 [i_ ((ele x39 x33_8).st),i_ x25_7,i_ ((ele x39 x33_8).bk),i_ x97] 71,blk b92 [i_ ((ele x39 x33_8).st),i_ ((ele x39 x33_8).bk)] 79,blk b38 (Stm.cells (ele l.body x25_7)) 81,blk b2 t.cells 28,blk b1 [v_l_logs,v_l_body,v_l_outs] 25]) (pk [3,0,1,4,5,6]) (pk [0,2,3,4,5]) ?_
   refine WD.o 17 Z (by kernel_rfl) Z ?_
   obtain⟨c101,c105,hm106⟩:=cs2 hm99;clear hm99
   refine(Bx (enc:=Edg.cells) (xs:=v12_8) (ys:=[(Edg.mk ((ele x39 x33_8).st) x25_7 ((ele x39 x33_8).bk) x97)]) ((v12_8++[(Edg.mk ((ele x39 x33_8).st) x25_7 ((ele x39 x33_8).bk) x97)])) 2 (by decide) ve68 Z Z Z Z Z (Bj 0 (rows:=[(Edg.mk ((ele x39 x33_8).st) x25_7 ((ele x39 x33_8).bk) x97)].map Edg.cells) Z Z (B5 Edg.cells_len)) Edg.cells_len (Edg.cells_one _) Z c101.1 c101.2 (fun u103 hu104=>?_))
   refine WD.b (H':=[kn M w.heap.size K0 X42.2,blk b100 [i_ ((ele x39 x33_8).st),i_ x25_7,i_ ((ele x39 x33_8).bk),i_ x97] 71,blk b92 [i_ ((ele x39 x33_8).st),i_ ((ele x39 x33_8).bk)] 79,vec u103 71 4 (List.map Edg.cells (v12_8++[(Edg.mk ((ele x39 x33_8).st) x25_7 ((ele x39 x33_8).bk) x97)])),blk b38 (Stm.cells (ele l.body x25_7)) 81,blk b2 t.cells 28,blk b1 [v_l_logs,v_l_body,v_l_outs] 25]) (pk [3,0,1,2,4,5,6]) (pk [0,1,2,4,5,6]) ?_
   refine wz 18 Z Z (QV.assign Z Z) ?_
   refine WD.e (by kernel_rfl) ?_
   refine WQ.block (WQ.then (WC.region (wq Z (QV.add Z Z Z Z c105) (wm Z (WL.nil ?_)))))
   exact C4 (v12_8++[(Edg.mk ((ele x39 x33_8).st) x25_7 ((ele x39 x33_8).bk) x97)]) (x33_8+1) u103 m82 ⟨Ax hm106 hn85,hu104⟩ (Nat.lt_succ_self _) ⟨Z,Z,Z,Z,Z,Z,Z,Z,Z,Z,trivial⟩ (pk [2,3,4,5,6])
  refine WC.exit (te (te (Ai ?_)))
  exact Gw v12_8 x33_8 uv12_8 ⟨A6 hm107 hn85,hlv12_8⟩ ⟨Z,Z,Z,Z,Z,Z,Z,Z,Z,Z,trivial⟩ (pk [0,1,2,3,4])
 refine WC.exit (te (te (Ai ?_)))
 exact Ko v12_7 x25_7 uv12_7 k_7 ⟨A6 hm108 hn31,hlv12_7,hle_7⟩ ⟨Z,Z,Z,Z,Z,Z,trivial⟩ (pk [0,1,2,3])
end Go.Proofs.Ytaimbkndebaaiac
end
section
namespace Go.Proofs.Ytaimbkndebaaiac
open Go.Rd
open TNum TLoop TStable TMach TMach2 TKern TClone TNbr TSeq TKRun TKeep TOrd TCpt TDep
namespace TSched1
theorem Nt:N4 Try.prog 91 2:=⟨_,Try.underlying91,rfl,by kernel_rfl⟩
theorem Alt:Go.Rd.Enters Try.prog 62:=eT Try.func62
theorem en73:Go.Rd.Enters Try.prog 73:=eT Try.func73
theorem J3:Bw Try.prog 91 0 0:=fT 0 Try.underlying91
theorem Jl:Bw Try.prog 91 1 1:=fT 0 Try.underlying91
end TSched1
open TSched1
theorem Tx {v_l_logs v_l_body v_l_outs v_p_times v_edges:Value}{l:Lp}{t:Tgt}{p:Pln}{edges:List Edg}{r:Bool} (w:World) (hm:He l t p edges=some r) (h_l_logs:Arr w v_l_logs 1 (l.logs.map Af)) (h_l_body:Arr w v_l_body 9 (l.body.map Stm.cells)) (h_l_outs:Arr w v_l_outs 1 (l.outs.map Af)) (h_p_times:Arr w v_p_times 1 (p.times.map Af)) (h_edges:Arr w v_edges 4 (edges.map Edg.cells)):Calls Try.prog 73 #[.agg #[v_l_logs,v_l_body,v_l_outs],.agg #[.int .i64 t.u0,.int .i64 t.u1,.int .i64 t.u2,.int .i64 t.w0,.int .i64 t.w1,.int .i64 t.w2,.int .i64 t.regs],.agg #[.int .i64 p.pace,v_p_times],v_edges] w (fun e w'=>e=.returned (.bool r)∧Grow w w'):=by
 unfold He at hm
 have hk:=Base.rfl (w:=w)
 refine Ak (n:=87) (args:=[.agg #[v_l_logs,v_l_body,v_l_outs],.agg #[i_ t.u0,i_ t.u1,i_ t.u2,i_ t.w0,i_ t.w1,i_ t.w2,i_ t.regs],.agg #[i_ p.pace,v_p_times],v_edges]) Try.func73 Z Z (nl Z) ?_ (An hk (Own.start w))
 refine sr (Aa Z ?_)
 refine(Aq (by decide) Z Z (fun b1=>?_))
 refine Aa Z ?_
 refine(Aq (by decide) Z Z (fun b2=>?_))
 refine Aa Z ?_
 refine(Aq (by decide) Z Z (fun b3=>?_))
 refine wa Z (ns (Aa Z ?_))
 refine(EV.makeMap (ke:=kP) (ve:=Cg) (by decide) (fun b4=>?_))
 refine wa Z (nt (WC.seq (sr (wf Jl Z (wl Du Z (Own.cell 1 Z Z) (wq Z (Ay Try.underlying22 Z Z h_p_times.lenMap) (wm Z (nt ?_))))))))
 obtain⟨o5,ho6,hm7⟩:=Ag hm;clear hm;obtain⟨n8,ho9⟩:=A0 ho6
 refine Bz (H2:=[blk b3 [i_ p.pace,v_p_times] 91,blk b2 t.cells 28,blk b1 [v_l_logs,v_l_body,v_l_outs] 25,kn noM w.heap.size w w]) (τ:=[u_ 3 _,u_ 4 _,u_ 5 _,u_ 6 _,u_ 9 _,u_ 17 _,u_ 18 _]) (fun (m4n_1:List ((Int×Int)×Int)) (x19_1:Int)=>[(19,(true,i_ x19_1))]) (fun m4n_1 x19_1=>[Eb b4 kP Cg m4n_1]) (fun m4n_1 x19_1 m=>B3 (Gn l t p) m (m4n_1,x19_1)=some o5) (fun m4n_1 x19_1=>o5=.go (m4n_1,x19_1)) ([]:List ((Int×Int)×Int)) 0 n8 ho9 ⟨Z,Z,Z,Z,Z,Z,Z,Z,trivial⟩ (pk [0,1,2,3,4]) ?_ ?_
 ·skip
  rintro m4n_1 x19_1 rfl
  refine WQ.then (WC.seq (sr (wm Z (wq Z (Ay Try.underlying68 Z Z h_edges.lenMap) (wm Z (nt ?_))))))
  obtain⟨o10,ho11,hm12⟩:=Ag hm7;clear hm7;obtain⟨n13,ho14⟩:=A0 ho11
  refine Ci (H2:=[Eb b4 kP Cg m4n_1,blk b3 [i_ p.pace,v_p_times] 91,blk b2 t.cells 28,blk b1 [v_l_logs,v_l_body,v_l_outs] 25,kn noM w.heap.size w w]) (τ:=[u_ 6 _,u_ 58 _,u_ 59 _]) (fun (x60_2:Int)=>[(60,(true,i_ x60_2))]) (fun x60_2=>[]) (fun x60_2 m=>B3 (Gm p edges) m x60_2=some o10) (fun x60_2=>o10=.go x60_2) 0 n13 ho14 ⟨Z,Z,Z,Z,trivial⟩ (pk [0,1,2,3,4]) ?_ ?_
  ·skip
   rintro x60_2 rfl
   refine WQ.then (sr (wa Z (nt (WC.ret ?_))))
   obtain rfl:=(Ae hm12).symm
   exact Ar Z Z fun w hw=>kg hw
  rintro x60_2 m15 hI16
  obtain⟨m17,s18,rfl,hm19,hn20⟩:=Ap hI16;clear hI16;unfold Gm at hm19
  refine sr (wq Z (QV.lss Z Z Z Z) (nt (WC.seq ?_)))
  refine wc Z hm19 (fun h21 hm22=>?_) (fun h21 hm47=>?_) <;> clear hm19
  ·skip
   refine sk (WQ.then (WC.seq (WC.block (sr ?_))))
   obtain⟨c23,hm24⟩:=cs hm22;clear hm22
   obtain⟨p25,hp26⟩:=h_edges.lenMap.ix (sz:=4) Au c23
   refine wq Z (Ad Sx Z Z Z Z hp26) (wq Z (Ac Uc Z Z Z (fun w hw=>((Ah 4 Z hk h_edges) w hw).ele hp26 c23)) (Aa Z ?_))
   refine(EV.alloc (by decide) Ad3 (fun b27=>?_))
   refine Aa Z ?_
   refine(EV.store 0 Z Z Z Z Z Z (vs:=(Edg.cells (ele edges x60_2))) (show Value.cells _=List.toArray _ from Z) Z4 (nl Z) (oc Z (oc Z (oc Z (oc Z Aw)))) ?_)
   refine nt (WC.seq (B9 (m:=22) (S:=Own noM w [kn noM w.heap.size w w,blk b27 (Edg.cells (ele edges x60_2)) 71,Eb b4 kP Cg m4n_1,blk b3 [i_ p.pace,v_p_times] 91,blk b2 t.cells 28,blk b1 [v_l_logs,v_l_body,v_l_outs] 25]) (by kernel_rfl) (by kernel_rfl) (pk [5,0,1,2,3,4]) (zf 0 Jl Z Z (zl 1 Du Z Z (Own.cell 3 Z Z) (zf 2 Sd Z Z (zl 3 pl3 Z Z (Own.cell 1 Z Z) ?_))))))
   obtain⟨c28,hm29⟩:=cs hm24;clear hm24
   obtain⟨p30,hp31⟩:=h_p_times.lenMap.ix (sz:=1) Au c28
   refine wz 4 Z Z (Ad Ei Z Z Z Z hp31) (zl 5 pl3 Z Z (fun w hw=>CellsAt.one 0 (((Ah 0 Z hk h_p_times) w hw).ele hp31 c28) Z) (zf 6 Ui Z Z (zl 7 pl3 Z Z (Own.cell 1 Z Z) (zf 8 J3 Z Z (zl 9 pl3 Z Z (Own.cell 3 Z Z) ?_)))))
   obtain⟨c32,c34,c36,hm37⟩:=cs3 hm29;clear hm29
   refine wz 10 Z Z (QV.mul Z Z Z Z c32) (wz 11 Z Z (QV.add Z Z Z Z c34) (zf 12 Jl Z Z (zl 13 Du Z Z (Own.cell 3 Z Z) (zf 14 P4 Z Z (zl 15 pl3 Z Z (Own.cell 1 Z Z) ?_)))))
   obtain⟨p38,hp39⟩:=h_p_times.lenMap.ix (sz:=1) Au c36
   refine wz 16 Z Z (Ad Ei Z Z Z Z hp39) (zl 17 pl3 Z Z (fun w hw=>CellsAt.one 0 (((Ah 0 Z hk h_p_times) w hw).ele hp39 c36) Z) (zf 18 Uh Z Z (zl 19 pl3 Z Z (Own.cell 1 Z Z) ?_)))
   obtain⟨c40,hm41⟩:=cs hm37;clear hm37
   refine wz 20 Z Z (QV.add Z Z Z Z c40) (wz 21 Z Z (QV.lss Z Z Z Z) ?_)
   refine WD.e (by kernel_rfl) ?_
   refine WQ.then ?_
   refine wc Z hm41 (fun h42 hm43=>?_) (fun h42 hm44=>?_) <;> clear hm41
   ·skip
    refine sr (wa Z (nt (WC.ret (kr (tr (tr (kr (tr (tr ?_)))))))))
    obtain rfl:=Cy hm43 hn20
    obtain rfl:=(Ae hm12).symm
    exact Ar Z Z fun w hw=>kg hw
   refine sk (WQ.block (WQ.then (WC.region ?_)))
   obtain⟨c45,hm46⟩:=cs hm44;clear hm44
   refine wq Z (QV.add Z Z Z Z c45) (wm Z (WL.nil ?_))
   exact Ch (x60_2+1) m17 (Ax hm46 hn20) (Nat.lt_succ_self _) ⟨Z,Z,Z,Z,trivial⟩ (pk [1,2,3,4,5])
  refine WC.exit (te (te (Ai ?_)))
  exact C7 x60_2 (A6 hm47 hn20) ⟨Z,Z,Z,Z,trivial⟩ (pk [0,1,2,3,4])
 rintro m4n_1 x19_1 m48 hI49
 obtain⟨m50,s51,rfl,hm52,hn53⟩:=Ap hI49;clear hI49;unfold Gn at hm52;simp only at hm52
 refine sr (wq Z (QV.lss Z Z Z Z) (nt (WC.seq ?_)))
 refine wc Z hm52 (fun h54 hm55=>?_) (fun h54 hm83=>?_) <;> clear hm52
 ·skip
  refine sk (WQ.then (WC.seq (WC.block (sr (wm Z ?_)))))
  obtain⟨c56,hm57⟩:=cs hm55;clear hm55
  obtain⟨p58,hp59⟩:=h_p_times.lenMap.ix (sz:=1) Au c56
  refine wq Z (Ad Ei Z Z Z Z hp59) (wl pl3 Z (fun w hw=>CellsAt.one 0 (((Ah 4 Z hk h_p_times) w hw).ele hp59 c56) Z) (wa Z (wa Z (nt (WC.seq (sr (wm Z (wq Z (QV.lss Z Z Z Z) (wm Z (gn Z (fun hG=>QV.move Z Z) (gn Z (fun hG=>QV.gtr Z hG Z Z) ?_)))))))))))
  refine wq Z (A2 Z Z Z (fun h=>Dv h)) (nt ?_)
  refine wc Z hm57 (fun h60 hm61=>?_) (fun h60 hm62=>?_) <;> clear hm57
  ·skip
   refine sr (wa Z (nt (WC.ret (tr (kr (tr (tr (kr (tr (tr ?_))))))))))
   obtain rfl:=Cy hm61 hn53
   obtain rfl:=(Ae hm7).symm
   exact Ar Z Z fun w hw=>kg hw
  refine sk (WQ.then (WC.seq (B9 (m:=14) (S:=Own noM w [kn noM w.heap.size w w,Eb b4 kP Cg m4n_1,blk b3 [i_ p.pace,v_p_times] 91,blk b2 t.cells 28,blk b1 [v_l_logs,v_l_body,v_l_outs] 25]) (by kernel_rfl) (by kernel_rfl) (pk [4,0,1,2,3]) (zm 0 Z Z (zf 1 J3 Z Z (zl 2 pl3 Z Z (Own.cell 2 Z Z) ?_))))))
  obtain⟨c63,c65,hm66⟩:=cs2 hm62;clear hm62
  refine wz 3 Z Z (QV.rem Z Z Z Z c63) (zf 4 Co Z Z (zl 5 Gv Z Z (Own.cell 4 Z Z) (zm 6 Z Z ?_)))
  obtain⟨p67,hp68⟩:=h_l_body.lenMap.ix (sz:=9) Au c65
  refine wz 7 Z Z (Ad Pp Z Z Z Z hp68) (zf 8 F2 Z Z (zl 9 pl3 Z Z (fun w hw=>CellsAt.one 0 (((Ah 0 Z hk h_l_body) w hw).ele hp68 c65) Z) ?_))
  obtain⟨x69,hx70,hm71⟩:=Ag hm66;clear hm66
  refine wz 10 Z Z (QV.call Yc (ec Z eN) (fun w hw=>have h:=Fd w hx70 ;h)) (wz 11 Z Z (QV.build (ps:=[(0,.tmp 33),(1,.tmp 40)]) (cells:=[i_ (Int.tmod (ele p.times x19_1) p.pace),i_ x69]) (ec Z (ec Z eN)) (by kernel_rfl)) ?_)
  refine WD.o 12 Z (by kernel_rfl) Z ?_
  refine(EV.alloc (by decide) Anx (fun b72=>?_))
  refine WD.b (H':=[kn noM w.heap.size w w,blk b72 [i_ 0,i_ 0] 146,Eb b4 kP Cg m4n_1,blk b3 [i_ p.pace,v_p_times] 91,blk b2 t.cells 28,blk b1 [v_l_logs,v_l_body,v_l_outs] 25]) (pk [5,0,1,2,3,4]) (pk [0,2,3,4,5]) ?_
  refine WD.l 13 Z (by kernel_rfl) Z ?_
  refine(EV.store 0 Z Z Z Z Z Z (vs:=[i_ (Int.tmod (ele p.times x19_1) p.pace),i_ x69]) (show Value.cells _=List.toArray _ from Z) An4 (nl Z) (oc Z (oc Z Aw)) ?_)
  refine WQ.then (WC.seq (B9 (m:=7) (S:=Own noM w [kn noM w.heap.size w w,blk b72 [i_ (Int.tmod (ele p.times x19_1) p.pace),i_ x69] 146,Z7 b4 kP Cg 0 m4n_1,blk b3 [i_ p.pace,v_p_times] 91,blk b2 t.cells 28,blk b1 [v_l_logs,v_l_body,v_l_outs] 25]) (by kernel_rfl) (by kernel_rfl) (fun w hw=>Qq 2 0 Z (hw.pick [5,0,1,2,3,4] (by decide))) (zm 0 Z Z (wz 1 Z Z (Ac Afn Z Z Z (Ab 1 Z)) (wz 2 Z Z (Sr (k:=((Int.tmod (ele p.times x19_1) p.pace),x69)) 2 0 S3 S4 Md Z Z Z Z Z) ?_)))))
  obtain⟨c73,c76,hm77⟩:=cs2 hm71;clear hm71
  refine wz 3 Z Z (QV.add Z Z Z Z c73) ?_
  refine WD.o 4 Z (by kernel_rfl) Z ?_
  refine(EV.mapEntry (by decide) ((Int.tmod (ele p.times x19_1) p.pace),x69) 1 0 S3 S4 Md Z Z Z Z Z (fun s75=>?_))
  refine WD.b (H':=[kn noM w.heap.size w w,blk b72 [i_ (Int.tmod (ele p.times x19_1) p.pace),i_ x69] 146,Z7 b4 kP Cg 0 m4n_1,blk b3 [i_ p.pace,v_p_times] 91,blk b2 t.cells 28,blk b1 [v_l_logs,v_l_body,v_l_outs] 25]) (fun w hw=>Qp 2 Z (hw.pick [5,0,1,2,3,4] (by decide))) (pk [0,1,2,3,4,5]) ?_
  refine wz 5 Z Z (QV.extract Z Z Z) ?_
  refine WD.l 6 Z (by kernel_rfl) Z ?_
  refine(EV.entryStore (ke:=kP) (ve:=Cg) ((Int.tmod (ele p.times x19_1) p.pace),x69) 1 ((Dm m4n_1 ((Int.tmod (ele p.times x19_1) p.pace),x69) 0)+1) s75 Z Z Z Z Z Z Z ?_)
  refine WQ.then (WC.seq (B9 (m:=9) (S:=Own noM w [kn noM w.heap.size w w,blk b72 [i_ (Int.tmod (ele p.times x19_1) p.pace),i_ x69] 146,Eb b4 kP Cg (Es m4n_1 ((Int.tmod (ele p.times x19_1) p.pace),x69) ((Dm m4n_1 ((Int.tmod (ele p.times x19_1) p.pace),x69) 0)+1)),blk b3 [i_ p.pace,v_p_times] 91,blk b2 t.cells 28,blk b1 [v_l_logs,v_l_body,v_l_outs] 25]) (by kernel_rfl) (by kernel_rfl) (pk [5,0,1,2,3,4]) (zm 0 Z Z (wz 1 Z Z (Ac Afn Z Z Z (Ab 1 Z)) (wz 2 Z Z (QV.lookup (k:=((Int.tmod (ele p.times x19_1) p.pace),x69)) 2 0 S3 S4 Md Z Z Z Z Z) (wz 3 Z Z (B1 Aoi Z Z Z Z (by decide) (by decide)) (zl 4 pl3 Z Z (Own.cell 1 Z Z) (zf 5 Se Z Z ?_))))))))
  refine wz 6 Z Z (B1 Pq Z Z Z Z c76.1 c76.2) (zl 7 pl3 Z Z (Da 4 Z (Fo (off:=0) (i:=x69) c76.1 c76.2 Z Z Z) (E8 _ _ _)) (wz 8 Z Z (QV.gtr Z Z Z Z) ?_))
  refine WD.e (by kernel_rfl) ?_
  refine WQ.then ?_
  refine wc Z hm77 (fun h78 hm79=>?_) (fun h78 hm80=>?_) <;> clear hm77
  ·skip
   refine sr (wa Z (nt (WC.ret (kr (tr (tr (kr (tr (tr ?_)))))))))
   obtain rfl:=Cy hm79 hn53
   obtain rfl:=(Ae hm7).symm
   exact Ar Z Z fun w hw=>kg hw
  refine sk (WQ.block (WQ.then (WC.region ?_)))
  obtain⟨c81,hm82⟩:=cs hm80;clear hm80
  refine wq Z (QV.add Z Z Z Z c81) (wm Z (WL.nil ?_))
  exact Bn (Es m4n_1 ((Int.tmod (ele p.times x19_1) p.pace),x69) ((Dm m4n_1 ((Int.tmod (ele p.times x19_1) p.pace),x69) 0)+1)) (x19_1+1) m50 (Ax hm82 hn53) (Nat.lt_succ_self _) ⟨Z,Z,Z,Z,Z,Z,Z,Z,trivial⟩ (pk [1,2,3,4,5])
 refine WC.exit (te (te (Ai ?_)))
 exact Cb m4n_1 x19_1 (A6 hm83 hn53) ⟨Z,Z,Z,Z,Z,Z,Z,Z,trivial⟩ (pk [0,1,2,3,4])
theorem Ru {v_l_logs v_l_body v_l_outs v_p_times:Value}{l:Lp}{t:Tgt}{p:Pln}{r:Bool} (w:World) (hm:Hq l t p=some r) (h_l_logs:Arr w v_l_logs 1 (l.logs.map Af)) (h_l_body:Arr w v_l_body 9 (l.body.map Stm.cells)) (h_l_outs:Arr w v_l_outs 1 (l.outs.map Af)) (h_p_times:Arr w v_p_times 1 (p.times.map Af)):Calls Try.prog 107 #[.agg #[v_l_logs,v_l_body,v_l_outs],.agg #[.int .i64 t.u0,.int .i64 t.u1,.int .i64 t.u2,.int .i64 t.w0,.int .i64 t.w1,.int .i64 t.w2,.int .i64 t.regs],.agg #[.int .i64 p.pace,v_p_times]] w (fun e w'=>e=.returned (.bool r)∧Grow w w'):=by
 unfold Hq at hm
 have hk:=Base.rfl (w:=w)
 refine Ak (n:=43) (args:=[.agg #[v_l_logs,v_l_body,v_l_outs],.agg #[i_ t.u0,i_ t.u1,i_ t.u2,i_ t.w0,i_ t.w1,i_ t.w2,i_ t.regs],.agg #[i_ p.pace,v_p_times]]) Try.func107 Z Z (nl Z) ?_ (An hk (Own.start w))
 refine sr (Aa Z ?_)
 refine(Aq (by decide) Z Z (fun b1=>?_))
 refine Aa Z ?_
 refine(Aq (by decide) Z Z (fun b2=>?_))
 refine Aa Z ?_
 refine(Aq (by decide) Z Z (fun b3=>?_))
 refine wa Z (ns (wq Z (Ac Fh Z Z Z (Ab 2 Z)) (wq Z (Ac Gk Z Z Z (Ab 1 Z)) (Aa Z ?_))))
 obtain⟨x4,hx5,hm6⟩:=Ag hm;clear hm
 refine EV.of (C':=Own noM w [kn noM w.heap.size w w,blk b3 [i_ p.pace,v_p_times] 91,blk b2 t.cells 28,blk b1 [v_l_logs,v_l_body,v_l_outs] 25]) (pk [3,0,1,2]) ?_
 refine(A4 (X:=Value×World) (R:=[]) (fun X=>.tuple #[X.1,i_ x4.2]) (fun X=>[]) (fun X=>X.2) (fun X=>Arr X.2 X.1 4 (x4.1.map Edg.cells)) hk (fun _ h=>by cases h;decide) Alt (ec Z (ec Z eN)) (fun M w h1 h2=>have h:=Nn hx5 h_l_logs h_l_body h_l_outs M w h1 h2;h) (fun X7 hF7 hle7=>?_))
 refine wm Z (wq Z (QV.extract Z Z Z) (wq Z (QV.extract Z Z Z) (wa Z (wa Z (ns (wm Z (wq Z (QV.eql Z Z Z Z) (wm Z (gp Z (fun hG=>QV.fieldAddr J3 Z Z) ?_)))))))))
 refine gp Z (fun hG=>QV.load pl3 Z hG (Own.cell 1 Z Z)) (gp Z (fun hG=>QV.geq Z hG Z Z) (wq Z (Az Z Z Z (fun h=>h)) (wm Z (gp Z (fun hG=>QV.fieldAddr J3 Z Z) (gp Z (fun hG=>QV.load pl3 Z hG (Own.cell 1 Z Z)) (gp Z (fun hG=>QV.leq Z hG Z Z) (wq Z (Az Z Z Z (fun h=>h)) (wm Z (gp Z (fun hG=>QV.fieldAddr Jl Z Z) ?_)))))))))
 refine gp Z (fun hG=>QV.load Du Z hG (Own.cell 1 Z Z)) (gp Z (fun hG=>Ay Try.underlying22 Z hG (h_p_times.le hle7).lenMap) (gp Z (fun hG=>QV.fieldAddr Co Z Z) (gp Z (fun hG=>QV.load Gv Z hG (Own.cell 3 Z Z)) (gp Z (fun hG=>Ay Try.underlying23 Z hG (h_l_body.le hle7).lenMap) (gp Z (fun hG=>QV.eql Z hG Z hG) (wq Z (Az Z Z Z (fun h=>h)) (wm Z (gp Z (fun hG=>Ac Fh Z Z Z (Ab 3 Z)) (gp Z (fun hG=>Ac Gk Z Z Z (Ab 2 Z)) ?_)))))))))
 refine gp Z (fun hG=>Ac Nt Z Z Z (Ab 1 Z)) (gp Z (fun hG=>QV.move Z Z) ?_)
 obtain⟨x8,hx9,hm10⟩:=Ce hm6;clear hm6
 refine gp Z (fun hG=>QV.call en73 (EvAll.cons Z hG (EvAll.cons Z hG (EvAll.cons Z hG (EvAll.cons Z hG eN)))) (fun w hw=>have h:=Tx w (hx9 hG) ((Ah 0 Z hk (h_l_logs.le hle7)) w hw) ((Ah 0 Z hk (h_l_body.le hle7)) w hw) ((Ah 0 Z hk (h_l_outs.le hle7)) w hw) ((Ah 0 Z hk (h_p_times.le hle7)) w hw) ((Ah 0 Z hk hF7) w hw);h)) (wq Z (Az Z Z Z (fun h=>h)) (wa Z (nt (WC.ret ?_))))
 obtain rfl:=(Ae hm10).symm
 exact Ar Z Z fun w hw=>kg hw
end Go.Proofs.Ytaimbkndebaaiac
end
section
namespace Go.Proofs.Ytaimbkndebaaiac
open Go.Rd
open TNum TLoop TStable TMach TMach2 TKern TClone TNbr TSeq TKRun TKeep TOrd TCpt TDep TSched1
namespace TEmit
theorem Aoh:Go.Rd.Enters Try.prog 107:=eT Try.func107
theorem Ain:Go.Rd.Enters Try.prog 37:=eT Try.func37
theorem pl172:K3 Try.prog 172:=⟨_,Try.underlying172,rfl⟩
theorem sz172:C8 Try.prog 172 1:=by unfold C8;kernel_rfl
theorem sz29:C8 Try.prog 29 1:=by unfold C8;kernel_rfl
theorem Sw:C8 Try.prog 31 3:=by unfold C8;kernel_rfl
theorem sz_29:L6 Try.prog 29 75 10 [.int .i64 0,.int .i64 0,.int .i64 0,.int .i64 0,.int .i64 0,.int .i64 0,.int .i64 0,.int .i64 0,.int .i64 0,.int .i64 0]:=⟨Try.underlying29,by kernel_rfl⟩
theorem ve29:Rl Try.prog 29 75 10 80:=⟨Try.underlying29,by kernel_rfl,by decide⟩
theorem Abx:ZeroT Try.prog 31 [.int .i64 0,.int .i64 0,.slice none 0 0]:=by unfold ZeroT;kernel_rfl
end TEmit
open TEmit
theorem L0 {a b r:Int} (w:World) (hm:F9 a b=some r) :Calls Try.prog 37 #[.int .i64 a,.int .i64 b] w (fun e w'=>e=.returned (.int .i64 r)∧Grow w w'):=by
 unfold F9 at hm
 have hk:=Base.rfl (w:=w)
 refine Ak (n:=12) (args:=[i_ a,i_ b]) Try.func37 Z Z (nl Z) ?_ (An hk (Own.start w))
 refine sr (wa Z (ns (wm Z (wm Z ?_))))
 obtain⟨c1,c3,c5,hm6⟩:=cs3 hm;clear hm
 refine wq Z (QV.rem Z Z Z Z c1) (wm Z (wq Z (QV.add Z Z Z Z c3) (wm Z (wq Z (QV.rem Z Z Z Z c5) (wa Z (nt (WC.ret ?_)))))))
 obtain rfl:=(Ae hm6).symm
 exact Ar Z Z fun w hw=>kg hw
theorem Adw {v_l_logs v_l_body v_l_outs v_p_times v_dests:Value}{l:Lp}{t:Tgt}{p:Pln}{dests:List Int}{r:Krn×Int}{K0:World} (hm:L3 l t p dests=some r) (h_l_logs:Arr K0 v_l_logs 1 (l.logs.map Af)) (h_l_body:Arr K0 v_l_body 9 (l.body.map Stm.cells)) (h_l_outs:Arr K0 v_l_outs 1 (l.outs.map Af)) (h_p_times:Arr K0 v_p_times 1 (p.times.map Af)) (h_dests:Arr K0 v_dests 1 (dests.map Af)) (M:Nat→Prop) (w:World) (hk:Base M K0 w) (hw0:Own M w [] w):Calls Try.prog 75 #[.agg #[v_l_logs,v_l_body,v_l_outs],.agg #[.int .i64 t.u0,.int .i64 t.u1,.int .i64 t.u2,.int .i64 t.w0,.int .i64 t.w1,.int .i64 t.w2,.int .i64 t.regs],.agg #[.int .i64 p.pace,v_p_times],v_dests] w (fun e w'=>∃ X:Value×World,e=.returned (.tuple #[.agg #[.int .i64 r.1.pace,.int .i64 r.1.stages,X.1],.int .i64 r.2])∧Own M w (kn M w.heap.size K0 X.2::[]) w'∧Arr X.2 X.1 10 (r.1.ops.map Opr.cells)):=by
 unfold L3 at hm
 refine Ak (n:=146) (args:=[.agg #[v_l_logs,v_l_body,v_l_outs],.agg #[i_ t.u0,i_ t.u1,i_ t.u2,i_ t.w0,i_ t.w1,i_ t.w2,i_ t.regs],.agg #[i_ p.pace,v_p_times],v_dests]) Try.func75 Z Z (nl Z) ?_ (An hk hw0)
 refine sr (Aa Z ?_)
 refine(Aq (by decide) Z Z (fun b1=>?_))
 refine Aa Z ?_
 refine(Aq (by decide) Z Z (fun b2=>?_))
 refine Aa Z ?_
 refine(Aq (by decide) Z Z (fun b3=>?_))
 refine Aa Z ?_
 refine(EV.alloc (by decide) Abx (fun b4=>?_))
 refine wa Z (nt (WC.seq (sr (wq Z (Ac Fh Z Z Z (Ab 3 Z)) (wq Z (Ac Gk Z Z Z (Ab 2 Z)) (wq Z (Ac Nt Z Z Z (Ab 1 Z)) ?_))))))
 obtain⟨x5,hx6,hm7⟩:=Ag hm;clear hm
 refine wq Z (QV.call Aoh (ec Z (ec Z (ec Z eN))) (fun w hw=>have h:=Ru w hx6 ((Ah 4 Z hk h_l_logs) w hw) ((Ah 4 Z hk h_l_body) w hw) ((Ah 4 Z hk h_l_outs) w hw) ((Ah 4 Z hk h_p_times) w hw);h)) (wq Z (QV.not Z Z) (wm Z (gn Z (fun hG=>QV.move Z Z) (gn Z (fun hG=>Ay Try.underlying22 Z hG h_dests.lenMap) (gn Z (fun hG=>QV.fieldAddr Co Z Z) (gn Z (fun hG=>QV.load Gv Z hG (Own.cell 3 Z Z)) (gn Z (fun hG=>Ay Try.underlying23 Z hG h_l_body.lenMap) (gn Z (fun hG=>QV.neq Z hG Z hG) (wq Z (A2 Z Z Z (fun h=>Dv h)) ?_)))))))))
 refine nt ?_
 refine wc Z hm7 (fun h8 hm9=>?_) (fun h8 hm10=>?_) <;> clear hm7
 ·skip
  refine sr (wq Z (QV.build (ps:=[]) (cells:=[i_ 0,i_ 0,.slice none 0 0]) eN (by kernel_rfl)) (Aa Z ?_))
  refine(EV.store 0 Z Z Z Z Z Z (vs:=[i_ 0,i_ 0,.slice none 0 0]) (show Value.cells _=List.toArray _ from Z) Sw (nl Z) (oc Z (oc Z (oc Z Aw))) ?_)
  refine wa Z (nt (WC.ret (tr ?_)))
  obtain rfl:=(Ae hm9).symm
  refine Cx Z Kj Z Z Z (Ab 0 Z) (fun w hw=>?_)
  exact⟨(.slice none 0 0,K0),Z,hw.pick [4] (by decide),Arr.nil⟩
 refine sk (WQ.then (WC.seq (sr (wm Z (wq Z (Ay Try.underlying22 Z Z h_dests.lenMap) (wm Z (nt ?_)))))))
 obtain⟨o11,ho12,hm13⟩:=Ag hm10;clear hm10;obtain⟨n14,ho15⟩:=A0 ho12
 refine Ci (H2:=[blk b4 [i_ 0,i_ 0,.slice none 0 0] 31,blk b3 [i_ p.pace,v_p_times] 91,blk b2 t.cells 28,blk b1 [v_l_logs,v_l_body,v_l_outs] 25,kn M w.heap.size K0 K0]) (τ:=[u_ 3 _,u_ 4 _,u_ 5 _,u_ 6 _,u_ 8 _,u_ 33 _,u_ 34 _]) (fun (x35_1:Int)=>[(35,(true,i_ x35_1))]) (fun x35_1=>[]) (fun x35_1 m=>B3 (Ja t dests) m x35_1=some o11) (fun x35_1=>o11=.go x35_1) 0 n14 ho15 ⟨Z,Z,Z,Z,Z,Z,Z,Z,trivial⟩ (pk [0,1,2,3,4]) ?_ ?_
 ·skip
  rintro x35_1 rfl
  refine WQ.then (sr (wf J3 Z (wl pl3 Z (Own.cell 1 Z Z) (wq Z (QV.build (ps:=[(0,.tmp 50)]) (cells:=[i_ p.pace,i_ 0,.slice none 0 0]) (ec Z eN) (by kernel_rfl)) (Aa Z ?_)))))
  refine(EV.alloc (by decide) Abx (fun b16=>?_))
  refine Aa Z ?_
  refine(EV.store 0 Z Z Z Z Z Z (vs:=[i_ p.pace,i_ 0,.slice none 0 0]) (show Value.cells _=List.toArray _ from Z) Sw (nl Z) (oc Z (oc Z (oc Z Aw))) ?_)
  refine nt (WC.seq (sr (wf Co Z (wl Gv Z (Own.cell 4 Z Z) (wq Z (Ay Try.underlying23 Z Z h_l_body.lenMap) (wm Z (nt ?_)))))))
  refine WK.of (fun w hw=>hw.vecNil (E:=75) (sz:=10) (enc:=Opr.cells)) ?_
  obtain⟨o18,ho19,hm20⟩:=Ag hm13;clear hm13;obtain⟨n21,ho22⟩:=A0 ho19
  refine Ra (H2:=[blk b4 [i_ 0,i_ 0,.slice none 0 0] 31,blk b3 [i_ p.pace,v_p_times] 91,blk b2 t.cells 28,blk b1 [v_l_logs,v_l_body,v_l_outs] 25]) (τ:=[u_ 3 _,u_ 5 _,u_ 6 _,u_ 8 _,u_ 12 _,u_ 53 _,u_ 54 _]) (fun (v17_5:List Opr) (b16c1_5:Int) (x55_5:Int) (uv17_5:Value) (k_5:World)=>[(55,(true,i_ x55_5))]) (fun v17_5 b16c1_5 x55_5 uv17_5 k_5=>[vec uv17_5 75 10 (List.map Opr.cells v17_5),blk b16 [i_ p.pace,i_ b16c1_5,uv17_5] 31,kn M w.heap.size K0 k_5]) (fun v17_5 b16c1_5 x55_5 uv17_5 k_5 m=>B3 (Gf l t p dests) m (v17_5,b16c1_5,x55_5)=some o18∧SliceLen uv17_5 v17_5.length∧Le K0 k_5) (fun v17_5 b16c1_5 x55_5 uv17_5 k_5=>o18=.go (v17_5,b16c1_5,x55_5)∧SliceLen uv17_5 v17_5.length∧Le K0 k_5) [] 0 0 (.slice none 0 0) K0 n21 ⟨ho22,SliceLen.nil,(Le.refl _)⟩ ⟨Z,Z,Z,Z,Z,Z,Z,Z,trivial⟩ (pk [0,1,6,2,3,4,5]) ?_ ?_
  ·skip
   rintro v17_5 b16c1_5 x55_5 uv17_5 k_5 ⟨rfl,hlv17_5,hle_5⟩
   refine WQ.then (sr (wq Z (Ac Kj Z Z Z (Ab 1 Z)) (Aa Z ?_)))
   refine(EV.store 3 Z Z Z Z Z Z (vs:=[i_ p.pace,i_ b16c1_5,uv17_5]) (show Value.cells _=List.toArray _ from Z) Sw (nl Z) (oc Z (oc Z (oc (SliceLen.one hlv17_5) Aw))) ?_)
   refine wa Z (nt (WC.ret ?_))
   obtain rfl:=(Ae hm20).symm
   refine WK.of (C':=Own M w [kn M w.heap.size K0 k_5,vec uv17_5 75 10 (List.map Opr.cells v17_5),blk b16 [i_ p.pace,i_ b16c1_5,uv17_5] 31,blk b4 [i_ p.pace,i_ b16c1_5,uv17_5] 31,blk b3 [i_ p.pace,v_p_times] 91,blk b2 t.cells 28,blk b1 [v_l_logs,v_l_body,v_l_outs] 25]) (pk [2,0,1,3,4,5,6]) ?_
   refine WK.freeze hk (fun k23 hle23 hr23=>?_)
   have hA23:=Cf hr23
   refine Cx Z Kj Z Z Z (Ab 2 Z) (fun w hw=>?_)
   exact⟨(uv17_5,k23),Z,hw.pick [0] (by decide),hA23⟩
  rintro v17_5 b16c1_5 x55_5 uv17_5 k_5 m24 ⟨hI25,hlv17_5,hle_5⟩
  obtain⟨m26,s27,rfl,hm28,hn29⟩:=Ap hI25;clear hI25;unfold Gf at hm28;simp only at hm28
  refine sr (wq Z (QV.lss Z Z Z Z) (nt (WC.seq ?_)))
  refine wc Z hm28 (fun h30 hm31=>?_) (fun h30 hm121=>?_) <;> clear hm28
  ·skip
   refine sk (WQ.then (WC.seq (WC.block (sr (wm Z ?_)))))
   obtain⟨c32,hm33⟩:=cs hm31;clear hm31
   obtain⟨p34,hp35⟩:=(h_l_body.le hle_5).lenMap.ix (sz:=9) Au c32
   refine wq Z (Ad Pp Z Z Z Z hp35) (wq Z (Ac Kk Z Z Z (fun w hw=>((Ah 2 Z hk (h_l_body.le hle_5)) w hw).ele hp35 c32)) (Aa Z ?_))
   refine(EV.alloc (by decide) Nz (fun b36=>?_))
   refine wa Z (Aa Z ?_)
   refine(EV.store 0 Z Z Z Z Z Z (vs:=(Stm.cells (ele l.body x55_5))) (show Value.cells _=List.toArray _ from Z) N0 (nl Z) (oc Z (oc Z (oc Z (oc Z (oc Z (oc Z (oc Z (oc Z (oc Z Aw))))))))) ?_)
   refine nt (WC.seq (B9 (m:=33) (S:=Own M w [kn M w.heap.size K0 k_5,blk b36 (Stm.cells (ele l.body x55_5)) 81,vec uv17_5 75 10 (List.map Opr.cells v17_5),blk b16 [i_ p.pace,i_ b16c1_5,uv17_5] 31,blk b4 [i_ 0,i_ 0,.slice none 0 0] 31,blk b3 [i_ p.pace,v_p_times] 91,blk b2 t.cells 28,blk b1 [v_l_logs,v_l_body,v_l_outs] 25]) (by kernel_rfl) (by kernel_rfl) (pk [3,0,1,2,4,5,6,7]) (zf 0 Jl Z Z (zl 1 Du Z Z (Own.cell 5 Z Z) (zm 2 Z Z ?_)))))
   obtain⟨c37,hm38⟩:=cs hm33;clear hm33
   obtain⟨p39,hp40⟩:=(h_p_times.le hle_5).lenMap.ix (sz:=1) Au c37
   refine wz 3 Z Z (Ad Ei Z Z Z Z hp40) (zl 4 pl3 Z Z (fun w hw=>CellsAt.one 0 (((Ah 0 Z hk (h_p_times.le hle_5)) w hw).ele hp40 c37) Z) (zf 5 J3 Z Z (zl 6 pl3 Z Z (Own.cell 5 Z Z) ?_)))
   obtain⟨c41,c43,hm44⟩:=cs2 hm38;clear hm38
   refine wz 7 Z Z (QV.rem Z Z Z Z c41) (zf 8 Jl Z Z (zl 9 Du Z Z (Own.cell 5 Z Z) (zm 10 Z Z ?_)))
   obtain⟨p45,hp46⟩:=(h_p_times.le hle_5).lenMap.ix (sz:=1) Au c43
   refine wz 11 Z Z (Ad Ei Z Z Z Z hp46) (zl 12 pl3 Z Z (fun w hw=>CellsAt.one 0 (((Ah 0 Z hk (h_p_times.le hle_5)) w hw).ele hp46 c43) Z) (zf 13 J3 Z Z (zl 14 pl3 Z Z (Own.cell 5 Z Z) ?_)))
   obtain⟨c47,c49,c51,hm52⟩:=cs3 hm44;clear hm44
   refine wz 15 Z Z (QV.quo Z Z Z Z c47 c49) (zf 16 F2 Z Z (zl 17 pl3 Z Z (Own.cell 1 Z Z) (zm 18 Z Z (zm 19 Z Z ?_))))
   obtain⟨p53,hp54⟩:=(h_dests.le hle_5).lenMap.ix (sz:=1) Au c51
   refine wz 20 Z Z (Ad Ei Z Z Z Z hp54) (zl 21 pl3 Z Z (fun w hw=>CellsAt.one 0 (((Ah 0 Z hk (h_dests.le hle_5)) w hw).ele hp54 c51) Z) (zf 22 Nv Z Z (zl 23 pl3 Z Z (Own.cell 1 Z Z) (zf 24 Sc Z Z (zl 25 pl3 Z Z (Own.cell 1 Z Z) (zf 26 Sb Z Z (zl 27 pl3 Z Z (Own.cell 1 Z Z) (zf 28 Aee Z Z (zl 29 pl2 Z Z (Own.cell 1 Z Z) ?_)))))))))
   refine wz 30 Z Z (QV.build (ps:=[(0,.tmp 67),(1,.tmp 75),(2,.tmp 77),(3,.tmp 81),(6,.tmp 83),(7,.tmp 85),(8,.tmp 87),(9,.tmp 89)]) (cells:=[i_ (Int.tmod (ele p.times x55_5) p.pace),i_ (Int.tdiv (ele p.times x55_5) p.pace),i_ ((ele l.body x55_5).op),i_ (ele dests x55_5),i_ 0,i_ 0,i_ ((ele l.body x55_5).ar),i_ ((ele l.body x55_5).sp),i_ ((ele l.body x55_5).pl),i_ ((ele l.body x55_5).n)]) (ec Z (ec Z (ec Z (ec Z (ec Z (ec Z (ec Z (ec Z eN)))))))) (by kernel_rfl)) ?_
   refine WD.o 31 Z (by kernel_rfl) Z ?_
   refine(EV.alloc (by decide) Agq (fun b55=>?_))
   refine WD.b (H':=[kn M w.heap.size K0 k_5,blk b55 [i_ 0,i_ 0,i_ 0,i_ 0,i_ 0,i_ 0,i_ 0,i_ 0,i_ 0,i_ 0] 75,blk b36 (Stm.cells (ele l.body x55_5)) 81,vec uv17_5 75 10 (List.map Opr.cells v17_5),blk b16 [i_ p.pace,i_ b16c1_5,uv17_5] 31,blk b4 [i_ 0,i_ 0,.slice none 0 0] 31,blk b3 [i_ p.pace,v_p_times] 91,blk b2 t.cells 28,blk b1 [v_l_logs,v_l_body,v_l_outs] 25]) (pk [4,0,1,2,3,5,6,7,8]) (pk [0,2,3,4,5,6,7,8]) ?_
   refine WD.l 32 Z (by kernel_rfl) Z ?_
   refine(EV.store 0 Z Z Z Z Z Z (vs:=[i_ (Int.tmod (ele p.times x55_5) p.pace),i_ (Int.tdiv (ele p.times x55_5) p.pace),i_ ((ele l.body x55_5).op),i_ (ele dests x55_5),i_ 0,i_ 0,i_ ((ele l.body x55_5).ar),i_ ((ele l.body x55_5).sp),i_ ((ele l.body x55_5).pl),i_ ((ele l.body x55_5).n)]) (show Value.cells _=List.toArray _ from Z) Agr (nl Z) (oc Z (oc Z (oc Z (oc Z (oc Z (oc Z (oc Z (oc Z (oc Z (oc Z Aw)))))))))) ?_)
   refine WQ.then (WC.seq (sr (wq Z (Ac Kk Z Z Z (Ab 1 Z)) (Aa Z ?_))))
   obtain⟨x56,hx57,hm58⟩:=Ag hm52;clear hm52
   refine EV.of (C':=Own M w [kn M w.heap.size K0 k_5,blk b55 [i_ (Int.tmod (ele p.times x55_5) p.pace),i_ (Int.tdiv (ele p.times x55_5) p.pace),i_ ((ele l.body x55_5).op),i_ (ele dests x55_5),i_ 0,i_ 0,i_ ((ele l.body x55_5).ar),i_ ((ele l.body x55_5).sp),i_ ((ele l.body x55_5).pl),i_ ((ele l.body x55_5).n)] 75,blk b36 (Stm.cells (ele l.body x55_5)) 81,vec uv17_5 75 10 (List.map Opr.cells v17_5),blk b16 [i_ p.pace,i_ b16c1_5,uv17_5] 31,blk b4 [i_ 0,i_ 0,.slice none 0 0] 31,blk b3 [i_ p.pace,v_p_times] 91,blk b2 t.cells 28,blk b1 [v_l_logs,v_l_body,v_l_outs] 25]) (pk [4,0,1,2,3,5,6,7,8]) ?_
   refine(A4 (X:=Value×World) (R:=[]) (fun X=>X.1) (fun X=>[]) (fun X=>X.2) (fun X=>Arr X.2 X.1 2 (x56.map Rf.cells)) hk (fun _ h=>by cases h;decide) Ad7 (ec Z eN) (fun M w h1 h2=>have h:=Ii hx57  M w h1 h2;h) (fun X59 hF59 hle59=>?_))
   refine wq Z (Ay Try.underlying76 Z Z hF59.lenMap) (wm Z (nt ?_))
   obtain⟨o60,ho61,hm62⟩:=Ag hm58;clear hm58;obtain⟨n63,ho64⟩:=A0 ho61
   refine Bz (H2:=[kn M w.heap.size K0 X59.2,blk b36 (Stm.cells (ele l.body x55_5)) 81,vec uv17_5 75 10 (List.map Opr.cells v17_5),blk b16 [i_ p.pace,i_ b16c1_5,uv17_5] 31,blk b4 [i_ 0,i_ 0,.slice none 0 0] 31,blk b3 [i_ p.pace,v_p_times] 91,blk b2 t.cells 28,blk b1 [v_l_logs,v_l_body,v_l_outs] 25]) (τ:=[u_ 3 _,u_ 5 _,u_ 6 _,u_ 8 _,u_ 12 _,u_ 15 _,u_ 53 _,u_ 54 _,u_ 55 _,u_ 92 _,u_ 93 _]) (fun (b55n_6:List Int) (x94_6:Int)=>[(94,(true,i_ x94_6))]) (fun b55n_6 x94_6=>[blk b55 (List.map Cg b55n_6) 75]) (fun b55n_6 x94_6 m=>B3 (Ge t p dests x56) m (b55n_6,x94_6)=some o60) (fun b55n_6 x94_6=>o60=.go (b55n_6,x94_6)) ([(Int.tmod (ele p.times x55_5) p.pace),(Int.tdiv (ele p.times x55_5) p.pace),(ele l.body x55_5).op,(ele dests x55_5),0,0,(ele l.body x55_5).ar,(ele l.body x55_5).sp,(ele l.body x55_5).pl,(ele l.body x55_5).n]:List Int) 0 n63 ho64 ⟨Z,Z,Z,Z,Z,Z,Z,Z,Z,Z,Z,Z,trivial⟩ (pk [1,0,2,3,4,5,6,7,8]) ?_ ?_
   ·skip
    rintro b55n_6 x94_6 rfl
    refine WQ.then (sr (wf Mx Z (wl X5 Z (Own.cell 4 Z Z) ?_)))
    obtain⟨c65,c68,c72,c74,c76,hm77⟩:=cs5 hm62;clear hm62
    refine wq Z (Ac (cs:=(Ro b55n_6).cells) Ub Z Z Z (Xu (c:=Cg) (xs:=b55n_6) 0 Z (Adr c65))) (Aa Z ?_)
    refine(EV.buildSlice (by decide) sz_29 (by decide) (by decide) (ps:=[(0,.tmp 133)]) (cells:=(Opr.cells (Ro b55n_6))) (ec Z eN) (by kernel_rfl) (fun b67=>?_))
    refine Aa Z ?_
    refine(Bx (enc:=Opr.cells) (xs:=v17_5) (ys:=[(Ro b55n_6)]) ((v17_5++[(Ro b55n_6)])) 4 (by decide) ve29 Z Z Z Z Z (Bj 0 (rows:=[(Ro b55n_6)].map Opr.cells) Z Z (B5 Opr.cells_len)) Opr.cells_len (Opr.cells_one _) Z c68.1 c68.2 (fun u70 hu71=>?_))
    refine wf Mx Z (Aa Z ?_)
    refine(EV.store 5 Z Z Z Z Z Z (vs:=[u70]) (SliceLen.cells hu71) sz29 (nl Z) (oc (SliceLen.one hu71) Aw) ?_)
    refine nr (wf Uj Z (wl pl3 Z (Own.cell 5 Z Z) (wf P3 Z (wl pl3 rfl (U5 (c:=Cg) (xs:=b55n_6) 1 rfl c72 (by first | rfl | exact Tr _)) (wq Z (QV.add Z Z Z Z c74) (wq Z (QV.max2 Z Z Z Z) (wf Uj Z (Aa Z ?_))))))))
    refine(EV.store 5 Z Z Z Z Z Z (vs:=[i_ (max b16c1_5 ((ele b55n_6 1)+1))]) (show Value.cells _=List.toArray _ from Z) sz3 (nl Z) (oc Z Aw) ?_)
    refine WL.nil (WQ.block (WQ.then (WC.region (wq Z (QV.add Z Z Z Z c76) (wm Z (WL.nil ?_))))))
    exact Q9 (v17_5++[(Ro b55n_6)]) (max b16c1_5 ((ele b55n_6 1)+1)) (x55_5+1) u70 X59.2 m26 ⟨Ax hm77 hn29,hu71,(hle_5.trans hle59)⟩ (Nat.lt_succ_self _) ⟨Z,Z,Z,Z,Z,Z,Z,Z,trivial⟩ (pk [4,5,2,6,7,8,9])
   rintro b55n_6 x94_6 m78 hI79
   obtain⟨m80,s81,rfl,hm82,hn83⟩:=Ap hI79;clear hI79;unfold Ge at hm82;simp only at hm82
   refine sr (wq Z (QV.lss Z Z Z Z) (nt (WC.seq ?_)))
   refine wc Z hm82 (fun h84 hm85=>?_) (fun h84 hm120=>?_) <;> clear hm82
   ·skip
    refine sk (WQ.then (WC.seq (WC.block (sr (wm Z ?_)))))
    obtain⟨c86,hm87⟩:=cs hm85;clear hm85
    obtain⟨p88,hp89⟩:=hF59.lenMap.ix (sz:=2) Au c86
    refine wq Z (Ad Ags Z Z Z Z hp89) (wq Z (Ac K6 Z Z Z (fun w hw=>((Ah 1 Z hk hF59) w hw).ele hp89 c86)) (Aa Z ?_))
    refine(EV.alloc (by decide) Ad2 (fun b90=>?_))
    refine wa Z (Aa Z ?_)
    refine(EV.store 0 Z Z Z Z Z Z (vs:=[i_ ((ele x56 x94_6).st),i_ ((ele x56 x94_6).bk)]) (show Value.cells _=List.toArray _ from Z) Wb (nl Z) (oc Z (oc Z Aw)) ?_)
    refine nt (WC.seq (B9 (m:=25) (S:=Own M w [kn M w.heap.size K0 X59.2,blk b90 [i_ ((ele x56 x94_6).st),i_ ((ele x56 x94_6).bk)] 79,blk b55 (List.map Cg b55n_6) 75,blk b36 (Stm.cells (ele l.body x55_5)) 81,vec uv17_5 75 10 (List.map Opr.cells v17_5),blk b16 [i_ p.pace,i_ b16c1_5,uv17_5] 31,blk b4 [i_ 0,i_ 0,.slice none 0 0] 31,blk b3 [i_ p.pace,v_p_times] 91,blk b2 t.cells 28,blk b1 [v_l_logs,v_l_body,v_l_outs] 25]) (by kernel_rfl) (by kernel_rfl) (pk [2,0,1,3,4,5,6,7,8,9]) (zm 0 Z Z (zf 1 Mw Z Z (zl 2 pl3 Z Z (Own.cell 1 Z Z) ?_)))))
    obtain⟨c91,hm92⟩:=cs hm87;clear hm87
    obtain⟨p93,hp94⟩:=(h_dests.le (hle_5.trans hle59)).lenMap.ix (sz:=1) Au c91
    refine wz 3 Z Z (Ad Ei Z Z Z Z hp94) (zl 4 pl3 Z Z (fun w hw=>CellsAt.one 0 (((Ah 0 Z hk (h_dests.le (hle_5.trans hle59))) w hw).ele hp94 c91) Z) (zf 5 Jl Z Z (zl 6 Du Z Z (Own.cell 7 Z Z) (zf 7 Mw Z Z (zl 8 pl3 Z Z (Own.cell 1 Z Z) ?_)))))
    obtain⟨c95,hm96⟩:=cs hm92;clear hm92
    obtain⟨p97,hp98⟩:=(h_p_times.le (hle_5.trans hle59)).lenMap.ix (sz:=1) Au c95
    refine wz 9 Z Z (Ad Ei Z Z Z Z hp98) (zl 10 pl3 Z Z (fun w hw=>CellsAt.one 0 (((Ah 0 Z hk (h_p_times.le (hle_5.trans hle59))) w hw).ele hp98 c95) Z) (zf 11 J3 Z Z (zl 12 pl3 Z Z (Own.cell 7 Z Z) ?_)))
    obtain⟨c99,c101,c103,c105,c107,c109,hm110⟩:=cs6 hm96;clear hm96
    refine wz 13 Z Z (QV.quo Z Z Z Z c99 c101) (wz 14 Z Z (QV.add Z Z Z Z c103) (zf 15 Mv Z Z (zl 16 pl3 Z Z (Own.cell 1 Z Z) (wz 17 Z Z (QV.sub Z Z Z Z c105) (zf 18 P3 Z Z (zl 19 pl3 rfl rfl (U5 (c:=Cg) (xs:=b55n_6) 2 rfl c107 (by first | rfl | exact Tr _)) (wz 20 Z Z (QV.sub Z Z Z Z c109) (zf 21 H8 Z Z (zl 22 pl3 Z Z (Own.cell 8 Z Z) ?_)))))))))
    obtain⟨x111,hx112,hm113⟩:=Ag hm110;clear hm110
    refine wz 23 Z Z (QV.call Ain (ec Z (ec Z eN)) (fun w hw=>have h:=L0 w hx112 ;h)) (wz 24 Z Z (QV.assign Z Z) ?_)
    refine WD.e (by kernel_rfl) ?_
    refine WQ.then (WC.region (wf Aaj Z (wf Aai Z (wq Z (QV.build (ps:=[(0,.tmp 123),(1,.tmp 124)]) (cells:=[.pointer (some (⟨b55,4,none⟩)),.pointer (some (⟨b55,5,none⟩))]) (ec Z (ec Z eN)) (by kernel_rfl)) (wm Z ?_)))))
    obtain⟨c114,c116,c118,hm119⟩:=cs3 hm113;clear hm113
    refine wq Z (Yt (b:=b55) (m:=2) (off:=4) Try.underlying173 pl172 sz172 Z Z Z Z c114) (wm Z (wq Z (QV.nilCheck Z Z) (Aa Z ?_)))
    refine(Z2 (c:=Cg) (xs:=b55n_6) 1 (4+x94_6) x111 rfl rfl rfl rfl rfl (by first | rfl | exact Uz | exact Tr _ | exact Xa (c114).1) c116 rfl rfl sz3 ?_)
    refine WL.nil (WQ.block (WQ.then (WC.region (wq Z (QV.add Z Z Z Z c118) (wm Z (WL.nil ?_))))))
    exact Bn (upd b55n_6 (4+x94_6) x111) (x94_6+1) m80 (Ax hm119 hn83) (Nat.lt_succ_self _) ⟨Z,Z,Z,Z,Z,Z,Z,Z,Z,Z,Z,Z,trivial⟩ (pk [1,2,3,4,5,6,7,8,9])
   refine WC.exit (te (te (Ai ?_)))
   exact Cb b55n_6 x94_6 (A6 hm120 hn83) ⟨Z,Z,Z,Z,Z,Z,Z,Z,Z,Z,Z,Z,trivial⟩ (pk [0,1,2,3,4,5,6,7,8])
  refine WC.exit (te (te (Ai ?_)))
  exact V7 v17_5 b16c1_5 x55_5 uv17_5 k_5 ⟨A6 hm121 hn29,hlv17_5,hle_5⟩ ⟨Z,Z,Z,Z,Z,Z,Z,Z,trivial⟩ (pk [0,1,2,3,4,5,6])
 rintro x35_1 m122 hI123
 obtain⟨m124,s125,rfl,hm126,hn127⟩:=Ap hI123;clear hI123;unfold Ja at hm126
 refine sr (wq Z (QV.lss Z Z Z Z) (nt (WC.seq ?_)))
 refine wc Z hm126 (fun h128 hm129=>?_) (fun h128 hm139=>?_) <;> clear hm126
 ·skip
  refine sk (WQ.then (WC.seq (WC.block (sr ?_))))
  obtain⟨c130,hm131⟩:=cs hm129;clear hm129
  obtain⟨p132,hp133⟩:=h_dests.lenMap.ix (sz:=1) Au c130
  refine wq Z (Ad Ei Z Z Z Z hp133) (wl pl3 Z (fun w hw=>CellsAt.one 0 (((Ah 4 Z hk h_dests) w hw).ele hp133 c130) Z) (wa Z (ns (wm Z (wq Z (QV.lss Z Z Z Z) (wm Z (gn Z (fun hG=>QV.move Z Z) (gn Z (fun hG=>QV.fieldAddr H8 Z Z) (gn Z (fun hG=>QV.load pl3 Z hG (Own.cell 2 Z Z)) ?_)))))))))
  refine gn Z (fun hG=>QV.geq Z hG Z hG) (wq Z (A2 Z Z Z (fun h=>Dv h)) (nt ?_))
  refine wc Z hm131 (fun h134 hm135=>?_) (fun h134 hm136=>?_) <;> clear hm131
  ·skip
   refine sr (wq Z (QV.build (ps:=[]) (cells:=[i_ 0,i_ 0,.slice none 0 0]) eN (by kernel_rfl)) (Aa Z ?_))
   refine(EV.store 0 Z Z Z Z Z Z (vs:=[i_ 0,i_ 0,.slice none 0 0]) (show Value.cells _=List.toArray _ from Z) Sw (nl Z) (oc Z (oc Z (oc Z Aw))) ?_)
   refine wa Z (nt (WC.ret (kr (tr (tr (kr (tr (tr ?_))))))))
   obtain rfl:=Cy hm135 hn127
   obtain rfl:=(Ae hm13).symm
   refine Cx Z Kj Z Z Z (Ab 0 Z) (fun w hw=>?_)
   exact⟨(.slice none 0 0,K0),Z,hw.pick [4] (by decide),Arr.nil⟩
  refine sk (WQ.block (WQ.then (WC.region ?_)))
  obtain⟨c137,hm138⟩:=cs hm136;clear hm136
  refine wq Z (QV.add Z Z Z Z c137) (wm Z (WL.nil ?_))
  exact Ch (x35_1+1) m124 (Ax hm138 hn127) (Nat.lt_succ_self _) ⟨Z,Z,Z,Z,Z,Z,Z,Z,trivial⟩ (pk [0,1,2,3,4])
 refine WC.exit (te (te (Ai ?_)))
 exact C7 x35_1 (A6 hm139 hn127) ⟨Z,Z,Z,Z,Z,Z,Z,Z,trivial⟩ (pk [0,1,2,3,4])
end Go.Proofs.Ytaimbkndebaaiac
end
section
namespace Go.Proofs.Ytaimbkndebaaiac
open Go.Rd
open TNum TLoop TStable TMach TMach2 TKern TClone TNbr TSeq TKRun TKeep TOrd TCpt TDep TSched1 TEmit
namespace TCheck
theorem en28:Go.Rd.Enters Try.prog 28:=eT Try.func28
theorem en60:Go.Rd.Enters Try.prog 60:=eT Try.func60
theorem en61:Go.Rd.Enters Try.prog 61:=eT Try.func61
theorem en63:Go.Rd.Enters Try.prog 63:=eT Try.func63
theorem en64:Go.Rd.Enters Try.prog 64:=eT Try.func64
theorem eq81:EqT Try.prog 81 9:=⟨by kernel_rfl,⟨_,Try.underlying81⟩,by kernel_rfl,by kernel_rfl⟩
theorem Aby:C8 Try.prog 22 1:=by unfold C8;kernel_rfl
end TCheck
open TCheck
theorem Xy {v_l_logs v_l_body v_l_outs v_k__ops v_order:Value}{l:Lp}{t:Tgt}{k_:Krn}{order:List Int}{r:Option L5×Bool}{K0:World} (hm:Iu l t k_ order=some r) (h_l_logs:Arr K0 v_l_logs 1 (l.logs.map Af)) (h_l_body:Arr K0 v_l_body 9 (l.body.map Stm.cells)) (h_l_outs:Arr K0 v_l_outs 1 (l.outs.map Af)) (h_k__ops:Arr K0 v_k__ops 10 (k_.ops.map Opr.cells)) (h_order:Arr K0 v_order 1 (order.map Af)) (M:Nat→Prop) (w:World) (hk:Base M K0 w) (hw0:Own M w [] w):Calls Try.prog 60 #[.agg #[v_l_logs,v_l_body,v_l_outs],.agg #[.int .i64 t.u0,.int .i64 t.u1,.int .i64 t.u2,.int .i64 t.w0,.int .i64 t.w1,.int .i64 t.w2,.int .i64 t.regs],.agg #[.int .i64 k_.pace,.int .i64 k_.stages,v_k__ops],v_order] w (fun e w'=>∃ X:Value×World,e=.returned (.tuple #[X.1,.bool r.2])∧Own M w (kn M w.heap.size K0 X.2::[]) w'∧LayAt X.2 X.1 r.1):=by
 unfold Iu at hm
 refine Ak (n:=138) (args:=[.agg #[v_l_logs,v_l_body,v_l_outs],.agg #[i_ t.u0,i_ t.u1,i_ t.u2,i_ t.w0,i_ t.w1,i_ t.w2,i_ t.regs],.agg #[i_ k_.pace,i_ k_.stages,v_k__ops],v_order]) Try.func60 Z Z (nl Z) ?_ (An hk hw0)
 refine sr (Aa Z ?_)
 refine(Aq (by decide) Z Z (fun b1=>?_))
 refine Aa Z ?_
 refine(Aq (by decide) Z Z (fun b2=>?_))
 refine Aa Z ?_
 refine(Aq (by decide) Z Z (fun b3=>?_))
 refine wa Z (wa Z (nt (WC.seq (sr (wq Z (Ac Fh Z Z Z (Ab 2 Z)) ?_)))))
 obtain⟨x4,hx5,hm6⟩:=Ag hm;clear hm
 refine wq Z (QV.call Aim (ec Z eN) (fun w hw=>have h:=M6 w hx5 ((Ah 3 Z hk h_l_logs) w hw) ((Ah 3 Z hk h_l_body) w hw) ((Ah 3 Z hk h_l_outs) w hw);h)) (wq Z (QV.not Z Z) (wm Z (gn Z (fun hG=>Ac Gk Z Z Z (Ab 1 Z)) (gn Z (fun hG=>Ac Kj Z Z Z (Ab 0 Z)) (gn Z (fun hG=>QV.fieldAddr O1 Z Z) (gn Z (fun hG=>QV.load Du Z hG (Own.cell 2 Z Z)) ?_))))))
 obtain⟨x7,hx8,hm9⟩:=Ce hm6;clear hm6
 refine gn Z (fun hG=>QV.call en56 (EvAll.cons Z hG (EvAll.cons Z hG (EvAll.cons Z hG eN))) (fun w hw=>have h:=T0 w (hx8 hG) ((Ah 3 Z hk h_k__ops) w hw) ((Ah 3 Z hk h_l_logs) w hw);h)) (gn Z (fun hG=>QV.not Z hG) (wq Z (A2 Z Z Z (fun h=>Dv h)) (wm Z (gn Z (fun hG=>QV.fieldAddr Mx Z Z) (gn Z (fun hG=>QV.load X5 Z hG (Own.cell 0 Z Z)) (gn Z (fun hG=>Ay Try.underlying29 Z hG h_k__ops.lenMap) (gn Z (fun hG=>QV.fieldAddr Co Z Z) (gn Z (fun hG=>QV.load Gv Z hG (Own.cell 2 Z Z)) (gn Z (fun hG=>Ay Try.underlying23 Z hG h_l_body.lenMap) ?_)))))))))
 refine gn Z (fun hG=>QV.neq Z hG Z hG) (wq Z (A2 Z Z Z (fun h=>Dv h)) (wm Z (gn Z (fun hG=>QV.move Z Z) (gn Z (fun hG=>Ay Try.underlying22 Z hG h_order.lenMap) (gn Z (fun hG=>QV.fieldAddr Co Z Z) (gn Z (fun hG=>QV.load Gv Z hG (Own.cell 2 Z Z)) (gn Z (fun hG=>Ay Try.underlying23 Z hG h_l_body.lenMap) (gn Z (fun hG=>QV.neq Z hG Z hG) (wq Z (A2 Z Z Z (fun h=>Dv h)) ?_)))))))))
 refine nt ?_
 refine wc Z hm9 (fun h10 hm11=>?_) (fun h10 hm12=>?_) <;> clear hm9
 ·skip
  refine sr (wa Z (wa Z (nt (WC.ret (tr ?_)))))
  obtain rfl:=(Ae hm11).symm
  refine Dn Z Z Z (fun w hw=>?_)
  exact⟨(.pointer none,K0),Z,hw.pick [3] (by decide),LayAt.none⟩
 refine sk (WQ.then (sr (wq Z (Ac Fh Z Z Z (Ab 2 Z)) (wf P5 Z (wl pl3 Z (Own.cell 0 Z Z) (wf H8 Z (wl pl3 Z (Own.cell 1 Z Z) (wq Z (Ml (ps:=[(0,.tmp 44),(1,.tmp 46),(2,.tmp 48)]) (cells:=[v_l_logs,v_l_body,v_l_outs,i_ k_.pace,i_ t.regs,.slice none 0 0,.slice none 0 0,.slice none 0 0]) (css:=[[v_l_logs,v_l_body,v_l_outs],[i_ k_.pace],[i_ t.regs]]) (ec Z (ec Z (ec Z eN))) (CellsAll.cons Z (CellsAll.cons Z (CellsAll.cons Z CellsAll.nil))) (by kernel_rfl)) (Aa Z ?_)))))))))
 refine(Aq (by decide) Z Z (fun b13=>?_))
 refine wa Z (ns (Aa Z ?_))
 refine(EV.makeMap (ke:=kI) (ve:=bv) (by decide) (fun b14=>?_))
 refine wa Z (nt (WC.seq (sr (wm Z (wq Z (Ay Try.underlying22 Z Z h_order.lenMap) (wm Z (nt ?_)))))))
 refine WK.of (fun w hw=>hw.vecNil (E:=3) (sz:=1) (enc:=Af)) ?_
 refine WK.of (fun w hw=>hw.vecNil (E:=3) (sz:=1) (enc:=Af)) ?_
 refine WK.of (fun w hw=>hw.vecNil (E:=3) (sz:=1) (enc:=Af)) ?_
 obtain⟨o18,ho19,hm20⟩:=Ag hm12;clear hm12;obtain⟨n21,ho22⟩:=A0 ho19
 refine Ah5 (H2:=[blk b3 [i_ k_.pace,i_ k_.stages,v_k__ops] 31,blk b2 t.cells 28,blk b1 [v_l_logs,v_l_body,v_l_outs] 25,kn M w.heap.size K0 K0]) (τ:=[u_ 4 _,u_ 5 _,u_ 6 _,u_ 10 _,u_ 11 _,u_ 52 _,u_ 53 _]) (fun (v17_1:List Int) (v16_1:List Int) (v15_1:List Int) (m14n_1:List (Int×Bool)) (x54_1:Int) (uv17_1:Value) (uv16_1:Value) (uv15_1:Value)=>[(54,(true,i_ x54_1))]) (fun v17_1 v16_1 v15_1 m14n_1 x54_1 uv17_1 uv16_1 uv15_1=>[vec uv17_1 3 1 (List.map Af v17_1),vec uv16_1 3 1 (List.map Af v16_1),vec uv15_1 3 1 (List.map Af v15_1),Eb b14 kI bv m14n_1,blk b13 [v_l_logs,v_l_body,v_l_outs,i_ k_.pace,i_ t.regs,uv15_1,uv16_1,uv17_1] 87]) (fun v17_1 v16_1 v15_1 m14n_1 x54_1 uv17_1 uv16_1 uv15_1 m=>B3 (Ct l t k_ order) m (v17_1,v16_1,v15_1,m14n_1,x54_1)=some o18∧SliceLen uv17_1 v17_1.length∧SliceLen uv16_1 v16_1.length∧SliceLen uv15_1 v15_1.length) (fun v17_1 v16_1 v15_1 m14n_1 x54_1 uv17_1 uv16_1 uv15_1=>o18=.go (v17_1,v16_1,v15_1,m14n_1,x54_1)∧SliceLen uv17_1 v17_1.length∧SliceLen uv16_1 v16_1.length∧SliceLen uv15_1 v15_1.length) [] [] [] ([]:List (Int×Bool)) 0 (.slice none 0 0) (.slice none 0 0) (.slice none 0 0) n21 ⟨ho22,SliceLen.nil,SliceLen.nil,SliceLen.nil⟩ ⟨Z,Z,Z,Z,Z,Z,Z,Z,trivial⟩ (pk [0,1,2,3,4,5,6,7,8]) ?_ ?_
 ·skip
  rintro v17_1 v16_1 v15_1 m14n_1 x54_1 uv17_1 uv16_1 uv15_1 ⟨rfl,hlv17_1,hlv16_1,hlv15_1⟩
  refine WQ.then (sr (wm Z (wa Z (wa Z (nt (WC.ret ?_))))))
  obtain rfl:=(Ae hm20).symm
  refine WK.of (C':=Own M w [kn M w.heap.size K0 K0,vec uv15_1 3 1 (List.map Af v15_1),vec uv17_1 3 1 (List.map Af v17_1),vec uv16_1 3 1 (List.map Af v16_1),Eb b14 kI bv m14n_1,blk b13 [v_l_logs,v_l_body,v_l_outs,i_ k_.pace,i_ t.regs,uv15_1,uv16_1,uv17_1] 87,blk b3 [i_ k_.pace,i_ k_.stages,v_k__ops] 31,blk b2 t.cells 28,blk b1 [v_l_logs,v_l_body,v_l_outs] 25]) (pk [8,2,0,1,3,4,5,6,7]) ?_
  refine WK.freeze hk (fun k23 hle23 hr23=>?_)
  have hA23:=Cf hr23
  refine WK.of (C':=Own M w [kn M w.heap.size K0 k23,vec uv16_1 3 1 (List.map Af v16_1),vec uv17_1 3 1 (List.map Af v17_1),Eb b14 kI bv m14n_1,blk b13 [v_l_logs,v_l_body,v_l_outs,i_ k_.pace,i_ t.regs,uv15_1,uv16_1,uv17_1] 87,blk b3 [i_ k_.pace,i_ k_.stages,v_k__ops] 31,blk b2 t.cells 28,blk b1 [v_l_logs,v_l_body,v_l_outs] 25]) (pk [0,2,1,3,4,5,6,7]) ?_
  refine WK.freeze hk (fun k24 hle24 hr24=>?_)
  have hA24:=Cf hr24
  refine WK.freeze hk (fun k25 hle25 hr25=>?_)
  have hA25:=Cf hr25
  refine WK.of (C':=Own M w [kn M w.heap.size K0 k25,blk b13 [v_l_logs,v_l_body,v_l_outs,i_ k_.pace,i_ t.regs,uv15_1,uv16_1,uv17_1] 87,Eb b14 kI bv m14n_1,blk b3 [i_ k_.pace,i_ k_.stages,v_k__ops] 31,blk b2 t.cells 28,blk b1 [v_l_logs,v_l_body,v_l_outs] 25]) (pk [0,2,1,3,4,5]) ?_
  refine WK.freeze hk (fun k26 hle26 hr26=>?_)
  have hc26:=Lc hr26
  refine Dn Z Z Z (fun w hw=>?_)
  exact⟨(.pointer (some (⟨b13,0,none⟩)),k26),Z,hw.pick [0] (by decide),(LayAt.mk hc26 (h_l_logs.le (((hle23.trans hle24).trans hle25).trans hle26)) (h_l_body.le (((hle23.trans hle24).trans hle25).trans hle26)) (h_l_outs.le (((hle23.trans hle24).trans hle25).trans hle26)) (hA23.le ((hle24.trans hle25).trans hle26)) (hA24.le (hle25.trans hle26)) (hA25.le hle26))⟩
 rintro v17_1 v16_1 v15_1 m14n_1 x54_1 uv17_1 uv16_1 uv15_1 m27 ⟨hI28,hlv17_1,hlv16_1,hlv15_1⟩
 obtain⟨m29,s30,rfl,hm31,hn32⟩:=Ap hI28;clear hI28;unfold Ct at hm31;simp only at hm31
 refine sr (wq Z (QV.lss Z Z Z Z) (nt (WC.seq ?_)))
 refine wc Z hm31 (fun h33 hm34=>?_) (fun h33 hm92=>?_) <;> clear hm31
 ·skip
  refine sk (WQ.then (WC.seq (WC.block (sr (wm Z ?_)))))
  obtain⟨c35,hm36⟩:=cs hm34;clear hm34
  obtain⟨p37,hp38⟩:=h_order.lenMap.ix (sz:=1) Au c35
  refine wq Z (Ad Ei Z Z Z Z hp38) (wl pl3 Z (fun w hw=>CellsAt.one 0 (((Ah 8 Z hk h_order) w hw).ele hp38 c35) Z) (wa Z (wa Z (nt (WC.seq (sr (wm Z (wq Z (QV.lss Z Z Z Z) (wm Z (gn Z (fun hG=>QV.move Z Z) (gn Z (fun hG=>QV.fieldAddr Mx Z Z) ?_)))))))))))
  refine gn Z (fun hG=>QV.load X5 Z hG (Own.cell 5 Z Z)) (gn Z (fun hG=>Ay Try.underlying29 Z hG h_k__ops.lenMap) (gn Z (fun hG=>QV.geq Z hG Z hG) (wq Z (A2 Z Z Z (fun h=>Dv h)) (wm Z (gn Z (fun hG=>QV.move Z Z) (gn Z (fun hG=>QV.move Z Z) (gn Z (fun hG=>QV.lookup (k:=(ele order x54_1)) 3 false Afk kt3 Anv Z hG Z hG Z) (wq Z (A2 Z Z Z (fun h=>Dv h)) (nt ?_)))))))))
  refine wc Z hm36 (fun h39 hm40=>?_) (fun h39 hm41=>?_) <;> clear hm36
  ·skip
   refine sr (wa Z (wa Z (nt (WC.ret (tr (kr (tr (tr (kr (tr (tr ?_)))))))))))
   obtain rfl:=Cy hm40 hn32
   obtain rfl:=(Ae hm20).symm
   refine Dn Z Z Z (fun w hw=>?_)
   exact⟨(.pointer none,K0),Z,hw.pick [8] (by decide),LayAt.none⟩
  refine sk (WQ.then (sr (wm Z (wm Z (Aa Z ?_)))))
  refine(EV.mapUpdate (ke:=kI) (ve:=bv) (ele order x54_1) 3 true Afk kt3 Z Z Z Z Z Z Z ?_)
  refine nt (WC.seq (B9 (m:=14) (S:=Own M w [kn M w.heap.size K0 K0,vec uv17_1 3 1 (List.map Af v17_1),vec uv16_1 3 1 (List.map Af v16_1),vec uv15_1 3 1 (List.map Af v15_1),Eb b14 kI bv (Es m14n_1 (ele order x54_1) true),blk b13 [v_l_logs,v_l_body,v_l_outs,i_ k_.pace,i_ t.regs,uv15_1,uv16_1,uv17_1] 87,blk b3 [i_ k_.pace,i_ k_.stages,v_k__ops] 31,blk b2 t.cells 28,blk b1 [v_l_logs,v_l_body,v_l_outs] 25]) (by kernel_rfl) (by kernel_rfl) (pk [8,0,1,2,3,4,5,6,7]) ?_))
  refine Aan 0 (by kernel_rfl) ?_
  refine G5 0 0 1 Z (by kernel_rfl) Z Z Z (QV.fieldAddr Mx Z Z) ?_
  refine G5 1 1 3 Z (by kernel_rfl) Z Z Z (QV.load X5 Z Z (Own.cell 6 Z Z)) ?_
  refine G5 2 3 7 Z (by kernel_rfl) Z Z Z (QV.move Z Z) ?_
  obtain⟨c42,hm43⟩:=cs hm41;clear hm41
  obtain⟨p44,hp45⟩:=h_k__ops.lenMap.ix (sz:=10) Au c42
  refine G5 3 7 15 Z (by kernel_rfl) Z Z Z (Ad Alo Z Z Z Z hp45) ?_
  refine G5 4 15 31 Z (by kernel_rfl) Z Z Z (Ac Ub Z Z Z (fun w hw=>((Ah 0 Z hk h_k__ops) w hw).ele hp45 c42)) ?_
  refine G5 5 31 63 Z (by kernel_rfl) Z Z Z (QV.fieldAddr Co Z Z) ?_
  refine G5 6 63 127 Z (by kernel_rfl) Z Z Z (QV.load Gv Z Z (Own.cell 8 Z Z)) ?_
  refine G5 7 127 255 Z (by kernel_rfl) Z Z Z (QV.move Z Z) ?_
  obtain⟨c46,hm47⟩:=cs hm43;clear hm43
  obtain⟨p48,hp49⟩:=h_l_body.lenMap.ix (sz:=9) Au c46
  refine G5 8 255 511 Z (by kernel_rfl) Z Z Z (Ad Pp Z Z Z Z hp49) ?_
  refine G5 9 511 1023 Z (by kernel_rfl) Z Z Z (Ac Kk Z Z Z (fun w hw=>((Ah 0 Z hk h_l_body) w hw).ele hp49 c46)) ?_
  refine Agi (fun (b50:Nat) (b51:Nat)=>[(4,(true,.pointer (some (⟨b1,0,none⟩)))),(5,(true,.pointer (some (⟨b2,0,none⟩)))),(6,(true,.pointer (some (⟨b3,0,none⟩)))),(10,(true,.pointer (some (⟨b13,0,none⟩)))),(11,(true,.map (some b14))),(14,(true,.pointer (some (⟨b50,0,none⟩)))),(15,(true,.pointer (some (⟨b51,0,none⟩)))),(52,(true,v_order)),(53,(true,i_ (ln order))),(54,(true,i_ x54_1))]) (fun (b50:Nat) (b51:Nat)=>Own M w [blk b51 (Stm.cells (ele l.body x54_1)) 81,blk b50 (Opr.cells (ele k_.ops (ele order x54_1))) 75,vec uv17_1 3 1 (List.map Af v17_1),vec uv16_1 3 1 (List.map Af v16_1),vec uv15_1 3 1 (List.map Af v15_1),Eb b14 kI bv (Es m14n_1 (ele order x54_1) true),blk b13 [v_l_logs,v_l_body,v_l_outs,i_ k_.pace,i_ t.regs,uv15_1,uv16_1,uv17_1] 87,blk b3 [i_ k_.pace,i_ k_.stages,v_k__ops] 31,blk b2 t.cells 28,blk b1 [v_l_logs,v_l_body,v_l_outs] 25,kn M w.heap.size K0 K0]) ?_ ?_
  ·skip
   rintro b50 b51
   refine WQ.then (sr (wq Z (QV.build (ps:=[]) (cells:=[i_ 0,i_ 0]) eN (by kernel_rfl)) (wq Z (QV.build (ps:=[]) (cells:=[i_ 0,i_ 0]) eN (by kernel_rfl)) (wf O0 Z (Aa Z ?_)))))
   refine(EV.store 0 Z Z Z Z Z Z (vs:=[i_ 0,i_ 0]) (show Value.cells _=List.toArray _ from Z) Wb (nl Z) (oc Z (oc Z Aw)) ?_)
   refine wf Pz Z (Aa Z ?_)
   refine(EV.store 0 Z Z Z Z Z Z (vs:=[i_ 0,i_ 0]) (show Value.cells _=List.toArray _ from Z) Wb (nl Z) (oc Z (oc Z Aw)) ?_)
   refine nt (WC.seq (WC.seq (B9 (m:=4) (S:=Own M w [kn M w.heap.size K0 K0,blk b51 [i_ ((ele l.body x54_1).op),i_ 0,i_ 0,i_ 0,i_ 0,i_ ((ele l.body x54_1).ar),i_ ((ele l.body x54_1).sp),i_ ((ele l.body x54_1).pl),i_ ((ele l.body x54_1).n)] 81,blk b50 (Opr.cells (ele k_.ops (ele order x54_1))) 75,vec uv17_1 3 1 (List.map Af v17_1),vec uv16_1 3 1 (List.map Af v16_1),vec uv15_1 3 1 (List.map Af v15_1),Eb b14 kI bv (Es m14n_1 (ele order x54_1) true),blk b13 [v_l_logs,v_l_body,v_l_outs,i_ k_.pace,i_ t.regs,uv15_1,uv16_1,uv17_1] 87,blk b3 [i_ k_.pace,i_ k_.stages,v_k__ops] 31,blk b2 t.cells 28,blk b1 [v_l_logs,v_l_body,v_l_outs] 25]) (by kernel_rfl) (by kernel_rfl) (pk [10,0,1,2,3,4,5,6,7,8,9]) ?_)))
   refine wz 0 Z Z (Ac Ub Z Z Z (Ab 2 Z)) ?_
   obtain⟨x52,hx53,hm54⟩:=Ag hm47;clear hm47
   refine wz 1 Z Z (QV.call en95 (ec Z eN) (fun w hw=>have h:=Rw w hx53 ;h)) (wz 2 Z Z (Ac Kk Z Z Z (Ab 1 Z)) (wz 3 Z Z (Agk eq81 (ns:=[x52.op,x52.a.st,x52.a.bk,x52.b.st,x52.b.bk,x52.ar,x52.sp,x52.pl,x52.n]) (ms:=[(ele l.body x54_1).op,0,0,0,0,(ele l.body x54_1).ar,(ele l.body x54_1).sp,(ele l.body x54_1).pl,(ele l.body x54_1).n]) Z Z Z Z Z Z) ?_))
   refine WD.e (by kernel_rfl) ?_
   refine WQ.then ?_
   refine wc Z hm54 (fun h55 hm56=>?_) (fun h55 hm57=>?_) <;> clear hm54
   ·skip
    refine sr (wa Z (wa Z (nt (WC.ret (tr (kr (tr (tr (kr (tr (tr ?_)))))))))))
    obtain rfl:=Cy hm56 hn32
    obtain rfl:=(Ae hm20).symm
    refine Dn Z Z Z (fun w hw=>?_)
    exact⟨(.pointer none,K0),Z,hw.pick [10] (by decide),LayAt.none⟩
   refine sk (WQ.then (WC.seq (B9 (m:=13) (S:=Own M w [kn M w.heap.size K0 K0,blk b51 [i_ ((ele l.body x54_1).op),i_ 0,i_ 0,i_ 0,i_ 0,i_ ((ele l.body x54_1).ar),i_ ((ele l.body x54_1).sp),i_ ((ele l.body x54_1).pl),i_ ((ele l.body x54_1).n)] 81,blk b50 (Opr.cells (ele k_.ops (ele order x54_1))) 75,vec uv17_1 3 1 (List.map Af v17_1),vec uv16_1 3 1 (List.map Af v16_1),Eb b14 kI bv (Es m14n_1 (ele order x54_1) true),blk b13 [v_l_logs,v_l_body,v_l_outs,i_ k_.pace,i_ t.regs,uv15_1,uv16_1,uv17_1] 87,blk b3 [i_ k_.pace,i_ k_.stages,v_k__ops] 31,blk b2 t.cells 28,blk b1 [v_l_logs,v_l_body,v_l_outs] 25]) (by kernel_rfl) (by kernel_rfl) (pk [10,0,1,2,3,5,6,7,8,9]) ?_)))
   refine zm 0 Z Z (zm 1 Z Z (wz 2 Z Z (QV.nilCheck Z Z) (zf 3 Uf Z Z (zl 4 Du Z Z (Own.cell 6 Z Z) (wz 5 Z Z (Ac Kj Z Z Z (Ab 7 Z)) (wz 6 Z Z (Ac Ub Z Z Z (Ab 2 Z)) ?_))))))
   obtain⟨x58,hx59,hm60⟩:=Ag hm57;clear hm57
   refine wz 7 Z Z (QV.call en96 (ec Z (ec Z eN)) (fun w hw=>have h:=Nx w hx59 ((Ah 0 Z hk h_k__ops) w hw);h)) ?_
   refine WD.o 8 Z (by kernel_rfl) Z ?_
   refine(EV.buildSlice (by decide) N5 (by decide) (by decide) (ps:=[(0,.tmp 100)]) (cells:=[i_ x58]) (ec Z eN) (by kernel_rfl) (fun b61=>?_))
   refine WD.b (H':=[kn M w.heap.size K0 K0,blk b61 [i_ x58] 3,blk b51 [i_ ((ele l.body x54_1).op),i_ 0,i_ 0,i_ 0,i_ 0,i_ ((ele l.body x54_1).ar),i_ ((ele l.body x54_1).sp),i_ ((ele l.body x54_1).pl),i_ ((ele l.body x54_1).n)] 81,blk b50 (Opr.cells (ele k_.ops (ele order x54_1))) 75,vec uv17_1 3 1 (List.map Af v17_1),vec uv16_1 3 1 (List.map Af v16_1),Eb b14 kI bv (Es m14n_1 (ele order x54_1) true),blk b13 [v_l_logs,v_l_body,v_l_outs,i_ k_.pace,i_ t.regs,uv15_1,uv16_1,uv17_1] 87,blk b3 [i_ k_.pace,i_ k_.stages,v_k__ops] 31,blk b2 t.cells 28,blk b1 [v_l_logs,v_l_body,v_l_outs] 25]) (pk [11,0,1,2,3,4,6,7,8,9,10]) (pk [0,2,3,4,5,6,7,8,9,10]) ?_
   refine WD.o 9 Z (by kernel_rfl) Z ?_
   obtain⟨c62,hm63⟩:=cs hm60;clear hm60
   refine(Bx (enc:=Af) (xs:=v15_1) (ys:=[x58]) ((v15_1++[x58])) 5 (by decide) Su Z Z Z Z Z (Bj 0 (rows:=[x58].map Af) Z Z (B5 Bf)) Bf (Cz _) Z c62.1 c62.2 (fun u64 hu65=>?_))
   refine WD.b (H':=[kn M w.heap.size K0 K0,blk b61 [i_ x58] 3,blk b51 [i_ ((ele l.body x54_1).op),i_ 0,i_ 0,i_ 0,i_ 0,i_ ((ele l.body x54_1).ar),i_ ((ele l.body x54_1).sp),i_ ((ele l.body x54_1).pl),i_ ((ele l.body x54_1).n)] 81,blk b50 (Opr.cells (ele k_.ops (ele order x54_1))) 75,vec uv17_1 3 1 (List.map Af v17_1),vec uv16_1 3 1 (List.map Af v16_1),vec u64 3 1 (List.map Af (v15_1++[x58])),Eb b14 kI bv (Es m14n_1 (ele order x54_1) true),blk b13 [v_l_logs,v_l_body,v_l_outs,i_ k_.pace,i_ t.regs,uv15_1,uv16_1,uv17_1] 87,blk b3 [i_ k_.pace,i_ k_.stages,v_k__ops] 31,blk b2 t.cells 28,blk b1 [v_l_logs,v_l_body,v_l_outs] 25]) (pk [11,0,1,2,3,4,5,6,7,8,9,10]) (pk [0,1,2,3,4,5,7,8,9,10,11]) ?_
   refine wz 10 Z Z (QV.nilCheck Z Z) (zf 11 Uf Z Z ?_)
   refine WD.l 12 Z (by kernel_rfl) Z ?_
   refine(EV.store 7 Z Z Z Z Z Z (vs:=[u64]) (SliceLen.cells hu65) Aby (nl Z) (oc (SliceLen.one hu65) Aw) ?_)
   refine WQ.then (WC.seq (B9 (m:=18) (S:=Own M w [kn M w.heap.size K0 K0,blk b61 [i_ x58] 3,blk b51 [i_ ((ele l.body x54_1).op),i_ 0,i_ 0,i_ 0,i_ 0,i_ ((ele l.body x54_1).ar),i_ ((ele l.body x54_1).sp),i_ ((ele l.body x54_1).pl),i_ ((ele l.body x54_1).n)] 81,blk b50 (Opr.cells (ele k_.ops (ele order x54_1))) 75,vec uv17_1 3 1 (List.map Af v17_1),vec u64 3 1 (List.map Af (v15_1++[x58])),Eb b14 kI bv (Es m14n_1 (ele order x54_1) true),blk b13 [v_l_logs,v_l_body,v_l_outs,i_ k_.pace,i_ t.regs,u64,uv16_1,uv17_1] 87,blk b3 [i_ k_.pace,i_ k_.stages,v_k__ops] 31,blk b2 t.cells 28,blk b1 [v_l_logs,v_l_body,v_l_outs] 25]) (by kernel_rfl) (by kernel_rfl) (pk [11,0,1,2,3,5,6,7,8,9,10]) ?_))
   refine zm 0 Z Z (zm 1 Z Z (wz 2 Z Z (QV.nilCheck Z Z) (zf 3 Sa Z Z (zl 4 Du Z Z (Own.cell 7 Z Z) (wz 5 Z Z (Ac Kj Z Z Z (Ab 8 Z)) (wz 6 Z Z (Ac Ub Z Z Z (Ab 3 Z)) ?_))))))
   obtain⟨x66,hx67,hm68⟩:=Ag hm63;clear hm63
   refine wz 7 Z Z (QV.call en96 (ec Z (ec Z eN)) (fun w hw=>have h:=Nx w hx67 ((Ah 0 Z hk h_k__ops) w hw);h)) (wz 8 Z Z (Ac Gk Z Z Z (Ab 9 Z)) (zf 9 Nw Z Z (zl 10 pl3 Z Z (Own.cell 3 Z Z) ?_)))
   obtain⟨x69,hx70,hm71⟩:=Ag hm68;clear hm68
   refine wz 11 Z Z (QV.call Ail (ec Z (ec Z eN)) (fun w hw=>have h:=Js w hx70 ;h)) ?_
   obtain⟨c72,c75,c79,c82,c86,hm87⟩:=cs5 hm71;clear hm71
   refine wz 12 Z Z (QV.add Z Z Z Z c72) ?_
   refine WD.o 13 Z (by kernel_rfl) Z ?_
   refine(EV.buildSlice (by decide) N5 (by decide) (by decide) (ps:=[(0,.tmp 117)]) (cells:=[i_ (x66+x69)]) (ec Z eN) (by kernel_rfl) (fun b74=>?_))
   refine WD.b (H':=[kn M w.heap.size K0 K0,blk b74 [i_ (x66+x69)] 3,blk b61 [i_ x58] 3,blk b51 [i_ ((ele l.body x54_1).op),i_ 0,i_ 0,i_ 0,i_ 0,i_ ((ele l.body x54_1).ar),i_ ((ele l.body x54_1).sp),i_ ((ele l.body x54_1).pl),i_ ((ele l.body x54_1).n)] 81,blk b50 (Opr.cells (ele k_.ops (ele order x54_1))) 75,vec uv17_1 3 1 (List.map Af v17_1),vec u64 3 1 (List.map Af (v15_1++[x58])),Eb b14 kI bv (Es m14n_1 (ele order x54_1) true),blk b13 [v_l_logs,v_l_body,v_l_outs,i_ k_.pace,i_ t.regs,u64,uv16_1,uv17_1] 87,blk b3 [i_ k_.pace,i_ k_.stages,v_k__ops] 31,blk b2 t.cells 28,blk b1 [v_l_logs,v_l_body,v_l_outs] 25]) (pk [12,0,1,2,3,4,6,7,8,9,10,11]) (pk [0,2,3,4,5,6,7,8,9,10,11]) ?_
   refine WD.o 14 Z (by kernel_rfl) Z ?_
   refine(Bx (enc:=Af) (xs:=v16_1) (ys:=[(x66+x69)]) ((v16_1++[(x66+x69)])) 5 (by decide) Su Z Z Z Z Z (Bj 0 (rows:=[(x66+x69)].map Af) Z Z (B5 Bf)) Bf (Cz _) Z c75.1 c75.2 (fun u77 hu78=>?_))
   refine WD.b (H':=[kn M w.heap.size K0 K0,blk b74 [i_ (x66+x69)] 3,blk b61 [i_ x58] 3,blk b51 [i_ ((ele l.body x54_1).op),i_ 0,i_ 0,i_ 0,i_ 0,i_ ((ele l.body x54_1).ar),i_ ((ele l.body x54_1).sp),i_ ((ele l.body x54_1).pl),i_ ((ele l.body x54_1).n)] 81,blk b50 (Opr.cells (ele k_.ops (ele order x54_1))) 75,vec uv17_1 3 1 (List.map Af v17_1),vec u77 3 1 (List.map Af (v16_1++[(x66+x69)])),vec u64 3 1 (List.map Af (v15_1++[x58])),Eb b14 kI bv (Es m14n_1 (ele order x54_1) true),blk b13 [v_l_logs,v_l_body,v_l_outs,i_ k_.pace,i_ t.regs,u64,uv16_1,uv17_1] 87,blk b3 [i_ k_.pace,i_ k_.stages,v_k__ops] 31,blk b2 t.cells 28,blk b1 [v_l_logs,v_l_body,v_l_outs] 25]) (pk [12,0,1,2,3,4,5,6,7,8,9,10,11]) (pk [0,1,2,3,4,5,7,8,9,10,11,12]) ?_
   refine wz 15 Z Z (QV.nilCheck Z Z) (zf 16 Sa Z Z ?_)
   refine WD.l 17 Z (by kernel_rfl) Z ?_
   refine(EV.store 8 Z Z Z Z Z Z (vs:=[u77]) (SliceLen.cells hu78) Aby (nl Z) (oc (SliceLen.one hu78) Aw) ?_)
   refine WQ.then (B9 (m:=15) (S:=Own M w [kn M w.heap.size K0 K0,blk b74 [i_ (x66+x69)] 3,blk b61 [i_ x58] 3,blk b51 [i_ ((ele l.body x54_1).op),i_ 0,i_ 0,i_ 0,i_ 0,i_ ((ele l.body x54_1).ar),i_ ((ele l.body x54_1).sp),i_ ((ele l.body x54_1).pl),i_ ((ele l.body x54_1).n)] 81,blk b50 (Opr.cells (ele k_.ops (ele order x54_1))) 75,vec u77 3 1 (List.map Af (v16_1++[(x66+x69)])),vec u64 3 1 (List.map Af (v15_1++[x58])),Eb b14 kI bv (Es m14n_1 (ele order x54_1) true),blk b13 [v_l_logs,v_l_body,v_l_outs,i_ k_.pace,i_ t.regs,u64,u77,uv17_1] 87,blk b3 [i_ k_.pace,i_ k_.stages,v_k__ops] 31,blk b2 t.cells 28,blk b1 [v_l_logs,v_l_body,v_l_outs] 25]) (by kernel_rfl) (by kernel_rfl) (pk [12,0,1,2,3,5,6,7,8,9,10,11]) ?_)
   refine zm 0 Z Z (zm 1 Z Z (wz 2 Z Z (QV.nilCheck Z Z) (zf 3 K9 Z Z (zl 4 Du Z Z (Own.cell 8 Z Z) (zf 5 P0 Z Z (zl 6 pl3 Z Z (Own.cell 4 Z Z) (zf 7 P3 Z Z (zl 8 pl3 Z Z (Own.cell 4 Z Z) (wz 9 Z Z (QV.add Z Z Z Z c79) ?_)))))))))
   refine WD.o 10 Z (by kernel_rfl) Z ?_
   refine(EV.buildSlice (by decide) N5 (by decide) (by decide) (ps:=[(0,.tmp 131)]) (cells:=[i_ ((ele k_.ops (ele order x54_1)).dest+(ele k_.ops (ele order x54_1)).stage)]) (ec Z eN) (by kernel_rfl) (fun b81=>?_))
   refine WD.b (H':=[kn M w.heap.size K0 K0,blk b81 [i_ ((ele k_.ops (ele order x54_1)).dest+(ele k_.ops (ele order x54_1)).stage)] 3,blk b74 [i_ (x66+x69)] 3,blk b61 [i_ x58] 3,blk b51 [i_ ((ele l.body x54_1).op),i_ 0,i_ 0,i_ 0,i_ 0,i_ ((ele l.body x54_1).ar),i_ ((ele l.body x54_1).sp),i_ ((ele l.body x54_1).pl),i_ ((ele l.body x54_1).n)] 81,blk b50 (Opr.cells (ele k_.ops (ele order x54_1))) 75,vec u77 3 1 (List.map Af (v16_1++[(x66+x69)])),vec u64 3 1 (List.map Af (v15_1++[x58])),Eb b14 kI bv (Es m14n_1 (ele order x54_1) true),blk b13 [v_l_logs,v_l_body,v_l_outs,i_ k_.pace,i_ t.regs,u64,u77,uv17_1] 87,blk b3 [i_ k_.pace,i_ k_.stages,v_k__ops] 31,blk b2 t.cells 28,blk b1 [v_l_logs,v_l_body,v_l_outs] 25]) (pk [13,0,1,2,3,4,6,7,8,9,10,11,12]) (pk [0,2,3,4,5,6,7,8,9,10,11,12]) ?_
   refine WD.o 11 Z (by kernel_rfl) Z ?_
   refine(Bx (enc:=Af) (xs:=v17_1) (ys:=[((ele k_.ops (ele order x54_1)).dest+(ele k_.ops (ele order x54_1)).stage)]) ((v17_1++[((ele k_.ops (ele order x54_1)).dest+(ele k_.ops (ele order x54_1)).stage)])) 5 (by decide) Su Z Z Z Z Z (Bj 0 (rows:=[((ele k_.ops (ele order x54_1)).dest+(ele k_.ops (ele order x54_1)).stage)].map Af) Z Z (B5 Bf)) Bf (Cz _) Z c82.1 c82.2 (fun u84 hu85=>?_))
   refine WD.b (H':=[kn M w.heap.size K0 K0,blk b81 [i_ ((ele k_.ops (ele order x54_1)).dest+(ele k_.ops (ele order x54_1)).stage)] 3,blk b74 [i_ (x66+x69)] 3,blk b61 [i_ x58] 3,blk b51 [i_ ((ele l.body x54_1).op),i_ 0,i_ 0,i_ 0,i_ 0,i_ ((ele l.body x54_1).ar),i_ ((ele l.body x54_1).sp),i_ ((ele l.body x54_1).pl),i_ ((ele l.body x54_1).n)] 81,blk b50 (Opr.cells (ele k_.ops (ele order x54_1))) 75,vec u84 3 1 (List.map Af (v17_1++[((ele k_.ops (ele order x54_1)).dest+(ele k_.ops (ele order x54_1)).stage)])),vec u77 3 1 (List.map Af (v16_1++[(x66+x69)])),vec u64 3 1 (List.map Af (v15_1++[x58])),Eb b14 kI bv (Es m14n_1 (ele order x54_1) true),blk b13 [v_l_logs,v_l_body,v_l_outs,i_ k_.pace,i_ t.regs,u64,u77,uv17_1] 87,blk b3 [i_ k_.pace,i_ k_.stages,v_k__ops] 31,blk b2 t.cells 28,blk b1 [v_l_logs,v_l_body,v_l_outs] 25]) (pk [13,0,1,2,3,4,5,6,7,8,9,10,11,12]) (pk [0,1,2,3,4,5,7,8,9,10,11,12,13]) ?_
   refine wz 12 Z Z (QV.nilCheck Z Z) (zf 13 K9 Z Z ?_)
   refine WD.l 14 Z (by kernel_rfl) Z ?_
   refine(EV.store 9 Z Z Z Z Z Z (vs:=[u84]) (SliceLen.cells hu85) Aby (nl Z) (oc (SliceLen.one hu85) Aw) ?_)
   refine WQ.block (WQ.then (WC.region (wq Z (QV.add Z Z Z Z c86) (wm Z (WL.nil ?_)))))
   exact Ah1 (v17_1++[((ele k_.ops (ele order x54_1)).dest+(ele k_.ops (ele order x54_1)).stage)]) (v16_1++[(x66+x69)]) (v15_1++[x58]) (Es m14n_1 (ele order x54_1) true) (x54_1+1) u84 u77 u64 m29 ⟨Ax hm87 hn32,hu85,hu78,hu65⟩ (Nat.lt_succ_self _) ⟨Z,Z,Z,Z,Z,Z,Z,Z,trivial⟩ (pk [5,6,7,8,9,10,11,12,13])
  refine WD.two 10 11 1023 2047 3071 (by kernel_rfl) Z Z Z Z (by kernel_rfl) (by kernel_rfl) ?_ ?_
  ·skip
   refine(EV.alloc (by decide) Agq (fun b88=>?_))
   refine WD.b (H':=[kn M w.heap.size K0 K0,vec uv17_1 3 1 (List.map Af v17_1),vec uv16_1 3 1 (List.map Af v16_1),vec uv15_1 3 1 (List.map Af v15_1),Eb b14 kI bv (Es m14n_1 (ele order x54_1) true),blk b13 [v_l_logs,v_l_body,v_l_outs,i_ k_.pace,i_ t.regs,uv15_1,uv16_1,uv17_1] 87,blk b3 [i_ k_.pace,i_ k_.stages,v_k__ops] 31,blk b2 t.cells 28,blk b1 [v_l_logs,v_l_body,v_l_outs] 25]) (pk [9,1,2,3,4,5,6,7,8]) (fun w hw=>hw) ?_
   refine Mc 11 2047 4095 Z (by kernel_rfl) Z ?_
   refine(EV.alloc (by decide) Nz (fun b89=>?_))
   refine WD.b (H':=[kn M w.heap.size K0 K0,vec uv17_1 3 1 (List.map Af v17_1),vec uv16_1 3 1 (List.map Af v16_1),vec uv15_1 3 1 (List.map Af v15_1),Eb b14 kI bv (Es m14n_1 (ele order x54_1) true),blk b13 [v_l_logs,v_l_body,v_l_outs,i_ k_.pace,i_ t.regs,uv15_1,uv16_1,uv17_1] 87,blk b3 [i_ k_.pace,i_ k_.stages,v_k__ops] 31,blk b2 t.cells 28,blk b1 [v_l_logs,v_l_body,v_l_outs] 25]) (pk [10,2,3,4,5,6,7,8,9]) (fun w hw=>hw) ?_
   refine Mc 12 4095 8191 Z (by kernel_rfl) Z ?_
   refine(EV.store 1 Z Z Z Z Z Z (vs:=(Opr.cells (ele k_.ops (ele order x54_1)))) (show Value.cells _=List.toArray _ from Z) Agr (nl Z) (oc Z (oc Z (oc Z (oc Z (oc Z (oc Z (oc Z (oc Z (oc Z (oc Z Aw)))))))))) ?_)
   refine WD.b (H':=[kn M w.heap.size K0 K0,vec uv17_1 3 1 (List.map Af v17_1),vec uv16_1 3 1 (List.map Af v16_1),vec uv15_1 3 1 (List.map Af v15_1),Eb b14 kI bv (Es m14n_1 (ele order x54_1) true),blk b13 [v_l_logs,v_l_body,v_l_outs,i_ k_.pace,i_ t.regs,uv15_1,uv16_1,uv17_1] 87,blk b3 [i_ k_.pace,i_ k_.stages,v_k__ops] 31,blk b2 t.cells 28,blk b1 [v_l_logs,v_l_body,v_l_outs] 25]) (pk [10,2,3,4,5,6,7,8,9]) (fun w hw=>hw) ?_
   refine Mc 13 8191 16383 Z (by kernel_rfl) Z ?_
   refine(EV.store 0 Z Z Z Z Z Z (vs:=(Stm.cells (ele l.body x54_1))) (show Value.cells _=List.toArray _ from Z) N0 (nl Z) (oc Z (oc Z (oc Z (oc Z (oc Z (oc Z (oc Z (oc Z (oc Z Aw))))))))) ?_)
   refine WD.b (H':=[kn M w.heap.size K0 K0,vec uv17_1 3 1 (List.map Af v17_1),vec uv16_1 3 1 (List.map Af v16_1),vec uv15_1 3 1 (List.map Af v15_1),Eb b14 kI bv (Es m14n_1 (ele order x54_1) true),blk b13 [v_l_logs,v_l_body,v_l_outs,i_ k_.pace,i_ t.regs,uv15_1,uv16_1,uv17_1] 87,blk b3 [i_ k_.pace,i_ k_.stages,v_k__ops] 31,blk b2 t.cells 28,blk b1 [v_l_logs,v_l_body,v_l_outs] 25]) (pk [10,2,3,4,5,6,7,8,9]) (fun w hw=>hw) ?_
   refine Acc (by kernel_rfl) ?_
   exact Pb b88 b89 ⟨Z,Z,Z,Z,Z,Z,Z,Z,Z,Z,trivial⟩ (pk [0,1,2,3,4,5,6,7,8,9,10])
  refine(EV.alloc (by decide) Nz (fun b90=>?_))
  refine WD.b (H':=[kn M w.heap.size K0 K0,vec uv17_1 3 1 (List.map Af v17_1),vec uv16_1 3 1 (List.map Af v16_1),vec uv15_1 3 1 (List.map Af v15_1),Eb b14 kI bv (Es m14n_1 (ele order x54_1) true),blk b13 [v_l_logs,v_l_body,v_l_outs,i_ k_.pace,i_ t.regs,uv15_1,uv16_1,uv17_1] 87,blk b3 [i_ k_.pace,i_ k_.stages,v_k__ops] 31,blk b2 t.cells 28,blk b1 [v_l_logs,v_l_body,v_l_outs] 25]) (pk [9,1,2,3,4,5,6,7,8]) (fun w hw=>hw) ?_
  refine Mc 10 3071 4095 Z (by kernel_rfl) Z ?_
  refine(EV.alloc (by decide) Agq (fun b91=>?_))
  refine WD.b (H':=[kn M w.heap.size K0 K0,vec uv17_1 3 1 (List.map Af v17_1),vec uv16_1 3 1 (List.map Af v16_1),vec uv15_1 3 1 (List.map Af v15_1),Eb b14 kI bv (Es m14n_1 (ele order x54_1) true),blk b13 [v_l_logs,v_l_body,v_l_outs,i_ k_.pace,i_ t.regs,uv15_1,uv16_1,uv17_1] 87,blk b3 [i_ k_.pace,i_ k_.stages,v_k__ops] 31,blk b2 t.cells 28,blk b1 [v_l_logs,v_l_body,v_l_outs] 25]) (pk [10,2,3,4,5,6,7,8,9]) (fun w hw=>hw) ?_
  refine Mc 12 4095 8191 Z (by kernel_rfl) Z ?_
  refine(EV.store 0 Z Z Z Z Z Z (vs:=(Opr.cells (ele k_.ops (ele order x54_1)))) (show Value.cells _=List.toArray _ from Z) Agr (nl Z) (oc Z (oc Z (oc Z (oc Z (oc Z (oc Z (oc Z (oc Z (oc Z (oc Z Aw)))))))))) ?_)
  refine WD.b (H':=[kn M w.heap.size K0 K0,vec uv17_1 3 1 (List.map Af v17_1),vec uv16_1 3 1 (List.map Af v16_1),vec uv15_1 3 1 (List.map Af v15_1),Eb b14 kI bv (Es m14n_1 (ele order x54_1) true),blk b13 [v_l_logs,v_l_body,v_l_outs,i_ k_.pace,i_ t.regs,uv15_1,uv16_1,uv17_1] 87,blk b3 [i_ k_.pace,i_ k_.stages,v_k__ops] 31,blk b2 t.cells 28,blk b1 [v_l_logs,v_l_body,v_l_outs] 25]) (pk [10,2,3,4,5,6,7,8,9]) (fun w hw=>hw) ?_
  refine Mc 13 8191 16383 Z (by kernel_rfl) Z ?_
  refine(EV.store 1 Z Z Z Z Z Z (vs:=(Stm.cells (ele l.body x54_1))) (show Value.cells _=List.toArray _ from Z) N0 (nl Z) (oc Z (oc Z (oc Z (oc Z (oc Z (oc Z (oc Z (oc Z (oc Z Aw))))))))) ?_)
  refine WD.b (H':=[kn M w.heap.size K0 K0,vec uv17_1 3 1 (List.map Af v17_1),vec uv16_1 3 1 (List.map Af v16_1),vec uv15_1 3 1 (List.map Af v15_1),Eb b14 kI bv (Es m14n_1 (ele order x54_1) true),blk b13 [v_l_logs,v_l_body,v_l_outs,i_ k_.pace,i_ t.regs,uv15_1,uv16_1,uv17_1] 87,blk b3 [i_ k_.pace,i_ k_.stages,v_k__ops] 31,blk b2 t.cells 28,blk b1 [v_l_logs,v_l_body,v_l_outs] 25]) (pk [10,2,3,4,5,6,7,8,9]) (fun w hw=>hw) ?_
  refine Acc (by kernel_rfl) ?_
  exact Pb b91 b90 ⟨Z,Z,Z,Z,Z,Z,Z,Z,Z,Z,trivial⟩ (pk [1,0,2,3,4,5,6,7,8,9,10])
 refine WC.exit (te (te (Ai ?_)))
 exact Anl v17_1 v16_1 v15_1 m14n_1 x54_1 uv17_1 uv16_1 uv15_1 ⟨A6 hm92 hn32,hlv17_1,hlv16_1,hlv15_1⟩ ⟨Z,Z,Z,Z,Z,Z,Z,Z,trivial⟩ (pk [0,1,2,3,4,5,6,7,8])
theorem Yn {v_l_logs v_l_body v_l_outs v_k__ops v_order:Value}{p_y:Addr}{v_y_Loop_Logs v_y_Loop_Body v_y_Loop_Outs v_y_Time v_y_Ready v_y_Places:Value}{l:Lp}{t:Tgt}{k_:Krn}{order:List Int}{y_Pace y_Regs:Int}{y_Places:List Int}{r:Bool} (w:World) (hm:Hw l t k_ order y_Pace y_Regs y_Places=some r) (h_l_logs:Arr w v_l_logs 1 (l.logs.map Af)) (h_l_body:Arr w v_l_body 9 (l.body.map Stm.cells)) (h_l_outs:Arr w v_l_outs 1 (l.outs.map Af)) (h_k__ops:Arr w v_k__ops 10 (k_.ops.map Opr.cells)) (h_order:Arr w v_order 1 (order.map Af)) (h_y_Places:Arr w v_y_Places 1 (y_Places.map Af)) (hp_y:CellsAt w p_y [v_y_Loop_Logs,v_y_Loop_Body,v_y_Loop_Outs,.int .i64 y_Pace,.int .i64 y_Regs,v_y_Time,v_y_Ready,v_y_Places] 0):Calls Try.prog 61 #[.agg #[v_l_logs,v_l_body,v_l_outs],.agg #[.int .i64 t.u0,.int .i64 t.u1,.int .i64 t.u2,.int .i64 t.w0,.int .i64 t.w1,.int .i64 t.w2,.int .i64 t.regs],.agg #[.int .i64 k_.pace,.int .i64 k_.stages,v_k__ops],v_order,.pointer (some p_y)] w (fun e w'=>e=.returned (.bool r)∧Grow w w'):=by
 unfold Hw at hm
 have hk:=Base.rfl (w:=w)
 refine Ak (n:=67) (args:=[.agg #[v_l_logs,v_l_body,v_l_outs],.agg #[i_ t.u0,i_ t.u1,i_ t.u2,i_ t.w0,i_ t.w1,i_ t.w2,i_ t.regs],.agg #[i_ k_.pace,i_ k_.stages,v_k__ops],v_order,.pointer (some p_y)]) Try.func61 Z Z (nl Z) ?_ (An hk (Own.start w))
 refine sr (Aa Z ?_)
 refine(Aq (by decide) Z Z (fun b1=>?_))
 refine Aa Z ?_
 refine(Aq (by decide) Z Z (fun b2=>?_))
 refine Aa Z ?_
 refine(Aq (by decide) Z Z (fun b3=>?_))
 refine wa Z (nt (WC.seq (sr (wf Co Z (wl Gv Z (Own.cell 2 Z Z) (wq Z (Ay Try.underlying23 Z Z h_l_body.lenMap) (wm Z (nt ?_))))))))
 obtain⟨o4,ho5,hm6⟩:=Ag hm;clear hm;obtain⟨n7,ho8⟩:=A0 ho5
 refine Bz (H2:=[blk b3 [i_ k_.pace,i_ k_.stages,v_k__ops] 31,blk b2 t.cells 28,blk b1 [v_l_logs,v_l_body,v_l_outs] 25]) (τ:=[u_ 3 _,u_ 4 _,u_ 6 _,u_ 7 _,u_ 17 _,u_ 18 _]) (fun (x19_3:Int) (k_3:World)=>[(19,(true,i_ x19_3))]) (fun x19_3 k_3=>[kn noM w.heap.size w k_3]) (fun x19_3 k_3 m=>B3 (Er l t k_ order y_Places) m x19_3=some o4∧Le w k_3) (fun x19_3 k_3=>o4=.go x19_3∧Le w k_3) 0 w n7 ⟨ho8,(Le.refl _)⟩ ⟨Z,Z,Z,Z,Z,Z,Z,trivial⟩ (pk [3,0,1,2]) ?_ ?_
 ·skip
  rintro x19_3 k_3 ⟨rfl,hle_3⟩
  refine WQ.then (sr (wa Z (nt (WC.ret ?_))))
  obtain rfl:=(Ae hm6).symm
  exact Ar Z Z fun w hw=>kg hw
 rintro x19_3 k_3 m9 ⟨hI10,hle_3⟩
 obtain⟨m11,s12,rfl,hm13,hn14⟩:=Ap hI10;clear hI10;unfold Er at hm13
 refine sr (wq Z (QV.lss Z Z Z Z) (nt (WC.seq ?_)))
 refine wc Z hm13 (fun h15 hm16=>?_) (fun h15 hm74=>?_) <;> clear hm13
 ·skip
  refine sk (WQ.then (WC.seq (WC.block (sr (wm Z ?_)))))
  obtain⟨c17,hm18⟩:=cs hm16;clear hm16
  obtain⟨p19,hp20⟩:=(h_l_body.le hle_3).lenMap.ix (sz:=9) Au c17
  refine wq Z (Ad Pp Z Z Z Z hp20) (wq Z (Ac Kk Z Z Z (fun w hw=>((Ah 0 Z hk (h_l_body.le hle_3)) w hw).ele hp20 c17)) (Aa Z ?_))
  refine(EV.alloc (by decide) Nz (fun b21=>?_))
  refine wa Z (Aa Z ?_)
  refine(EV.store 0 Z Z Z Z Z Z (vs:=(Stm.cells (ele l.body x19_3))) (show Value.cells _=List.toArray _ from Z) N0 (nl Z) (oc Z (oc Z (oc Z (oc Z (oc Z (oc Z (oc Z (oc Z (oc Z Aw))))))))) ?_)
  refine nt (WC.seq (B9 (m:=10) (S:=Own noM w [kn noM w.heap.size w k_3,blk b21 (Stm.cells (ele l.body x19_3)) 81,blk b3 [i_ k_.pace,i_ k_.stages,v_k__ops] 31,blk b2 t.cells 28,blk b1 [v_l_logs,v_l_body,v_l_outs] 25]) (by kernel_rfl) (by kernel_rfl) (pk [1,0,2,3,4]) (zf 0 Mx Z Z (zl 1 X5 Z Z (Own.cell 2 Z Z) (zm 2 Z Z (zm 3 Z Z ?_))))))
  obtain⟨c22,hm23⟩:=cs hm18;clear hm18
  obtain⟨p24,hp25⟩:=(h_order.le hle_3).lenMap.ix (sz:=1) Au c22
  refine wz 4 Z Z (Ad Ei Z Z Z Z hp25) (zl 5 pl3 Z Z (fun w hw=>CellsAt.one 0 (((Ah 0 Z hk (h_order.le hle_3)) w hw).ele hp25 c22) Z) ?_)
  obtain⟨c26,hm27⟩:=cs hm23;clear hm23
  obtain⟨p28,hp29⟩:=(h_k__ops.le hle_3).lenMap.ix (sz:=10) Au c26
  refine wz 6 Z Z (Ad Alo Z Z Z Z hp29) (wz 7 Z Z (Ac Ub Z Z Z (fun w hw=>((Ah 0 Z hk (h_k__ops.le hle_3)) w hw).ele hp29 c26)) ?_)
  refine WD.o 8 Z (by kernel_rfl) Z ?_
  refine(EV.alloc (by decide) Agq (fun b30=>?_))
  refine WD.b (H':=[kn noM w.heap.size w k_3,blk b30 [i_ 0,i_ 0,i_ 0,i_ 0,i_ 0,i_ 0,i_ 0,i_ 0,i_ 0,i_ 0] 75,blk b21 (Stm.cells (ele l.body x19_3)) 81,blk b3 [i_ k_.pace,i_ k_.stages,v_k__ops] 31,blk b2 t.cells 28,blk b1 [v_l_logs,v_l_body,v_l_outs] 25]) (pk [2,0,1,3,4,5]) (pk [0,2,3,4,5]) ?_
  refine WD.l 9 Z (by kernel_rfl) Z ?_
  refine(EV.store 0 Z Z Z Z Z Z (vs:=(Opr.cells (ele k_.ops (ele order x19_3)))) (show Value.cells _=List.toArray _ from Z) Agr (nl Z) (oc Z (oc Z (oc Z (oc Z (oc Z (oc Z (oc Z (oc Z (oc Z (oc Z Aw)))))))))) ?_)
  refine WQ.then (sr (wq Z (Ac Kk Z Z Z (Ab 1 Z)) (Aa Z ?_)))
  obtain⟨x31,hx32,hm33⟩:=Ag hm27;clear hm27
  refine EV.of (C':=Own noM w [kn noM w.heap.size w k_3,blk b30 (Opr.cells (ele k_.ops (ele order x19_3))) 75,blk b21 (Stm.cells (ele l.body x19_3)) 81,blk b3 [i_ k_.pace,i_ k_.stages,v_k__ops] 31,blk b2 t.cells 28,blk b1 [v_l_logs,v_l_body,v_l_outs] 25]) (pk [2,0,1,3,4,5]) ?_
  refine(A4 (X:=Value×World) (R:=[]) (fun X=>X.1) (fun X=>[]) (fun X=>X.2) (fun X=>Arr X.2 X.1 2 (x31.map Rf.cells)) hk (fun _ h=>by cases h;decide) Ad7 (ec Z eN) (fun M w h1 h2=>have h:=Ii hx32  M w h1 h2;h) (fun X34 hF34 hle34=>?_))
  refine wq Z (Ay Try.underlying76 Z Z hF34.lenMap) (wm Z (nt ?_))
  obtain⟨o35,ho36,hm37⟩:=Ag hm33;clear hm33;obtain⟨n38,ho39⟩:=A0 ho36
  refine Ci (H2:=[kn noM w.heap.size w X34.2,blk b30 (Opr.cells (ele k_.ops (ele order x19_3))) 75,blk b21 (Stm.cells (ele l.body x19_3)) 81,blk b3 [i_ k_.pace,i_ k_.stages,v_k__ops] 31,blk b2 t.cells 28,blk b1 [v_l_logs,v_l_body,v_l_outs] 25]) (τ:=[u_ 3 _,u_ 4 _,u_ 6 _,u_ 7 _,u_ 13 _,u_ 17 _,u_ 18 _,u_ 19 _,u_ 33 _,u_ 34 _]) (fun (x35_4:Int)=>[(35,(true,i_ x35_4))]) (fun x35_4=>[]) (fun x35_4 m=>B3 (Ep t k_ order y_Places x19_3 x31) m x35_4=some o35) (fun x35_4=>o35=.go x35_4) 0 n38 ho39 ⟨Z,Z,Z,Z,Z,Z,Z,Z,Z,Z,Z,trivial⟩ (pk [0,1,2,3,4,5]) ?_ ?_
  ·skip
   rintro x35_4 rfl
   refine WQ.block (WQ.then (WC.region ?_))
   obtain⟨c40,hm41⟩:=cs hm37;clear hm37
   refine wq Z (QV.add Z Z Z Z c40) (wm Z (WL.nil ?_))
   exact Bn (x19_3+1) X34.2 m11 ⟨Ax hm41 hn14,(hle_3.trans hle34)⟩ (Nat.lt_succ_self _) ⟨Z,Z,Z,Z,Z,Z,Z,trivial⟩ (pk [0,3,4,5])
  rintro x35_4 m42 hI43
  obtain⟨m44,s45,rfl,hm46,hn47⟩:=Ap hI43;clear hI43;unfold Ep at hm46
  refine sr (wq Z (QV.lss Z Z Z Z) (nt (WC.seq ?_)))
  refine wc Z hm46 (fun h48 hm49=>?_) (fun h48 hm73=>?_) <;> clear hm46
  ·skip
   refine sk (WQ.then (WC.seq (WC.block (sr (wm Z ?_)))))
   obtain⟨c50,hm51⟩:=cs hm49;clear hm49
   obtain⟨p52,hp53⟩:=hF34.lenMap.ix (sz:=2) Au c50
   refine wq Z (Ad Ags Z Z Z Z hp53) (wq Z (Ac K6 Z Z Z (fun w hw=>((Ah 0 Z hk hF34) w hw).ele hp53 c50)) (Aa Z ?_))
   refine(EV.alloc (by decide) Ad2 (fun b54=>?_))
   refine wa Z (Aa Z ?_)
   refine(EV.store 0 Z Z Z Z Z Z (vs:=[i_ ((ele x31 x35_4).st),i_ ((ele x31 x35_4).bk)]) (show Value.cells _=List.toArray _ from Z) Wb (nl Z) (oc Z (oc Z Aw)) ?_)
   refine nt (WC.seq (B9 (m:=25) (S:=Own noM w [kn noM w.heap.size w X34.2,blk b54 [i_ ((ele x31 x35_4).st),i_ ((ele x31 x35_4).bk)] 79,blk b30 (Opr.cells (ele k_.ops (ele order x19_3))) 75,blk b21 (Stm.cells (ele l.body x19_3)) 81,blk b3 [i_ k_.pace,i_ k_.stages,v_k__ops] 31,blk b2 t.cells 28,blk b1 [v_l_logs,v_l_body,v_l_outs] 25]) (by kernel_rfl) (by kernel_rfl) (pk [1,0,2,3,4,5,6]) (zf 0 Aaj Z Z (zl 1 pl3 Z Z (Own.cell 2 Z Z) (zf 2 Aai Z Z (zl 3 pl3 Z Z (Own.cell 2 Z Z) (wz 4 Z Z (QV.build (ps:=[(0,.tmp 41),(1,.tmp 43)]) (cells:=[i_ ((ele k_.ops (ele order x19_3)).a),i_ ((ele k_.ops (ele order x19_3)).b)]) (ec Z (ec Z eN)) (by kernel_rfl)) (zm 5 Z Z ?_))))))))
   obtain⟨c55,c57,hm58⟩:=cs2 hm51;clear hm51
   refine wz 6 Z Z (Z0 (xs:=([(ele k_.ops (ele order x19_3)).a,(ele k_.ops (ele order x19_3)).b]:List Int)) Try.underlying146 pl3 sz3 Z Z Z Z Z c55) (zm 7 Z Z (wz 8 Z Z (QV.nilCheck Z Z) (zf 9 K9 Z Z (zl 10 Du Z Z (fun w hw=>CellsAt.one 7 ((Am 0 Z hk (hp_y.le (hle_3.trans hle34))) w hw) Z) (zf 11 Mw Z Z (zl 12 pl3 Z Z (Own.cell 1 Z Z) ?_))))))
   obtain⟨p59,hp60⟩:=(h_y_Places.le (hle_3.trans hle34)).lenMap.ix (sz:=1) Au c57
   refine wz 13 Z Z (Ad Ei Z Z Z Z hp60) (zl 14 pl3 Z Z (fun w hw=>CellsAt.one 0 (((Ah 0 Z hk (h_y_Places.le (hle_3.trans hle34))) w hw).ele hp60 c57) Z) (zf 15 Mv Z Z (zl 16 pl3 Z Z (Own.cell 1 Z Z) ?_)))
   obtain⟨c61,c63,hm64⟩:=cs2 hm58;clear hm58
   refine wz 17 Z Z (QV.sub Z Z Z Z c61) (zf 18 P3 Z Z (zl 19 pl3 Z Z (Own.cell 2 Z Z) (wz 20 Z Z (QV.sub Z Z Z Z c63) (zf 21 H8 Z Z (zl 22 pl3 Z Z (Own.cell 5 Z Z) ?_)))))
   obtain⟨x65,hx66,hm67⟩:=Ag hm64;clear hm64
   refine wz 23 Z Z (QV.call Ain (ec Z (ec Z eN)) (fun w hw=>have h:=L0 w hx66 ;h)) (wz 24 Z Z (QV.neq Z Z Z Z) ?_)
   refine WD.e (by kernel_rfl) ?_
   refine WQ.then ?_
   refine wc Z hm67 (fun h68 hm69=>?_) (fun h68 hm70=>?_) <;> clear hm67
   ·skip
    refine sr (wa Z (nt (WC.ret (kr (tr (tr (kr (tr (kr (tr (tr (kr (tr (tr ?_))))))))))))))
    obtain rfl:=Cy hm69 hn47
    obtain rfl:=Cy hm37 hn14
    obtain rfl:=(Ae hm6).symm
    exact Ar Z Z fun w hw=>kg hw
   refine sk (WQ.block (WQ.then (WC.region ?_)))
   obtain⟨c71,hm72⟩:=cs hm70;clear hm70
   refine wq Z (QV.add Z Z Z Z c71) (wm Z (WL.nil ?_))
   exact Ch (x35_4+1) m44 (Ax hm72 hn47) (Nat.lt_succ_self _) ⟨Z,Z,Z,Z,Z,Z,Z,Z,Z,Z,Z,trivial⟩ (pk [1,2,3,4,5,6])
  refine WC.exit (te (te (Ai ?_)))
  exact C7 x35_4 (A6 hm73 hn47) ⟨Z,Z,Z,Z,Z,Z,Z,Z,Z,Z,Z,trivial⟩ (pk [0,1,2,3,4,5])
 refine WC.exit (te (te (Ai ?_)))
 exact Cb x19_3 k_3 ⟨A6 hm74 hn14,hle_3⟩ ⟨Z,Z,Z,Z,Z,Z,Z,trivial⟩ (pk [0,1,2,3])
theorem Ny {v_l_logs v_l_body v_l_outs v_k__ops v_order:Value}{l:Lp}{t:Tgt}{k_:Krn}{order:List Int}{r:Option L5×Bool}{K0:World} (hm:Gs l t k_ order=some r) (h_l_logs:Arr K0 v_l_logs 1 (l.logs.map Af)) (h_l_body:Arr K0 v_l_body 9 (l.body.map Stm.cells)) (h_l_outs:Arr K0 v_l_outs 1 (l.outs.map Af)) (h_k__ops:Arr K0 v_k__ops 10 (k_.ops.map Opr.cells)) (h_order:Arr K0 v_order 1 (order.map Af)) (M:Nat→Prop) (w:World) (hk:Base M K0 w) (hw0:Own M w [] w):Calls Try.prog 28 #[.agg #[v_l_logs,v_l_body,v_l_outs],.agg #[.int .i64 t.u0,.int .i64 t.u1,.int .i64 t.u2,.int .i64 t.w0,.int .i64 t.w1,.int .i64 t.w2,.int .i64 t.regs],.agg #[.int .i64 k_.pace,.int .i64 k_.stages,v_k__ops],v_order] w (fun e w'=>∃ X:Value×World,e=.returned (.tuple #[X.1,.bool r.2])∧Own M w (kn M w.heap.size K0 X.2::[]) w'∧LayAt X.2 X.1 r.1):=by
 unfold Gs at hm
 refine Ak (n:=104) (args:=[.agg #[v_l_logs,v_l_body,v_l_outs],.agg #[i_ t.u0,i_ t.u1,i_ t.u2,i_ t.w0,i_ t.w1,i_ t.w2,i_ t.regs],.agg #[i_ k_.pace,i_ k_.stages,v_k__ops],v_order]) Try.func28 Z Z (nl Z) ?_ (An hk hw0)
 refine sr (Aa Z ?_)
 refine(Aq (by decide) Z Z (fun b1=>?_))
 refine Aa Z ?_
 refine(Aq (by decide) Z Z (fun b2=>?_))
 refine Aa Z ?_
 refine(Aq (by decide) Z Z (fun b3=>?_))
 refine wa Z (wa Z (ns (wq Z (Ac Fh Z Z Z (Ab 2 Z)) (wq Z (Ac Gk Z Z Z (Ab 1 Z)) (wq Z (Ac Kj Z Z Z (Ab 0 Z)) (wm Z (Aa Z ?_)))))))
 obtain⟨x4,hx5,hm6⟩:=Ag hm;clear hm
 refine EV.of (C':=Own M w [kn M w.heap.size K0 K0,blk b3 [i_ k_.pace,i_ k_.stages,v_k__ops] 31,blk b2 t.cells 28,blk b1 [v_l_logs,v_l_body,v_l_outs] 25]) (pk [3,0,1,2]) ?_
 refine(A4 (X:=Value×World) (R:=[]) (fun X=>.tuple #[X.1,.bool x4.2]) (fun X=>[]) (fun X=>X.2) (fun X=>LayAt X.2 X.1 x4.1) hk (fun _ h=>by cases h;decide) en60 (ec Z (ec Z (ec Z (ec Z eN)))) (fun M w h1 h2=>have h:=Xy hx5 h_l_logs h_l_body h_l_outs h_k__ops h_order M w h1 h2;h) (fun X7 hF7 hle7=>?_))
 rcases hE8:x4.1 with _ | y9
 ·skip
  have hm10:=Q7 hE8 hm6;clear hm6
  obtain⟨c11,hm12⟩:=cs hm10;clear hm10
  have e13:=LayAt.nil hF7 hE8
  rw[e13,c11]
  refine wm Z (wq Z (QV.extract Z Z Z) (wq Z (QV.extract Z Z Z) (wa Z (wa Z (nt (WC.seq (sr (wm Z (wq Z (QV.not Z Z) (wm Z (gn Z (fun hG=>Ac Fh Z Z Z (Ab 3 Z)) ?_)))))))))))
  refine gn Z (fun hG=>Ac Gk Z Z Z (Ab 2 Z)) (gn Z (fun hG=>Ac Kj Z Z Z (Ab 1 Z)) (gn Z (fun hG=>QV.move Z Z) (gn Z (fun hG=>QV.move Z Z) ?_)))
  obtain⟨c14,hm15⟩:=cs hm12;clear hm12
  refine gn Z (fun hG=>show QV Try.prog _ _ _ (.bool false) from (c14 hG).elim) (gn Z (fun hG=>QV.not Z hG) (wq Z (A2 Z Z Z (fun h=>Dv h)) (nt ?_)))
  refine WC.cond Z (fun h16=>?_) (fun h16=>?_)
  ·skip
   refine sr (wa Z (wa Z (nt (WC.ret (tr ?_)))))
   obtain rfl:=(Ae hm15).symm
   refine Dn Z Z Z (fun w hw=>?_)
   exact⟨(.pointer none,X7.2),Z,hw.pick [0] (by decide),LayAt.none⟩
  exact absurd h16 (by simp)
 have hm17:=Q6 hE8 hm6;clear hm6
 obtain⟨p18,u18_1,u18_2,u18_3,u18_4,u18_5,u18_6,hP18,hC18,hA18_1,hA18_2,hA18_3,hA18_4,hA18_5,hA18_6⟩:=LayAt.at hF7 hE8
 rw[hP18]
 refine wm Z (wq Z (QV.extract Z Z Z) (wq Z (QV.extract Z Z Z) (wa Z (wa Z (nt (WC.seq (sr (wm Z (wq Z (QV.not Z Z) (wm Z (gn Z (fun hG=>Ac Fh Z Z Z (Ab 3 Z)) ?_)))))))))))
 refine gn Z (fun hG=>Ac Gk Z Z Z (Ab 2 Z)) (gn Z (fun hG=>Ac Kj Z Z Z (Ab 1 Z)) (gn Z (fun hG=>QV.move Z Z) (gn Z (fun hG=>QV.move Z Z) ?_)))
 obtain⟨x19,hx20,hm21⟩:=Ce hm17;clear hm17
 refine gn Z (fun hG=>QV.call en61 (EvAll.cons Z hG (EvAll.cons Z hG (EvAll.cons Z hG (EvAll.cons Z hG (EvAll.cons Z hG eN))))) (fun w hw=>have h:=Yn w (hx20 hG) ((Ah 0 Z hk (h_l_logs.le hle7)) w hw) ((Ah 0 Z hk (h_l_body.le hle7)) w hw) ((Ah 0 Z hk (h_l_outs.le hle7)) w hw) ((Ah 0 Z hk (h_k__ops.le hle7)) w hw) ((Ah 0 Z hk (h_order.le hle7)) w hw) ((Ah 0 Z hk hA18_6) w hw) (Am 0 Z hk hC18 w hw);h)) (gn Z (fun hG=>QV.not Z hG) (wq Z (A2 Z Z Z (fun h=>Dv h)) (nt ?_)))
 refine wc Z hm21 (fun h22 hm23=>?_) (fun h22 hm24=>?_) <;> clear hm21
 ·skip
  refine sr (wa Z (wa Z (nt (WC.ret (tr ?_)))))
  obtain rfl:=(Ae hm23).symm
  refine Dn Z Z Z (fun w hw=>?_)
  exact⟨(.pointer none,X7.2),Z,hw.pick [0] (by decide),LayAt.none⟩
 refine sk (WQ.then (sr (wq Z (Ac Fh Z Z Z (Ab 3 Z)) (wq Z (Ac Gk Z Z Z (Ab 2 Z)) (Aa Z ?_)))))
 obtain⟨x25,hx26,hm27⟩:=Ag hm24;clear hm24
 refine(A4 (X:=Value×World) (R:=[]) (fun X=>.tuple #[X.1,i_ x25.2]) (fun X=>[]) (fun X=>X.2) (fun X=>Arr X.2 X.1 4 (x25.1.map Edg.cells)) hk (fun _ h=>by cases h;decide) Alt (ec Z (ec Z eN)) (fun M w h1 h2=>have h:=Nn hx26 (h_l_logs.le hle7) (h_l_body.le hle7) (h_l_outs.le hle7) M w h1 h2;h) (fun X28 hF28 hle28=>?_))
 refine wm Z (wq Z (QV.extract Z Z Z) (wq Z (QV.extract Z Z Z) (wa Z (wa Z (nt (WC.seq (sr (wm Z (wq Z (Ay Try.underlying68 Z Z hF28.lenMap) (wm Z (nt ?_)))))))))))
 obtain⟨o29,ho30,hm31⟩:=Ag hm27;clear hm27;obtain⟨n32,ho33⟩:=A0 ho30
 refine Ci (H2:=[kn M w.heap.size K0 X28.2,blk b3 [i_ k_.pace,i_ k_.stages,v_k__ops] 31,blk b2 t.cells 28,blk b1 [v_l_logs,v_l_body,v_l_outs] 25]) (τ:=[u_ 4 _,u_ 6 _,u_ 10 _,u_ 44 _,u_ 45 _]) (fun (x46_1:Int)=>[(46,(true,i_ x46_1))]) (fun x46_1=>[]) (fun x46_1 m=>B3 (Dw k_ y9 x25) m x46_1=some o29) (fun x46_1=>o29=.go x46_1) 0 n32 ho33 ⟨Z,Z,Z,Z,Z,Z,trivial⟩ (pk [0,1,2,3]) ?_ ?_
 ·skip
  rintro x46_1 rfl
  refine WQ.then (sr (wa Z (nt (WC.seq (sr (wf Co Z (wl Gv Z (Own.cell 3 Z Z) (wq Z (Ay Try.underlying23 Z Z (h_l_body.le (hle7.trans hle28)).lenMap) (wm Z (nt ?_))))))))))
  refine WK.of (fun w hw=>hw.vecNil (E:=3) (sz:=1) (enc:=Af)) ?_
  obtain⟨o35,ho36,hm37⟩:=Ag hm31;clear hm31;obtain⟨n38,ho39⟩:=A0 ho36
  refine D2 (H2:=[kn M w.heap.size K0 X28.2,blk b3 [i_ k_.pace,i_ k_.stages,v_k__ops] 31,blk b2 t.cells 28,blk b1 [v_l_logs,v_l_body,v_l_outs] 25]) (τ:=[u_ 4 _,u_ 10 _,u_ 79 _]) (fun (v34_5:List Int) (x80_5:Int) (uv34_5:Value)=>[(16,(true,uv34_5)),(80,(true,i_ x80_5))]) (fun v34_5 x80_5 uv34_5=>[vec uv34_5 3 1 (List.map Af v34_5)]) (fun v34_5 x80_5 uv34_5 m=>B3 (Eo l y9) m (v34_5,x80_5)=some o35∧SliceLen uv34_5 v34_5.length) (fun v34_5 x80_5 uv34_5=>o35=.go (v34_5,x80_5)∧SliceLen uv34_5 v34_5.length) [] 0 (.slice none 0 0) n38 ⟨ho39,SliceLen.nil⟩ ⟨Z,Z,Z,Z,Z,trivial⟩ (pk [0,1,2,3,4]) ?_ ?_
  ·skip
   rintro v34_5 x80_5 uv34_5 ⟨rfl,hlv34_5⟩
   refine WQ.then (sr (wm Z (wm Z (wm Z ?_))))
   obtain⟨x40,hx41,hm42⟩:=Ag hm37;clear hm37
   refine wq Z (QV.call en64 (ec Z (ec Z eN)) (fun w hw=>have h:=Vr w hx41 ((Ah 1 Z hk (hA18_1.le hle28)) w hw) ((Ah 1 Z hk (hA18_2.le hle28)) w hw) ((Ah 1 Z hk (hA18_3.le hle28)) w hw) ((Ah 1 Z hk (hA18_6.le hle28)) w hw) (Am 1 Z hk (hC18.le hle28) w hw) ((C1 0 Z) w hw);h)) (wa Z (wa Z (nt (WC.ret ?_))))
   obtain rfl:=(Ae hm42).symm
   refine Dn Z Z Z (fun w hw=>?_)
   exact⟨(.pointer (some p18),X28.2),Z,hw.pick [1] (by decide),(LayAt.mk (hC18.le hle28) (hA18_1.le hle28) (hA18_2.le hle28) (hA18_3.le hle28) (hA18_4.le hle28) (hA18_5.le hle28) (hA18_6.le hle28))⟩
  rintro v34_5 x80_5 uv34_5 m43 ⟨hI44,hlv34_5⟩
  obtain⟨m45,s46,rfl,hm47,hn48⟩:=Ap hI44;clear hI44;unfold Eo at hm47;simp only at hm47
  refine sr (wq Z (QV.lss Z Z Z Z) (nt (WC.seq ?_)))
  refine wc Z hm47 (fun h49 hm50=>?_) (fun h49 hm80=>?_) <;> clear hm47
  ·skip
   refine sk (WQ.then (WC.seq (WC.block (sr (wm Z (wa Z (ns (wm Z (wm Z (Aa Z ?_))))))))))
   refine(EV.buildSlice (by decide) N5 (by decide) (by decide) (ps:=[(0,.tmp 84)]) (cells:=[i_ x80_5]) (ec Z eN) (by kernel_rfl) (fun b51=>?_))
   refine Aa Z ?_
   obtain⟨c52,hm53⟩:=cs hm50;clear hm50
   refine(Bx (enc:=Af) (xs:=v34_5) (ys:=[x80_5]) ((v34_5++[x80_5])) 1 (by decide) Su Z Z Z Z Z (Bj 0 (rows:=[x80_5].map Af) Z Z (B5 Bf)) Bf (Cz _) Z c52.1 c52.2 (fun u54 hu55=>?_))
   refine wa Z (ns (wf Co Z (wl Gv Z (Own.cell 5 Z Z) (wq Z (Ay Try.underlying23 Z Z (h_l_body.le (hle7.trans hle28)).lenMap) (wm Z (nt ?_))))))
   obtain⟨o56,ho57,hm58⟩:=Ag hm53;clear hm53;obtain⟨n59,ho60⟩:=A0 ho57
   refine Ci (H2:=[blk b51 [i_ x80_5] 3,vec u54 3 1 (List.map Af (v34_5++[x80_5])),kn M w.heap.size K0 X28.2,blk b3 [i_ k_.pace,i_ k_.stages,v_k__ops] 31,blk b2 t.cells 28,blk b1 [v_l_logs,v_l_body,v_l_outs] 25]) (τ:=[u_ 4 _,u_ 10 _,u_ 16 _,u_ 17 _,u_ 79 _,u_ 80 _,u_ 89 _]) (fun (x90_6:Int)=>[(90,(true,i_ x90_6))]) (fun x90_6=>[]) (fun x90_6 m=>B3 (En l y9 x80_5) m x90_6=some o56) (fun x90_6=>o56=.go x90_6) 0 n59 ho60 ⟨Z,Z,Z,Z,Z,Z,Z,Z,trivial⟩ (pk [0,1,2,3,4,5]) ?_ ?_
   ·skip
    rintro x90_6 rfl
    refine WQ.block (WQ.then (WC.region ?_))
    obtain⟨c61,hm62⟩:=cs hm58;clear hm58
    refine wq Z (QV.add Z Z Z Z c61) (wm Z (WL.nil ?_))
    exact C4 (v34_5++[x80_5]) (x80_5+1) u54 m45 ⟨Ax hm62 hn48,hu55⟩ (Nat.lt_succ_self _) ⟨Z,Z,Z,Z,Z,trivial⟩ (pk [1,2,3,4,5])
   rintro x90_6 m63 hI64
   obtain⟨m65,s66,rfl,hm67,hn68⟩:=Ap hI64;clear hI64;unfold En at hm67
   refine sr (wq Z (QV.lss Z Z Z Z) (nt (WC.seq ?_)))
   refine wc Z hm67 (fun h69 hm70=>?_) (fun h69 hm79=>?_) <;> clear hm67
   ·skip
    refine sk (WQ.then (WC.seq (WC.block (sr (wm Z (wa Z (ns (wm Z (wm Z (wm Z ?_))))))))))
    obtain⟨x71,hx72,hm73⟩:=Ag hm70;clear hm70
    refine wq Z (QV.call en63 (ec Z (ec Z (ec Z eN))) (fun w hw=>have h:=Ss w hx72 ((Ah 2 Z hk (hA18_2.le hle28)) w hw) ((Ah 2 Z hk (hA18_3.le hle28)) w hw) ((Ah 2 Z hk (hA18_4.le hle28)) w hw) ((Ah 2 Z hk (hA18_5.le hle28)) w hw) ((Ah 2 Z hk (hA18_6.le hle28)) w hw) (Am 2 Z hk (hC18.le hle28) w hw);h)) (wq Z (QV.not Z Z) (nt ?_))
    refine wc Z hm73 (fun h74 hm75=>?_) (fun h74 hm76=>?_) <;> clear hm73
    ·skip
     refine sr (wa Z (wa Z (nt (WC.ret (kr (tr (tr (kr (tr (kr (tr (tr (kr (tr (tr ?_)))))))))))))))
     obtain rfl:=Cy hm75 hn68
     obtain rfl:=Cy hm58 hn48
     obtain rfl:=(Ae hm37).symm
     refine Dn Z Z Z (fun w hw=>?_)
     exact⟨(.pointer none,X28.2),Z,hw.pick [2] (by decide),LayAt.none⟩
    refine sk (WQ.block (WQ.then (WC.region ?_)))
    obtain⟨c77,hm78⟩:=cs hm76;clear hm76
    refine wq Z (QV.add Z Z Z Z c77) (wm Z (WL.nil ?_))
    exact Ch (x90_6+1) m65 (Ax hm78 hn68) (Nat.lt_succ_self _) ⟨Z,Z,Z,Z,Z,Z,Z,Z,trivial⟩ (pk [0,1,2,3,4,5])
   refine WC.exit (te (te (Ai ?_)))
   exact C7 x90_6 (A6 hm79 hn68) ⟨Z,Z,Z,Z,Z,Z,Z,Z,trivial⟩ (pk [0,1,2,3,4,5])
  refine WC.exit (te (te (Ai ?_)))
  exact Gw v34_5 x80_5 uv34_5 ⟨A6 hm80 hn48,hlv34_5⟩ ⟨Z,Z,Z,Z,Z,trivial⟩ (pk [0,1,2,3,4])
 rintro x46_1 m81 hI82
 obtain⟨m83,s84,rfl,hm85,hn86⟩:=Ap hI82;clear hI82;unfold Dw at hm85
 refine sr (wq Z (QV.lss Z Z Z Z) (nt (WC.seq ?_)))
 refine wc Z hm85 (fun h87 hm88=>?_) (fun h87 hm113=>?_) <;> clear hm85
 ·skip
  refine sk (WQ.then (WC.seq (WC.block (sr ?_))))
  obtain⟨c89,hm90⟩:=cs hm88;clear hm88
  obtain⟨p91,hp92⟩:=hF28.lenMap.ix (sz:=4) Au c89
  refine wq Z (Ad Sx Z Z Z Z hp92) (wq Z (Ac Uc Z Z Z (fun w hw=>((Ah 0 Z hk hF28) w hw).ele hp92 c89)) (Aa Z ?_))
  refine(EV.alloc (by decide) Ad3 (fun b93=>?_))
  refine Aa Z ?_
  refine(EV.store 0 Z Z Z Z Z Z (vs:=(Edg.cells (ele x25.1 x46_1))) (show Value.cells _=List.toArray _ from Z) Z4 (nl Z) (oc Z (oc Z (oc Z (oc Z Aw)))) ?_)
  refine nt (WC.seq (B9 (m:=26) (S:=Own M w [kn M w.heap.size K0 X28.2,blk b93 (Edg.cells (ele x25.1 x46_1)) 71,blk b3 [i_ k_.pace,i_ k_.stages,v_k__ops] 31,blk b2 t.cells 28,blk b1 [v_l_logs,v_l_body,v_l_outs] 25]) (by kernel_rfl) (by kernel_rfl) (pk [1,0,2,3,4]) (zm 0 Z Z (wz 1 Z Z (QV.nilCheck Z Z) (zf 2 Uf Z Z (zl 3 Du Z Z (fun w hw=>CellsAt.one 5 ((Am 0 Z hk (hC18.le hle28)) w hw) Z) (zf 4 Sd Z Z (zl 5 pl3 Z Z (Own.cell 1 Z Z) ?_))))))))
  obtain⟨c94,hm95⟩:=cs hm90;clear hm90
  obtain⟨p96,hp97⟩:=(hA18_4.le hle28).lenMap.ix (sz:=1) Au c94
  refine wz 6 Z Z (Ad Ei Z Z Z Z hp97) (zl 7 pl3 Z Z (fun w hw=>CellsAt.one 0 (((Ah 0 Z hk (hA18_4.le hle28)) w hw).ele hp97 c94) Z) (zf 8 Ui Z Z (zl 9 pl3 Z Z (Own.cell 1 Z Z) (zf 10 P5 Z Z (zl 11 pl3 Z Z (Own.cell 2 Z Z) ?_)))))
  obtain⟨c98,c100,c102,hm103⟩:=cs3 hm95;clear hm95
  refine wz 12 Z Z (QV.mul Z Z Z Z c98) (wz 13 Z Z (QV.add Z Z Z Z c100) (zm 14 Z Z (wz 15 Z Z (QV.nilCheck Z Z) (zf 16 Uf Z Z (zl 17 Du Z Z (fun w hw=>CellsAt.one 5 ((Am 0 Z hk (hC18.le hle28)) w hw) Z) (zf 18 P4 Z Z (zl 19 pl3 Z Z (Own.cell 1 Z Z) ?_)))))))
  obtain⟨p104,hp105⟩:=(hA18_4.le hle28).lenMap.ix (sz:=1) Au c102
  refine wz 20 Z Z (Ad Ei Z Z Z Z hp105) (zl 21 pl3 Z Z (fun w hw=>CellsAt.one 0 (((Ah 0 Z hk (hA18_4.le hle28)) w hw).ele hp105 c102) Z) (zf 22 Uh Z Z (zl 23 pl3 Z Z (Own.cell 1 Z Z) ?_)))
  obtain⟨c106,hm107⟩:=cs hm103;clear hm103
  refine wz 24 Z Z (QV.add Z Z Z Z c106) (wz 25 Z Z (QV.lss Z Z Z Z) ?_)
  refine WD.e (by kernel_rfl) ?_
  refine WQ.then ?_
  refine wc Z hm107 (fun h108 hm109=>?_) (fun h108 hm110=>?_) <;> clear hm107
  ·skip
   refine sr (wa Z (wa Z (nt (WC.ret (kr (tr (tr (kr (tr (tr ?_))))))))))
   obtain rfl:=Cy hm109 hn86
   obtain rfl:=(Ae hm31).symm
   refine Dn Z Z Z (fun w hw=>?_)
   exact⟨(.pointer none,X28.2),Z,hw.pick [1] (by decide),LayAt.none⟩
  refine sk (WQ.block (WQ.then (WC.region ?_)))
  obtain⟨c111,hm112⟩:=cs hm110;clear hm110
  refine wq Z (QV.add Z Z Z Z c111) (wm Z (WL.nil ?_))
  exact Ch (x46_1+1) m83 (Ax hm112 hn86) (Nat.lt_succ_self _) ⟨Z,Z,Z,Z,Z,Z,trivial⟩ (pk [1,2,3,4])
 refine WC.exit (te (te (Ai ?_)))
 exact C7 x46_1 (A6 hm113 hn86) ⟨Z,Z,Z,Z,Z,Z,trivial⟩ (pk [0,1,2,3])
theorem Yo {v_l_logs v_l_body v_l_outs v_k__ops v_order:Value}{l:Lp}{t:Tgt}{k_:Krn}{order:List Int}{r:Bool} (w:World) (hm:Jx l t k_ order=some r) (h_l_logs:Arr w v_l_logs 1 (l.logs.map Af)) (h_l_body:Arr w v_l_body 9 (l.body.map Stm.cells)) (h_l_outs:Arr w v_l_outs 1 (l.outs.map Af)) (h_k__ops:Arr w v_k__ops 10 (k_.ops.map Opr.cells)) (h_order:Arr w v_order 1 (order.map Af)):Calls Try.prog 7 #[.agg #[v_l_logs,v_l_body,v_l_outs],.agg #[.int .i64 t.u0,.int .i64 t.u1,.int .i64 t.u2,.int .i64 t.w0,.int .i64 t.w1,.int .i64 t.w2,.int .i64 t.regs],.agg #[.int .i64 k_.pace,.int .i64 k_.stages,v_k__ops],v_order] w (fun e w'=>e=.returned (.bool r)∧Grow w w'):=by
 unfold Jx at hm
 have hk:=Base.rfl (w:=w)
 refine Ak (n:=20) (args:=[.agg #[v_l_logs,v_l_body,v_l_outs],.agg #[i_ t.u0,i_ t.u1,i_ t.u2,i_ t.w0,i_ t.w1,i_ t.w2,i_ t.regs],.agg #[i_ k_.pace,i_ k_.stages,v_k__ops],v_order]) Try.func7 Z Z (nl Z) ?_ (An hk (Own.start w))
 refine sr (Aa Z ?_)
 refine(Aq (by decide) Z Z (fun b1=>?_))
 refine Aa Z ?_
 refine(Aq (by decide) Z Z (fun b2=>?_))
 refine Aa Z ?_
 refine(Aq (by decide) Z Z (fun b3=>?_))
 refine wa Z (ns (wq Z (Ac Fh Z Z Z (Ab 2 Z)) (wq Z (Ac Gk Z Z Z (Ab 1 Z)) (wq Z (Ac Kj Z Z Z (Ab 0 Z)) (wm Z (Aa Z ?_))))))
 obtain⟨x4,hx5,hm6⟩:=Ag hm;clear hm
 refine EV.of (C':=Own noM w [kn noM w.heap.size w w,blk b3 [i_ k_.pace,i_ k_.stages,v_k__ops] 31,blk b2 t.cells 28,blk b1 [v_l_logs,v_l_body,v_l_outs] 25]) (pk [3,0,1,2]) ?_
 refine(A4 (X:=Value×World) (R:=[]) (fun X=>.tuple #[X.1,.bool x4.2]) (fun X=>[]) (fun X=>X.2) (fun X=>LayAt X.2 X.1 x4.1) hk (fun _ h=>by cases h;decide) en28 (ec Z (ec Z (ec Z (ec Z eN)))) (fun M w h1 h2=>have h:=Ny hx5 h_l_logs h_l_body h_l_outs h_k__ops h_order M w h1 h2;h) (fun X7 hF7 hle7=>?_))
 rcases hE8:x4.1 with _ | y9
 ·skip
  have hm10:=Q7 hE8 hm6;clear hm6
  obtain⟨c11,hm12⟩:=cs hm10;clear hm10
  have e13:=LayAt.nil hF7 hE8
  rw[e13,c11]
  refine wm Z (wq Z (QV.extract Z Z Z) (wq Z (QV.extract Z Z Z) (wa Z (wa Z (ns (wm Z (wa Z (nt (WC.ret ?_)))))))))
  obtain rfl:=(Ae hm12).symm
  exact Ar Z Z fun w hw=>kg hw
 have hm14:=Q6 hE8 hm6;clear hm6
 obtain⟨p15,u15_1,u15_2,u15_3,u15_4,u15_5,u15_6,hP15,hC15,hA15_1,hA15_2,hA15_3,hA15_4,hA15_5,hA15_6⟩:=LayAt.at hF7 hE8
 rw[hP15]
 refine wm Z (wq Z (QV.extract Z Z Z) (wq Z (QV.extract Z Z Z) (wa Z (wa Z (ns (wm Z (wa Z (nt (WC.ret ?_)))))))))
 obtain rfl:=(Ae hm14).symm
 exact Ar Z Z fun w hw=>kg hw
end Go.Proofs.Ytaimbkndebaaiac
end
section
namespace Go.Proofs.Ytaimbkndebaaiac
open Go.Rd
open TNum TLoop TStable TMach TMach2 TKern TClone TNbr TSeq TKRun TKeep TOrd TCpt TDep TSched1 TEmit TCheck
namespace TRegs
theorem en108:Go.Rd.Enters Try.prog 108:=eT Try.func108
theorem en109:Go.Rd.Enters Try.prog 109:=eT Try.func109
theorem en110:Go.Rd.Enters Try.prog 110:=eT Try.func110
theorem Aog:Go.Rd.Enters Try.prog 111:=eT Try.func111
theorem Aob:Go.Rd.Enters Try.prog 126:=eT Try.func126
end TRegs
open TRegs
theorem Yk {v_l_logs v_l_body v_l_outs v_p_times:Value}{l:Lp}{t:Tgt}{p:Pln}{r:(List Int×List Stm×List Int×Int×Int×List Int×List Int×List Int)}{K0:World} (hm:Jv l t p=some r) (h_l_logs:Arr K0 v_l_logs 1 (l.logs.map Af)) (h_l_body:Arr K0 v_l_body 9 (l.body.map Stm.cells)) (h_l_outs:Arr K0 v_l_outs 1 (l.outs.map Af)) (h_p_times:Arr K0 v_p_times 1 (p.times.map Af)) (M:Nat→Prop) (w:World) (hk:Base M K0 w) (hw0:Own M w [] w):Calls Try.prog 108 #[.agg #[v_l_logs,v_l_body,v_l_outs],.agg #[.int .i64 t.u0,.int .i64 t.u1,.int .i64 t.u2,.int .i64 t.w0,.int .i64 t.w1,.int .i64 t.w2,.int .i64 t.regs],.agg #[.int .i64 p.pace,v_p_times]] w (fun e w'=>∃ X:Nat×Value×Value×Value×Value×Value×Value×World,e=.returned (.pointer (some (⟨X.1,0,none⟩)))∧Own M w (kn M w.heap.size K0 X.2.2.2.2.2.2.2::[blk X.1 [X.2.1,X.2.2.1,X.2.2.2.1,.int .i64 r.2.2.2.1,.int .i64 r.2.2.2.2.1,X.2.2.2.2.1,X.2.2.2.2.2.1,X.2.2.2.2.2.2.1] 87,vec X.2.2.2.2.2.2.1 3 1 (List.map Af r.2.2.2.2.2.2.2)]) w'∧Arr X.2.2.2.2.2.2.2 X.2.1 1 (r.1.map Af)∧Arr X.2.2.2.2.2.2.2 X.2.2.1 9 (r.2.1.map Stm.cells)∧Arr X.2.2.2.2.2.2.2 X.2.2.2.1 1 (r.2.2.1.map Af)∧Arr X.2.2.2.2.2.2.2 X.2.2.2.2.1 1 (r.2.2.2.2.2.1.map Af)∧Arr X.2.2.2.2.2.2.2 X.2.2.2.2.2.1 1 (r.2.2.2.2.2.2.1.map Af)∧SliceLen X.2.2.2.2.2.2.1 (r.2.2.2.2.2.2.2).length):=by
 unfold Jv at hm
 refine Ak (n:=52) (args:=[.agg #[v_l_logs,v_l_body,v_l_outs],.agg #[i_ t.u0,i_ t.u1,i_ t.u2,i_ t.w0,i_ t.w1,i_ t.w2,i_ t.regs],.agg #[i_ p.pace,v_p_times]]) Try.func108 Z Z (nl Z) ?_ (An hk hw0)
 refine sr (Aa Z ?_)
 refine(Aq (by decide) Z Z (fun b1=>?_))
 refine Aa Z ?_
 refine(Aq (by decide) Z Z (fun b2=>?_))
 refine Aa Z ?_
 refine(Aq (by decide) Z Z (fun b3=>?_))
 refine wa Z (nt (WC.seq (B9 (m:=14) (S:=Own M w [kn M w.heap.size K0 K0,blk b3 [i_ p.pace,v_p_times] 91,blk b2 t.cells 28,blk b1 [v_l_logs,v_l_body,v_l_outs] 25]) (by kernel_rfl) (by kernel_rfl) (pk [3,0,1,2]) (wz 0 Z Z (Ac Fh Z Z Z (Ab 3 Z)) (zf 1 J3 Z Z (zl 2 pl3 Z Z (Own.cell 1 Z Z) (zf 3 H8 Z Z (zl 4 pl3 Z Z (Own.cell 2 Z Z) (zf 5 Jl Z Z (zl 6 Du Z Z (Own.cell 1 Z Z) ?_))))))))))
 refine zf 7 Co Z Z (zl 8 Gv Z Z (Own.cell 3 Z Z) (wz 9 Z Z (Ay Try.underlying23 Z Z h_l_body.lenMap) ?_))
 refine WD.o 10 Z (by kernel_rfl) Z ?_
 obtain⟨c4,c6,hm7⟩:=cs2 hm;clear hm
 refine(EV.makeSlice (enc:=Af) (0:Int) (by decide) Su ze3 Z Z c4 Z c6 (fun u8 hu9=>?_))
 refine WD.b (H':=[kn M w.heap.size K0 K0,vec u8 3 1 (List.map Af (List.replicate (ln l.body).toNat (0:Int))),blk b3 [i_ p.pace,v_p_times] 91,blk b2 t.cells 28,blk b1 [v_l_logs,v_l_body,v_l_outs] 25]) (pk [4,0,1,2,3]) (pk [0,2,3,4]) ?_
 refine wz 11 Z Z (Ml (ps:=[(0,.tmp 10),(1,.tmp 12),(2,.tmp 14),(3,.tmp 16),(5,.tmp 20)]) (cells:=[v_l_logs,v_l_body,v_l_outs,i_ p.pace,i_ t.regs,v_p_times,.slice none 0 0,u8]) (css:=[[v_l_logs,v_l_body,v_l_outs],[i_ p.pace],[i_ t.regs],[v_p_times],[u8]]) (ec Z (ec Z (ec Z (ec Z (ec Z eN))))) (CellsAll.cons Z (CellsAll.cons Z (CellsAll.cons Z (CellsAll.cons (SliceLen.cells h_p_times.lenMap) (CellsAll.cons (SliceLen.cells hu9) CellsAll.nil))))) (by kernel_rfl)) ?_
 refine WD.o 12 Z (by kernel_rfl) Z ?_
 refine(Aq (by decide) Z Z (fun b11=>?_))
 refine WD.b (H':=[kn M w.heap.size K0 K0,blk b11 [v_l_logs,v_l_body,v_l_outs,i_ p.pace,i_ t.regs,v_p_times,.slice none 0 0,u8] 87,vec u8 3 1 (List.map Af (List.replicate (ln l.body).toNat (0:Int))),blk b3 [i_ p.pace,v_p_times] 91,blk b2 t.cells 28,blk b1 [v_l_logs,v_l_body,v_l_outs] 25]) (pk [5,0,1,2,3,4]) (pk [0,2,3,4,5]) ?_
 refine wz 13 Z Z (QV.assign Z Z) ?_
 refine WD.e (by kernel_rfl) ?_
 refine WQ.then (WC.seq (sr (wf Co Z (wl Gv Z (Own.cell 4 Z Z) (wq Z (Ay Try.underlying23 Z Z h_l_body.lenMap) (wm Z (nt ?_)))))))
 refine WK.of (fun w hw=>hw.vecNil (E:=3) (sz:=1) (enc:=Af)) ?_
 obtain⟨o13,ho14,hm15⟩:=Ag hm7;clear hm7;obtain⟨n16,ho17⟩:=A0 ho14
 refine D2 (H2:=[vec u8 3 1 (List.map Af (List.replicate (ln l.body).toNat (0:Int))),blk b3 [i_ p.pace,v_p_times] 91,blk b2 t.cells 28,blk b1 [v_l_logs,v_l_body,v_l_outs] 25,kn M w.heap.size K0 K0]) (τ:=[u_ 4 _,u_ 5 _,u_ 7 _,u_ 24 _,u_ 25 _]) (fun (v12_1:List Int) (x26_1:Int) (uv12_1:Value)=>[(26,(true,i_ x26_1))]) (fun v12_1 x26_1 uv12_1=>[vec uv12_1 3 1 (List.map Af v12_1),blk b11 [v_l_logs,v_l_body,v_l_outs,i_ p.pace,i_ t.regs,v_p_times,uv12_1,u8] 87]) (fun v12_1 x26_1 uv12_1 m=>B3 (Fu l t p) m (v12_1,x26_1)=some o13∧SliceLen uv12_1 v12_1.length) (fun v12_1 x26_1 uv12_1=>o13=.go (v12_1,x26_1)∧SliceLen uv12_1 v12_1.length) [] 0 (.slice none 0 0) n16 ⟨ho17,SliceLen.nil⟩ ⟨Z,Z,Z,Z,Z,Z,trivial⟩ (pk [0,1,2,3,4,5,6]) ?_ ?_
 ·skip
  rintro v12_1 x26_1 uv12_1 ⟨rfl,hlv12_1⟩
  refine WQ.then (sr (wm Z (wa Z (nt (WC.ret ?_)))))
  obtain rfl:=(Ae hm15).symm
  refine WK.of (C':=Own M w [kn M w.heap.size K0 K0,vec uv12_1 3 1 (List.map Af v12_1),blk b11 [v_l_logs,v_l_body,v_l_outs,i_ p.pace,i_ t.regs,v_p_times,uv12_1,u8] 87,vec u8 3 1 (List.map Af (List.replicate (ln l.body).toNat (0:Int))),blk b3 [i_ p.pace,v_p_times] 91,blk b2 t.cells 28,blk b1 [v_l_logs,v_l_body,v_l_outs] 25]) (pk [6,0,1,2,3,4,5]) ?_
  refine WK.freeze hk (fun k18 hle18 hr18=>?_)
  have hA18:=Cf hr18
  refine Ar Z Z (fun w hw=>?_)
  exact⟨(b11,v_l_logs,v_l_body,v_l_outs,v_p_times,uv12_1,u8,k18),Z,hw.pick [0,1,2] (by decide),(h_l_logs.le hle18),(h_l_body.le hle18),(h_l_outs.le hle18),(h_p_times.le hle18),hA18,hu9⟩
 rintro v12_1 x26_1 uv12_1 m19 ⟨hI20,hlv12_1⟩
 obtain⟨m21,s22,rfl,hm23,hn24⟩:=Ap hI20;clear hI20;unfold Fu at hm23;simp only at hm23
 refine sr (wq Z (QV.lss Z Z Z Z) (nt (WC.seq ?_)))
 refine wc Z hm23 (fun h25 hm26=>?_) (fun h25 hm48=>?_) <;> clear hm23
 ·skip
  refine sk (WQ.then (WC.seq (WC.block (sr (wm Z ?_)))))
  obtain⟨c27,hm28⟩:=cs hm26;clear hm26
  obtain⟨p29,hp30⟩:=h_l_body.lenMap.ix (sz:=9) Au c27
  refine wq Z (Ad Pp Z Z Z Z hp30) (wq Z (Ac Kk Z Z Z (fun w hw=>((Ah 6 Z hk h_l_body) w hw).ele hp30 c27)) (Aa Z ?_))
  refine(EV.alloc (by decide) Nz (fun b31=>?_))
  refine wa Z (Aa Z ?_)
  refine(EV.store 0 Z Z Z Z Z Z (vs:=(Stm.cells (ele l.body x26_1))) (show Value.cells _=List.toArray _ from Z) N0 (nl Z) (oc Z (oc Z (oc Z (oc Z (oc Z (oc Z (oc Z (oc Z (oc Z Aw))))))))) ?_)
  refine nt (B9 (m:=20) (S:=Own M w [kn M w.heap.size K0 K0,blk b31 (Stm.cells (ele l.body x26_1)) 81,blk b11 [v_l_logs,v_l_body,v_l_outs,i_ p.pace,i_ t.regs,v_p_times,uv12_1,u8] 87,vec u8 3 1 (List.map Af (List.replicate (ln l.body).toNat (0:Int))),blk b3 [i_ p.pace,v_p_times] 91,blk b2 t.cells 28,blk b1 [v_l_logs,v_l_body,v_l_outs] 25]) (by kernel_rfl) (by kernel_rfl) (pk [7,0,2,3,4,5,6]) (zm 0 Z Z (zm 1 Z Z (wz 2 Z Z (QV.nilCheck Z Z) (zf 3 Sa Z Z (zl 4 Du Z Z (Own.cell 2 Z Z) (zf 5 Jl Z Z (zl 6 Du Z Z (Own.cell 4 Z Z) (zm 7 Z Z ?_)))))))))
  obtain⟨c32,hm33⟩:=cs hm28;clear hm28
  obtain⟨p34,hp35⟩:=h_p_times.lenMap.ix (sz:=1) Au c32
  refine wz 8 Z Z (Ad Ei Z Z Z Z hp35) (zl 9 pl3 Z Z (fun w hw=>CellsAt.one 0 (((Ah 0 Z hk h_p_times) w hw).ele hp35 c32) Z) (wz 10 Z Z (Ac Gk Z Z Z (Ab 5 Z)) (zf 11 F2 Z Z (zl 12 pl3 Z Z (Own.cell 1 Z Z) ?_))))
  obtain⟨x36,hx37,hm38⟩:=Ag hm33;clear hm33
  refine wz 13 Z Z (QV.call Ail (ec Z (ec Z eN)) (fun w hw=>have h:=Js w hx37 ;h)) ?_
  obtain⟨c39,c42,c46,hm47⟩:=cs3 hm38;clear hm38
  refine wz 14 Z Z (QV.add Z Z Z Z c39) ?_
  refine WD.o 15 Z (by kernel_rfl) Z ?_
  refine(EV.buildSlice (by decide) N5 (by decide) (by decide) (ps:=[(0,.tmp 45)]) (cells:=[i_ ((ele p.times x26_1)+x36)]) (ec Z eN) (by kernel_rfl) (fun b41=>?_))
  refine WD.b (H':=[kn M w.heap.size K0 K0,blk b41 [i_ ((ele p.times x26_1)+x36)] 3,blk b31 (Stm.cells (ele l.body x26_1)) 81,blk b11 [v_l_logs,v_l_body,v_l_outs,i_ p.pace,i_ t.regs,v_p_times,uv12_1,u8] 87,vec u8 3 1 (List.map Af (List.replicate (ln l.body).toNat (0:Int))),blk b3 [i_ p.pace,v_p_times] 91,blk b2 t.cells 28,blk b1 [v_l_logs,v_l_body,v_l_outs] 25]) (pk [8,0,1,3,4,5,6,7]) (pk [0,2,3,4,5,6,7]) ?_
  refine WD.o 16 Z (by kernel_rfl) Z ?_
  refine(Bx (enc:=Af) (xs:=v12_1) (ys:=[((ele p.times x26_1)+x36)]) ((v12_1++[((ele p.times x26_1)+x36)])) 2 (by decide) Su Z Z Z Z Z (Bj 0 (rows:=[((ele p.times x26_1)+x36)].map Af) Z Z (B5 Bf)) Bf (Cz _) Z c42.1 c42.2 (fun u44 hu45=>?_))
  refine WD.b (H':=[kn M w.heap.size K0 K0,blk b41 [i_ ((ele p.times x26_1)+x36)] 3,blk b31 (Stm.cells (ele l.body x26_1)) 81,vec u44 3 1 (List.map Af (v12_1++[((ele p.times x26_1)+x36)])),blk b11 [v_l_logs,v_l_body,v_l_outs,i_ p.pace,i_ t.regs,v_p_times,uv12_1,u8] 87,vec u8 3 1 (List.map Af (List.replicate (ln l.body).toNat (0:Int))),blk b3 [i_ p.pace,v_p_times] 91,blk b2 t.cells 28,blk b1 [v_l_logs,v_l_body,v_l_outs] 25]) (pk [8,0,1,2,3,4,5,6,7]) (pk [0,1,2,4,5,6,7,8]) ?_
  refine wz 17 Z Z (QV.nilCheck Z Z) (zf 18 Sa Z Z ?_)
  refine WD.l 19 Z (by kernel_rfl) Z ?_
  refine(EV.store 3 Z Z Z Z Z Z (vs:=[u44]) (SliceLen.cells hu45) Aby (nl Z) (oc (SliceLen.one hu45) Aw) ?_)
  refine WQ.block (WQ.then (WC.region (wq Z (QV.add Z Z Z Z c46) (wm Z (WL.nil ?_)))))
  exact C4 (v12_1++[((ele p.times x26_1)+x36)]) (x26_1+1) u44 m21 ⟨Ax hm47 hn24,hu45⟩ (Nat.lt_succ_self _) ⟨Z,Z,Z,Z,Z,Z,trivial⟩ (pk [2,3,4,5,6,7,8])
 refine WC.exit (te (te (Ai ?_)))
 exact Gw v12_1 x26_1 uv12_1 ⟨A6 hm48 hn24,hlv12_1⟩ ⟨Z,Z,Z,Z,Z,Z,trivial⟩ (pk [0,1,2,3,4,5,6])
theorem Vf {p_y:Addr}{v_y_Loop_Logs v_y_Loop_Body v_y_Loop_Outs v_y_Time v_y_Ready v_y_Places:Value}{y_Loop_Logs:List Int}{y_Loop_Body:List Stm}{y_Loop_Outs:List Int}{y_Pace y_Regs:Int}{y_Time y_Ready y_Places:List Int}{k_:Int}{r:Bool} (w:World) (hm:G6 y_Loop_Logs y_Loop_Body y_Loop_Outs y_Pace y_Regs y_Time y_Ready y_Places k_=some r) (h_y_Loop_Logs:Arr w v_y_Loop_Logs 1 (y_Loop_Logs.map Af)) (h_y_Loop_Body:Arr w v_y_Loop_Body 9 (y_Loop_Body.map Stm.cells)) (h_y_Loop_Outs:Arr w v_y_Loop_Outs 1 (y_Loop_Outs.map Af)) (h_y_Time:Arr w v_y_Time 1 (y_Time.map Af)) (h_y_Ready:Arr w v_y_Ready 1 (y_Ready.map Af)) (h_y_Places:Arr w v_y_Places 1 (y_Places.map Af)) (hp_y:CellsAt w p_y [v_y_Loop_Logs,v_y_Loop_Body,v_y_Loop_Outs,.int .i64 y_Pace,.int .i64 y_Regs,v_y_Time,v_y_Ready,v_y_Places] 0):Calls Try.prog 126 #[.pointer (some p_y),.int .i64 k_] w (fun e w'=>e=.returned (.bool r)∧Grow w w'):=by
 unfold G6 at hm
 have hk:=Base.rfl (w:=w)
 refine Ak (n:=32) (args:=[.pointer (some p_y),i_ k_]) Try.func126 Z Z (nl Z) ?_ (An hk (Own.start w))
 refine sr (wa Z (ns (wa Z (nt (WC.seq (sr (wm Z ?_)))))))
 obtain⟨c1,hm2⟩:=cs hm;clear hm
 refine wq Z (QV.add Z Z Z Z c1) (wm Z (nt ?_))
 refine WK.of (fun w hw=>hw.vecNil (E:=3) (sz:=1) (enc:=Af)) ?_
 obtain⟨o4,ho5,hm6⟩:=Ag hm2;clear hm2;obtain⟨n7,ho8⟩:=A0 ho5
 refine D2 (H2:=[kn noM w.heap.size w w]) (τ:=[u_ 0 _,u_ 1 _,u_ 8 _]) (fun (v3_1:List Int) (x9_1:Int) (uv3_1:Value)=>[(5,(true,uv3_1)),(9,(true,i_ x9_1))]) (fun v3_1 x9_1 uv3_1=>[vec uv3_1 3 1 (List.map Af v3_1)]) (fun v3_1 x9_1 uv3_1 m=>B3 (Gd y_Loop_Body y_Loop_Outs y_Pace y_Regs y_Time y_Ready y_Places k_) m (v3_1,x9_1)=some o4∧SliceLen uv3_1 v3_1.length) (fun v3_1 x9_1 uv3_1=>o4=.go (v3_1,x9_1)∧SliceLen uv3_1 v3_1.length) [] 0 (.slice none 0 0) n7 ⟨ho8,SliceLen.nil⟩ ⟨Z,Z,Z,Z,Z,trivial⟩ (pk [0,1]) ?_ ?_
 ·skip
  rintro v3_1 x9_1 uv3_1 ⟨rfl,hlv3_1⟩
  refine WQ.then (sr (wm Z (wm Z ?_)))
  obtain⟨x9,hx10,hm11⟩:=Ag hm6;clear hm6
  refine wq Z (QV.call en64 (ec Z (ec Z eN)) (fun w hw=>have h:=Vr w hx10 ((Ah 1 Z hk h_y_Loop_Logs) w hw) ((Ah 1 Z hk h_y_Loop_Body) w hw) ((Ah 1 Z hk h_y_Loop_Outs) w hw) ((Ah 1 Z hk h_y_Places) w hw) (Am 1 Z hk hp_y w hw) ((C1 0 Z) w hw);h)) (wa Z (nt (WC.ret ?_)))
  obtain rfl:=(Ae hm11).symm
  exact Ar Z Z fun w hw=>kg hw
 rintro v3_1 x9_1 uv3_1 m12 ⟨hI13,hlv3_1⟩
 obtain⟨m14,s15,rfl,hm16,hn17⟩:=Ap hI13;clear hI13;unfold Gd at hm16;simp only at hm16
 refine sr (wq Z (QV.lss Z Z Z Z) (nt (WC.seq ?_)))
 refine wc Z hm16 (fun h18 hm19=>?_) (fun h18 hm36=>?_) <;> clear hm16
 ·skip
  refine sk (WQ.then (WC.seq (WC.block (sr (wm Z (wa Z (ns (wm Z (wm Z (Aa Z ?_))))))))))
  refine(EV.buildSlice (by decide) N5 (by decide) (by decide) (ps:=[(0,.tmp 13)]) (cells:=[i_ x9_1]) (ec Z eN) (by kernel_rfl) (fun b20=>?_))
  refine Aa Z ?_
  obtain⟨c21,hm22⟩:=cs hm19;clear hm19
  refine(Bx (enc:=Af) (xs:=v3_1) (ys:=[x9_1]) ((v3_1++[x9_1])) 1 (by decide) Su Z Z Z Z Z (Bj 0 (rows:=[x9_1].map Af) Z Z (B5 Bf)) Bf (Cz _) Z c21.1 c21.2 (fun u23 hu24=>?_))
  refine wa Z (ns (wm Z (wm Z (wm Z ?_))))
  obtain⟨x25,hx26,hm27⟩:=Ag hm22;clear hm22
  refine wq Z (QV.call en63 (ec Z (ec Z (ec Z eN))) (fun w hw=>have h:=Ss w hx26 ((Ah 2 Z hk h_y_Loop_Body) w hw) ((Ah 2 Z hk h_y_Loop_Outs) w hw) ((Ah 2 Z hk h_y_Time) w hw) ((Ah 2 Z hk h_y_Ready) w hw) ((Ah 2 Z hk h_y_Places) w hw) (Am 2 Z hk hp_y w hw);h)) (wq Z (QV.not Z Z) (wm Z (gn Z (fun hG=>QV.move Z Z) (gn Z (fun hG=>QV.move Z Z) (gn Z (fun hG=>QV.move Z Z) ?_)))))
  obtain⟨x28,hx29,hm30⟩:=Ce hm27;clear hm27
  refine gn Z (fun hG=>QV.call en63 (EvAll.cons Z hG (EvAll.cons Z hG (EvAll.cons Z hG eN))) (fun w hw=>have h:=Ss w (hx29 hG) ((Ah 2 Z hk h_y_Loop_Body) w hw) ((Ah 2 Z hk h_y_Loop_Outs) w hw) ((Ah 2 Z hk h_y_Time) w hw) ((Ah 2 Z hk h_y_Ready) w hw) ((Ah 2 Z hk h_y_Places) w hw) (Am 2 Z hk hp_y w hw);h)) (gn Z (fun hG=>QV.not Z hG) (wq Z (A2 Z Z Z (fun h=>Dv h)) (nt ?_)))
  refine wc Z hm30 (fun h31 hm32=>?_) (fun h31 hm33=>?_) <;> clear hm30
  ·skip
   refine sr (wa Z (nt (WC.ret (kr (tr (tr (kr (tr (tr ?_)))))))))
   obtain rfl:=Cy hm32 hn17
   obtain rfl:=(Ae hm6).symm
   exact Ar Z Z fun w hw=>kg hw
  refine sk (WQ.block (WQ.then (WC.region ?_)))
  obtain⟨c34,hm35⟩:=cs hm33;clear hm33
  refine wq Z (QV.add Z Z Z Z c34) (wm Z (WL.nil ?_))
  exact C4 (v3_1++[x9_1]) (x9_1+1) u23 m14 ⟨Ax hm35 hn17,hu24⟩ (Nat.lt_succ_self _) ⟨Z,Z,Z,Z,Z,trivial⟩ (pk [1,2])
 refine WC.exit (te (te (Ai ?_)))
 exact Gw v3_1 x9_1 uv3_1 ⟨A6 hm36 hn17,hlv3_1⟩ ⟨Z,Z,Z,Z,Z,trivial⟩ (pk [0,1])
theorem Ty {p_y:Addr}{v_y_Loop_Logs v_y_Loop_Body v_y_Loop_Outs v_y_Time v_y_Ready v_y_Places:Value}{y_Pace y_Regs:Int}{y_Time y_Places r:List Int}{K0:World} (hm:I8 y_Pace y_Regs y_Time y_Places=some r) (h_y_Time:Arr K0 v_y_Time 1 (y_Time.map Af)) (h_y_Places:Arr K0 v_y_Places 1 (y_Places.map Af)) (hp_y:CellsAt K0 p_y [v_y_Loop_Logs,v_y_Loop_Body,v_y_Loop_Outs,.int .i64 y_Pace,.int .i64 y_Regs,v_y_Time,v_y_Ready,v_y_Places] 0) (M:Nat→Prop) (w:World) (hk:Base M K0 w) (hw0:Own M w [] w):Calls Try.prog 111 #[.pointer (some p_y)] w (fun e w'=>∃ X:Value×World,e=.returned (X.1)∧Own M w (kn M w.heap.size K0 X.2::[]) w'∧Arr X.2 X.1 1 (r.map Af)):=by
 unfold I8 at hm
 refine Ak (n:=40) (args:=[.pointer (some p_y)]) Try.func111 Z Z (nl Z) ?_ (An hk hw0)
 refine sr (wa Z (ns (wa Z (nt (WC.seq (sr (wm Z (wq Z (QV.nilCheck Z Z) (wf K9 Z (wl Du Z (fun w hw=>CellsAt.one 7 ((Am 0 Z hk hp_y) w hw) Z) (wq Z (Ay Try.underlying22 Z Z h_y_Places.lenMap) ?_)))))))))))
 refine wm Z (nt ?_)
 refine WK.of (fun w hw=>hw.vecNil (E:=3) (sz:=1) (enc:=Af)) ?_
 obtain⟨o2,ho3,hm4⟩:=Ag hm;clear hm;obtain⟨n5,ho6⟩:=A0 ho3
 refine D2 (H2:=[kn M w.heap.size K0 K0]) (τ:=[u_ 0 _,u_ 9 _,u_ 10 _]) (fun (v1_1:List Int) (x11_1:Int) (uv1_1:Value)=>[(3,(true,uv1_1)),(11,(true,i_ x11_1))]) (fun v1_1 x11_1 uv1_1=>[vec uv1_1 3 1 (List.map Af v1_1)]) (fun v1_1 x11_1 uv1_1 m=>B3 (Gp y_Pace y_Regs y_Time y_Places) m (v1_1,x11_1)=some o2∧SliceLen uv1_1 v1_1.length) (fun v1_1 x11_1 uv1_1=>o2=.go (v1_1,x11_1)∧SliceLen uv1_1 v1_1.length) [] 0 (.slice none 0 0) n5 ⟨ho6,SliceLen.nil⟩ ⟨Z,Z,Z,Z,Z,trivial⟩ (pk [0,1]) ?_ ?_
 ·skip
  rintro v1_1 x11_1 uv1_1 ⟨rfl,hlv1_1⟩
  refine WQ.then (sr (wm Z (wa Z (nt (WC.ret ?_)))))
  obtain rfl:=(Ae hm4).symm
  refine WK.of (C':=Own M w [kn M w.heap.size K0 K0,vec uv1_1 3 1 (List.map Af v1_1)]) (pk [1,0]) ?_
  refine WK.freeze hk (fun k7 hle7 hr7=>?_)
  have hA7:=Cf hr7
  refine Ar Z Z (fun w hw=>?_)
  exact⟨(uv1_1,k7),Z,hw.pick [0] (by decide),hA7⟩
 rintro v1_1 x11_1 uv1_1 m8 ⟨hI9,hlv1_1⟩
 obtain⟨m10,s11,rfl,hm12,hn13⟩:=Ap hI9;clear hI9;unfold Gp at hm12;simp only at hm12
 refine sr (wq Z (QV.lss Z Z Z Z) (nt (WC.seq ?_)))
 refine wc Z hm12 (fun h14 hm15=>?_) (fun h14 hm40=>?_) <;> clear hm12
 ·skip
  refine sk (WQ.then (WC.seq (WC.block (sr (wm Z ?_)))))
  obtain⟨c16,hm17⟩:=cs hm15;clear hm15
  obtain⟨p18,hp19⟩:=h_y_Places.lenMap.ix (sz:=1) Au c16
  refine wq Z (Ad Ei Z Z Z Z hp19) (wl pl3 Z (fun w hw=>CellsAt.one 0 (((Ah 1 Z hk h_y_Places) w hw).ele hp19 c16) Z) (wa Z (wa Z (nt (B9 (m:=23) (S:=Own M w [kn M w.heap.size K0 K0]) (by kernel_rfl) (by kernel_rfl) (pk [1]) (zm 0 Z Z (zm 1 Z Z (zm 2 Z Z (wz 3 Z Z (QV.nilCheck Z Z) ?_)))))))))
  refine zf 4 Uf Z Z (zl 5 Du Z Z (fun w hw=>CellsAt.one 5 ((Am 0 Z hk hp_y) w hw) Z) (zm 6 Z Z ?_))
  obtain⟨c20,hm21⟩:=cs hm17;clear hm17
  obtain⟨p22,hp23⟩:=h_y_Time.lenMap.ix (sz:=1) Au c20
  refine wz 7 Z Z (Ad Ei Z Z Z Z hp23) (zl 8 pl3 Z Z (fun w hw=>CellsAt.one 0 (((Ah 0 Z hk h_y_Time) w hw).ele hp23 c20) Z) (zm 9 Z Z (wz 10 Z Z (QV.nilCheck Z Z) (zf 11 Aah Z Z (zl 12 pl3 Z Z (fun w hw=>CellsAt.one 3 ((Am 0 Z hk hp_y) w hw) Z) ?_)))))
  obtain⟨c24,c26,c28,hm29⟩:=cs3 hm21;clear hm21
  refine wz 13 Z Z (QV.quo Z Z Z Z c24 c26) (wz 14 Z Z (QV.sub Z Z Z Z c28) (zm 15 Z Z (wz 16 Z Z (QV.nilCheck Z Z) (zf 17 Mu Z Z (zl 18 pl3 Z Z (fun w hw=>CellsAt.one 4 ((Am 0 Z hk hp_y) w hw) Z) ?_)))))
  obtain⟨x30,hx31,hm32⟩:=Ag hm29;clear hm29
  refine wz 19 Z Z (QV.call Ain (ec Z (ec Z eN)) (fun w hw=>have h:=L0 w hx31 ;h)) ?_
  refine WD.o 20 Z (by kernel_rfl) Z ?_
  refine(EV.buildSlice (by decide) N5 (by decide) (by decide) (ps:=[(0,.tmp 35)]) (cells:=[i_ x30]) (ec Z eN) (by kernel_rfl) (fun b33=>?_))
  refine WD.b (H':=[kn M w.heap.size K0 K0,blk b33 [i_ x30] 3]) (pk [2,0]) (pk [0]) ?_
  refine WD.o 21 Z (by kernel_rfl) Z ?_
  obtain⟨c34,c38,hm39⟩:=cs2 hm32;clear hm32
  refine(Bx (enc:=Af) (xs:=v1_1) (ys:=[x30]) ((v1_1++[x30])) 1 (by decide) Su Z Z Z Z Z (Bj 0 (rows:=[x30].map Af) Z Z (B5 Bf)) Bf (Cz _) Z c34.1 c34.2 (fun u36 hu37=>?_))
  refine WD.b (H':=[kn M w.heap.size K0 K0,blk b33 [i_ x30] 3,vec u36 3 1 (List.map Af (v1_1++[x30]))]) (pk [2,0,1]) (pk [0,1]) ?_
  refine wz 22 Z Z (QV.assign Z Z) ?_
  refine WD.e (by kernel_rfl) ?_
  refine WQ.block (WQ.then (WC.region (wq Z (QV.add Z Z Z Z c38) (wm Z (WL.nil ?_)))))
  exact C4 (v1_1++[x30]) (x11_1+1) u36 m10 ⟨Ax hm39 hn13,hu37⟩ (Nat.lt_succ_self _) ⟨Z,Z,Z,Z,Z,trivial⟩ (pk [1,2])
 refine WC.exit (te (te (Ai ?_)))
 exact Gw v1_1 x11_1 uv1_1 ⟨A6 hm40 hn13,hlv1_1⟩ ⟨Z,Z,Z,Z,Z,trivial⟩ (pk [0,1])
theorem Abq {v_y_Loop_Logs v_y_Loop_Body v_y_Loop_Outs v_y_Time v_y_Ready v_y_Places:Value}{b_y:Nat}{y_Loop_Logs:List Int}{y_Loop_Body:List Stm}{y_Loop_Outs:List Int}{y_Pace y_Regs:Int}{y_Time y_Ready y_Places:List Int}{r:Bool×List Int}{K0:World} (hm:I7 y_Loop_Logs y_Loop_Body y_Loop_Outs y_Pace y_Regs y_Time y_Ready y_Places=some r) (h_y_Loop_Logs:Arr K0 v_y_Loop_Logs 1 (y_Loop_Logs.map Af)) (h_y_Loop_Body:Arr K0 v_y_Loop_Body 9 (y_Loop_Body.map Stm.cells)) (h_y_Loop_Outs:Arr K0 v_y_Loop_Outs 1 (y_Loop_Outs.map Af)) (h_y_Time:Arr K0 v_y_Time 1 (y_Time.map Af)) (h_y_Ready:Arr K0 v_y_Ready 1 (y_Ready.map Af)) (h_y_Places:SliceLen v_y_Places y_Places.length) (M:Nat→Prop) (w:World) (hk:Base M K0 w) (hw0:Own M w [blk b_y [v_y_Loop_Logs,v_y_Loop_Body,v_y_Loop_Outs,.int .i64 y_Pace,.int .i64 y_Regs,v_y_Time,v_y_Ready,v_y_Places] 87,vec v_y_Places 3 1 (List.map Af y_Places)] w):Calls Try.prog 109 #[.pointer (some (⟨b_y,0,none⟩))] w (fun e w'=>∃ X:Value×World,e=.returned (.bool r.1)∧Own M w (kn M w.heap.size K0 X.2::[blk b_y [v_y_Loop_Logs,v_y_Loop_Body,v_y_Loop_Outs,.int .i64 y_Pace,.int .i64 y_Regs,v_y_Time,v_y_Ready,X.1] 87,vec X.1 3 1 (List.map Af r.2)]) w'∧SliceLen X.1 (r.2).length):=by
 unfold I7 at hm
 refine Ak (n:=46) (args:=[.pointer (some (⟨b_y,0,none⟩))]) Try.func109 Z Z (nl Z) ?_ (An hk hw0)
 refine sr (wa Z (nt (WC.seq (sr (wm Z (wq Z (QV.nilCheck Z Z) (wf Ug Z (wf Co Z (wl Gv Z (Own.cell 1 Z Z) (wq Z (Ay Try.underlying23 Z Z h_y_Loop_Body.lenMap) (wm Z ?_)))))))))))
 refine nt ?_
 obtain⟨o1,ho2,hm3⟩:=Ag hm;clear hm;obtain⟨n4,ho5⟩:=A0 ho2
 refine Bz (H2:=[kn M w.heap.size K0 K0,blk b_y [v_y_Loop_Logs,v_y_Loop_Body,v_y_Loop_Outs,i_ y_Pace,i_ y_Regs,v_y_Time,v_y_Ready,v_y_Places] 87]) (τ:=[u_ 0 _,u_ 9 _]) (fun (own0v7_3:List Int) (x10_3:Int)=>[(10,(true,i_ x10_3))]) (fun own0v7_3 x10_3=>[vec v_y_Places 3 1 (List.map Af own0v7_3)]) (fun own0v7_3 x10_3 m=>B3 (Hs y_Loop_Logs y_Loop_Body y_Loop_Outs y_Pace y_Regs y_Time y_Ready) m (own0v7_3,x10_3)=some o1∧SliceLen v_y_Places own0v7_3.length) (fun own0v7_3 x10_3=>o1=.go (own0v7_3,x10_3)∧SliceLen v_y_Places own0v7_3.length) y_Places 0 n4 ⟨ho5,h_y_Places⟩ ⟨Z,Z,Z,trivial⟩ (pk [2,0,1]) ?_ ?_
 ·skip
  rintro own0v7_3 x10_3 ⟨rfl,hlown0v7_3⟩
  refine WQ.then (sr (wa Z (nt (WC.ret ?_))))
  obtain rfl:=(Ae hm3).symm
  refine Ar Z Z (fun w hw=>?_)
  exact⟨(v_y_Places,K0),Z,hw.pick [1,2,0] (by decide),hlown0v7_3⟩
 rintro own0v7_3 x10_3 m6 ⟨hI7,hlown0v7_3⟩
 obtain⟨m8,s9,rfl,hm10,hn11⟩:=Ap hI7;clear hI7;unfold Hs at hm10;simp only at hm10
 refine sr (wq Z (QV.lss Z Z Z Z) (nt (WC.seq ?_)))
 refine wc Z hm10 (fun h12 hm13=>?_) (fun h12 hm58=>?_) <;> clear hm10
 ·skip
  refine sk (WQ.then (WC.seq (WC.block (sr (wm Z (wa Z (ns (wm Z (wq Z (QV.nilCheck Z Z) (wf K9 Z (wl Du Z (Own.cell 2 Z Z) (wm Z ?_))))))))))))
  obtain⟨c14,hm15⟩:=cs hm13;clear hm13
  obtain⟨p16,hp17⟩:=hlown0v7_3.ix (sz:=1) Au c14
  refine wq Z (Ad Ei Z Z Z Z hp17) (Aa Z ?_)
  refine(Ot 0 0 Ob Z Z Z Z Z hp17 Z Z sz3 ?_)
  have hl18:SliceLen v_y_Places (upd own0v7_3 x10_3 0).length:=Fm hlown0v7_3
  refine nt ?_
  obtain⟨o19,ho20,hm21⟩:=Ag hm15;clear hm15;obtain⟨n22,ho23⟩:=A0 ho20
  refine Ci (H2:=[kn M w.heap.size K0 K0,blk b_y [v_y_Loop_Logs,v_y_Loop_Body,v_y_Loop_Outs,i_ y_Pace,i_ y_Regs,v_y_Time,v_y_Ready,v_y_Places] 87]) (τ:=[u_ 0 _,u_ 3 _,u_ 9 _,u_ 10 _]) (fun (own0v7_4:List Int)=>[]) (fun own0v7_4=>[vec v_y_Places 3 1 (List.map Af own0v7_4)]) (fun own0v7_4 m=>B3 (Dl y_Loop_Logs y_Loop_Body y_Loop_Outs y_Pace y_Regs y_Time y_Ready x10_3) m own0v7_4=some o19∧SliceLen v_y_Places own0v7_4.length) (fun own0v7_4=>o19=.go own0v7_4∧SliceLen v_y_Places own0v7_4.length) (upd own0v7_3 x10_3 0) n22 ⟨ho23,hl18⟩ ⟨Z,Z,Z,Z,trivial⟩ (pk [0,1,2]) ?_ ?_
  ·skip
   rintro own0v7_4 ⟨rfl,hlown0v7_4⟩
   refine WQ.block (WQ.then (WC.region ?_))
   obtain⟨c24,hm25⟩:=cs hm21;clear hm21
   refine wq Z (QV.add Z Z Z Z c24) (wm Z (WL.nil ?_))
   exact Bn own0v7_4 (x10_3+1) m8 ⟨Ax hm25 hn11,hlown0v7_4⟩ (Nat.lt_succ_self _) ⟨Z,Z,Z,trivial⟩ (pk [0,1,2])
  rintro own0v7_4 m26 ⟨hI27,hlown0v7_4⟩
  obtain⟨m28,s29,rfl,hm30,hn31⟩:=Ap hI27;clear hI27;unfold Dl at hm30
  refine WC.seq (sr (wm Z (wm Z ?_)))
  obtain⟨x32,hx33,hm34⟩:=Ag hm30;clear hm30
  refine wq Z (QV.call Aob (ec Z (ec Z eN)) (fun w hw=>have h:=Vf w hx33 ((Ah 1 Z hk h_y_Loop_Logs) w hw) ((Ah 1 Z hk h_y_Loop_Body) w hw) ((Ah 1 Z hk h_y_Loop_Outs) w hw) ((Ah 1 Z hk h_y_Time) w hw) ((Ah 1 Z hk h_y_Ready) w hw) ((C1 0 Z) w hw) (Ab 2 Z w hw);h)) (wq Z (QV.not Z Z) (nt ?_))
  refine wc Z hm34 (fun h35 hm36=>?_) (fun h35 hm57=>?_) <;> clear hm34
  ·skip
   refine sk (WQ.then (WC.seq (WC.block (WC.seq (B9 (m:=13) (S:=Own M w [kn M w.heap.size K0 K0,vec v_y_Places 3 1 (List.map Af own0v7_4),blk b_y [v_y_Loop_Logs,v_y_Loop_Body,v_y_Loop_Outs,i_ y_Pace,i_ y_Regs,v_y_Time,v_y_Ready,v_y_Places] 87]) (by kernel_rfl) (by kernel_rfl) (pk [1,0,2]) (zm 0 Z Z (wz 1 Z Z (QV.nilCheck Z Z) (zf 2 K9 Z Z (zl 3 Du Z Z (Own.cell 2 Z Z) (zm 4 Z Z ?_))))))))))
   obtain⟨c37,hm38⟩:=cs hm36;clear hm36
   obtain⟨p39,hp40⟩:=hlown0v7_4.ix (sz:=1) Au c37
   refine wz 5 Z Z (Ad Ei Z Z Z Z hp40) (zl 6 pl3 Z Z (fun w hw=>CellsAt.one 0 (((C1 1 Z) w hw).ele hp40 c37) Z) ?_)
   obtain⟨c41,hm42⟩:=cs hm38;clear hm38
   refine wz 7 Z Z (QV.add Z Z Z Z c41) (zm 8 Z Z (wz 9 Z Z (QV.nilCheck Z Z) (zf 10 Mu Z Z (zl 11 pl3 Z Z (Own.cell 2 Z Z) (wz 12 Z Z (QV.geq Z Z Z Z) ?_)))))
   refine WD.e (by kernel_rfl) ?_
   refine WQ.then ?_
   refine wc Z hm42 (fun h43 hm44=>?_) (fun h43 hm45=>?_) <;> clear hm42
   ·skip
    refine sr (wa Z (nt (WC.ret (kr (tr (tr (kr (tr (kr (tr (tr (kr (tr (tr ?_))))))))))))))
    obtain rfl:=Cy hm44 hn31
    obtain rfl:=Cy hm21 hn11
    obtain rfl:=(Ae hm3).symm
    refine Ar Z Z (fun w hw=>?_)
    exact⟨(v_y_Places,K0),Z,hw.pick [1,2,0] (by decide),hlown0v7_4⟩
   refine sk (WQ.block (WQ.then (WC.region (wm Z (wq Z (QV.nilCheck Z Z) (wf K9 Z (wl Du Z (Own.cell 2 Z Z) (wm Z ?_))))))))
   obtain⟨c46,hm47⟩:=cs hm45;clear hm45
   obtain⟨p48,hp49⟩:=hlown0v7_4.ix (sz:=1) Au c46
   refine wq Z (Ad Ei Z Z Z Z hp49) (wl pl3 Z (fun w hw=>CellsAt.one 0 (((C1 0 Z) w hw).ele hp49 c46) Z) ?_)
   obtain⟨c50,c52,hm53⟩:=cs2 hm47;clear hm47
   refine wq Z (QV.add Z Z Z Z c50) ?_
   obtain⟨p54,hp55⟩:=hlown0v7_4.ix (sz:=1) Au c52
   refine wq Z (Ad Ei Z Z Z Z hp55) (Aa Z ?_)
   refine(Ot 0 ((ele own0v7_4 x10_3)+1) Ob Z Z Z Z Z hp55 Z Z sz3 ?_)
   have hl56:SliceLen v_y_Places (upd own0v7_4 x10_3 ((ele own0v7_4 x10_3)+1)).length:=Fm hlown0v7_4
   refine WL.nil ?_
   exact Ch (upd own0v7_4 x10_3 ((ele own0v7_4 x10_3)+1)) m28 ⟨Ax hm53 hn31,hl56⟩ (Nat.lt_succ_self _) ⟨Z,Z,Z,Z,trivial⟩ (pk [0,1,2])
  refine WC.exit (te (te (Ai ?_)))
  exact C7 own0v7_4 ⟨A6 hm57 hn31,hlown0v7_4⟩ ⟨Z,Z,Z,Z,trivial⟩ (pk [0,1,2])
 refine WC.exit (te (te (Ai ?_)))
 exact Cb own0v7_3 x10_3 ⟨A6 hm58 hn11,hlown0v7_3⟩ ⟨Z,Z,Z,trivial⟩ (pk [0,1,2])
theorem Yj {v_y_Loop_Logs v_y_Loop_Body v_y_Loop_Outs v_y_Time v_y_Ready v_y_Places:Value}{b_y:Nat}{y_Loop_Logs:List Int}{y_Loop_Body:List Stm}{y_Loop_Outs:List Int}{y_Pace y_Regs:Int}{y_Time y_Ready y_Places:List Int}{r:Bool×List Int}{K0:World} (hm:Hr y_Loop_Logs y_Loop_Body y_Loop_Outs y_Pace y_Regs y_Time y_Ready y_Places=some r) (h_y_Loop_Logs:Arr K0 v_y_Loop_Logs 1 (y_Loop_Logs.map Af)) (h_y_Loop_Body:Arr K0 v_y_Loop_Body 9 (y_Loop_Body.map Stm.cells)) (h_y_Loop_Outs:Arr K0 v_y_Loop_Outs 1 (y_Loop_Outs.map Af)) (h_y_Time:Arr K0 v_y_Time 1 (y_Time.map Af)) (h_y_Ready:Arr K0 v_y_Ready 1 (y_Ready.map Af)) (h_y_Places:SliceLen v_y_Places y_Places.length) (M:Nat→Prop) (w:World) (hk:Base M K0 w) (hw0:Own M w [blk b_y [v_y_Loop_Logs,v_y_Loop_Body,v_y_Loop_Outs,.int .i64 y_Pace,.int .i64 y_Regs,v_y_Time,v_y_Ready,v_y_Places] 87,vec v_y_Places 3 1 (List.map Af y_Places)] w):Calls Try.prog 110 #[.pointer (some (⟨b_y,0,none⟩))] w (fun e w'=>∃ X:Value×World,e=.returned (.bool r.1)∧Own M w (kn M w.heap.size K0 X.2::[blk b_y [v_y_Loop_Logs,v_y_Loop_Body,v_y_Loop_Outs,.int .i64 y_Pace,.int .i64 y_Regs,v_y_Time,v_y_Ready,X.1] 87,vec X.1 3 1 (List.map Af r.2)]) w'∧SliceLen X.1 (r.2).length):=by
 unfold Hr at hm
 refine Ak (n:=37) (args:=[.pointer (some (⟨b_y,0,none⟩))]) Try.func110 Z Z (nl Z) ?_ (An hk hw0)
 refine sr (wa Z (nt (WC.seq (sr (wm Z (wq Z (QV.nilCheck Z Z) (wf Ug Z (wf Co Z (wl Gv Z (Own.cell 1 Z Z) (wq Z (Ay Try.underlying23 Z Z h_y_Loop_Body.lenMap) (wm Z ?_)))))))))))
 refine nt ?_
 obtain⟨o1,ho2,hm3⟩:=Ag hm;clear hm;obtain⟨n4,ho5⟩:=A0 ho2
 refine Bz (H2:=[kn M w.heap.size K0 K0,blk b_y [v_y_Loop_Logs,v_y_Loop_Body,v_y_Loop_Outs,i_ y_Pace,i_ y_Regs,v_y_Time,v_y_Ready,v_y_Places] 87]) (τ:=[u_ 0 _,u_ 10 _]) (fun (own0v7_1:List Int) (x11_1:Int)=>[(11,(true,i_ x11_1))]) (fun own0v7_1 x11_1=>[vec v_y_Places 3 1 (List.map Af own0v7_1)]) (fun own0v7_1 x11_1 m=>B3 (Ft y_Loop_Body) m (own0v7_1,x11_1)=some o1∧SliceLen v_y_Places own0v7_1.length) (fun own0v7_1 x11_1=>o1=.go (own0v7_1,x11_1)∧SliceLen v_y_Places own0v7_1.length) y_Places 0 n4 ⟨ho5,h_y_Places⟩ ⟨Z,Z,Z,trivial⟩ (pk [2,0,1]) ?_ ?_
 ·skip
  rintro own0v7_1 x11_1 ⟨rfl,hlown0v7_1⟩
  refine WQ.then (WC.seq (sr (wm Z (wq Z (QV.nilCheck Z Z) (wf Ug Z (wf Co Z (wl Gv Z (Own.cell 2 Z Z) (wq Z (Ay Try.underlying23 Z Z h_y_Loop_Body.lenMap) (wm Z (nt ?_))))))))))
  obtain⟨o6,ho7,hm8⟩:=Ag hm3;clear hm3;obtain⟨n9,ho10⟩:=A0 ho7
  refine Ci (H2:=[vec v_y_Places 3 1 (List.map Af own0v7_1),kn M w.heap.size K0 K0,blk b_y [v_y_Loop_Logs,v_y_Loop_Body,v_y_Loop_Outs,i_ y_Pace,i_ y_Regs,v_y_Time,v_y_Ready,v_y_Places] 87]) (τ:=[u_ 0 _,u_ 28 _]) (fun (x29_2:Int)=>[(29,(true,i_ x29_2))]) (fun x29_2=>[]) (fun x29_2 m=>B3 (El y_Loop_Logs y_Loop_Body y_Loop_Outs y_Pace y_Regs y_Time y_Ready own0v7_1) m x29_2=some o6) (fun x29_2=>o6=.go x29_2) 0 n9 ho10 ⟨Z,Z,Z,trivial⟩ (pk [0,1,2]) ?_ ?_
  ·skip
   rintro x29_2 rfl
   refine WQ.then (sr (wa Z (nt (WC.ret ?_))))
   obtain rfl:=(Ae hm8).symm
   refine Ar Z Z (fun w hw=>?_)
   exact⟨(v_y_Places,K0),Z,hw.pick [1,2,0] (by decide),hlown0v7_1⟩
  rintro x29_2 m11 hI12
  obtain⟨m13,s14,rfl,hm15,hn16⟩:=Ap hI12;clear hI12;unfold El at hm15
  refine sr (wq Z (QV.lss Z Z Z Z) (nt (WC.seq ?_)))
  refine wc Z hm15 (fun h17 hm18=>?_) (fun h17 hm27=>?_) <;> clear hm15
  ·skip
   refine sk (WQ.then (WC.seq (WC.block (sr (wm Z (wa Z (ns (wm Z (wm Z ?_)))))))))
   obtain⟨x19,hx20,hm21⟩:=Ag hm18;clear hm18
   refine wq Z (QV.call Aob (ec Z (ec Z eN)) (fun w hw=>have h:=Vf w hx20 ((Ah 1 Z hk h_y_Loop_Logs) w hw) ((Ah 1 Z hk h_y_Loop_Body) w hw) ((Ah 1 Z hk h_y_Loop_Outs) w hw) ((Ah 1 Z hk h_y_Time) w hw) ((Ah 1 Z hk h_y_Ready) w hw) ((C1 0 Z) w hw) (Ab 2 Z w hw);h)) (wq Z (QV.not Z Z) (nt ?_))
   refine wc Z hm21 (fun h22 hm23=>?_) (fun h22 hm24=>?_) <;> clear hm21
   ·skip
    refine sr (wa Z (nt (WC.ret (kr (tr (tr (kr (tr (tr ?_)))))))))
    obtain rfl:=Cy hm23 hn16
    obtain rfl:=(Ae hm8).symm
    refine Ar Z Z (fun w hw=>?_)
    exact⟨(v_y_Places,K0),Z,hw.pick [1,2,0] (by decide),hlown0v7_1⟩
   refine sk (WQ.block (WQ.then (WC.region ?_)))
   obtain⟨c25,hm26⟩:=cs hm24;clear hm24
   refine wq Z (QV.add Z Z Z Z c25) (wm Z (WL.nil ?_))
   exact Ch (x29_2+1) m13 (Ax hm26 hn16) (Nat.lt_succ_self _) ⟨Z,Z,Z,trivial⟩ (pk [0,1,2])
  refine WC.exit (te (te (Ai ?_)))
  exact C7 x29_2 (A6 hm27 hn16) ⟨Z,Z,Z,trivial⟩ (pk [0,1,2])
 rintro own0v7_1 x11_1 m28 ⟨hI29,hlown0v7_1⟩
 obtain⟨m30,s31,rfl,hm32,hn33⟩:=Ap hI29;clear hI29;unfold Ft at hm32;simp only at hm32
 refine sr (wq Z (QV.lss Z Z Z Z) (nt (WC.seq ?_)))
 refine wc Z hm32 (fun h34 hm35=>?_) (fun h34 hm45=>?_) <;> clear hm32
 ·skip
  refine sk (WQ.then (WC.seq (WC.block (sr (wm Z (wa Z (nr (wm Z (wq Z (QV.nilCheck Z Z) (wf K9 Z (wl Du Z (Own.cell 2 Z Z) (wm Z (wm Z ?_)))))))))))))
  obtain⟨c36,c38,hm39⟩:=cs2 hm35;clear hm35
  refine wq Z (QV.mul Z Z Z Z c36) ?_
  obtain⟨p40,hp41⟩:=hlown0v7_1.ix (sz:=1) Au c38
  refine wq Z (Ad Ei Z Z Z Z hp41) (Aa Z ?_)
  refine(Ot 0 (5 * x11_1) Ob Z Z Z Z Z hp41 Z Z sz3 ?_)
  have hl42:SliceLen v_y_Places (upd own0v7_1 x11_1 (5 * x11_1)).length:=Fm hlown0v7_1
  refine WL.nil (WQ.block (WQ.then (WC.region ?_)))
  obtain⟨c43,hm44⟩:=cs hm39;clear hm39
  refine wq Z (QV.add Z Z Z Z c43) (wm Z (WL.nil ?_))
  exact Bn (upd own0v7_1 x11_1 (5 * x11_1)) (x11_1+1) m30 ⟨Ax hm44 hn33,hl42⟩ (Nat.lt_succ_self _) ⟨Z,Z,Z,trivial⟩ (pk [0,1,2])
 refine WC.exit (te (te (Ai ?_)))
 exact Cb own0v7_1 x11_1 ⟨A6 hm45 hn33,hlown0v7_1⟩ ⟨Z,Z,Z,trivial⟩ (pk [0,1,2])
theorem Adq {v_l_logs v_l_body v_l_outs v_p_times:Value}{l:Lp}{t:Tgt}{p:Pln}{r:List Int×Int}{K0:World} (hm:Kd l t p=some r) (h_l_logs:Arr K0 v_l_logs 1 (l.logs.map Af)) (h_l_body:Arr K0 v_l_body 9 (l.body.map Stm.cells)) (h_l_outs:Arr K0 v_l_outs 1 (l.outs.map Af)) (h_p_times:Arr K0 v_p_times 1 (p.times.map Af)) (M:Nat→Prop) (w:World) (hk:Base M K0 w) (hw0:Own M w [] w):Calls Try.prog 74 #[.agg #[v_l_logs,v_l_body,v_l_outs],.agg #[.int .i64 t.u0,.int .i64 t.u1,.int .i64 t.u2,.int .i64 t.w0,.int .i64 t.w1,.int .i64 t.w2,.int .i64 t.regs],.agg #[.int .i64 p.pace,v_p_times]] w (fun e w'=>∃ X:Value×World,e=.returned (.tuple #[X.1,.int .i64 r.2])∧Own M w (kn M w.heap.size K0 X.2::[]) w'∧Arr X.2 X.1 1 (r.1.map Af)):=by
 unfold Kd at hm
 refine Ak (n:=26) (args:=[.agg #[v_l_logs,v_l_body,v_l_outs],.agg #[i_ t.u0,i_ t.u1,i_ t.u2,i_ t.w0,i_ t.w1,i_ t.w2,i_ t.regs],.agg #[i_ p.pace,v_p_times]]) Try.func74 Z Z (nl Z) ?_ (An hk hw0)
 refine sr (Aa Z ?_)
 refine(Aq (by decide) Z Z (fun b1=>?_))
 refine Aa Z ?_
 refine(Aq (by decide) Z Z (fun b2=>?_))
 refine Aa Z ?_
 refine(Aq (by decide) Z Z (fun b3=>?_))
 refine wa Z (wa Z (nt (WC.seq (sr (wq Z (Ac Fh Z Z Z (Ab 2 Z)) (wq Z (Ac Gk Z Z Z (Ab 1 Z)) (wq Z (Ac Nt Z Z Z (Ab 0 Z)) ?_)))))))
 obtain⟨x4,hx5,hm6⟩:=Ag hm;clear hm
 refine wq Z (QV.call Aoh (ec Z (ec Z (ec Z eN))) (fun w hw=>have h:=Ru w hx5 ((Ah 3 Z hk h_l_logs) w hw) ((Ah 3 Z hk h_l_body) w hw) ((Ah 3 Z hk h_l_outs) w hw) ((Ah 3 Z hk h_p_times) w hw);h)) (wq Z (QV.not Z Z) (nt ?_))
 refine wc Z hm6 (fun h7 hm8=>?_) (fun h7 hm9=>?_) <;> clear hm6
 ·skip
  refine sr (wa Z (wa Z (nt (WC.ret (tr ?_)))))
  obtain rfl:=(Ae hm8).symm
  refine Dn Z Z Z (fun w hw=>?_)
  exact⟨(.slice none 0 0,K0),Z,hw.pick [3] (by decide),Arr.nil⟩
 refine sk (WQ.then (sr (wq Z (Ac Fh Z Z Z (Ab 2 Z)) (wq Z (Ac Gk Z Z Z (Ab 1 Z)) (wq Z (Ac Nt Z Z Z (Ab 0 Z)) (Aa Z ?_))))))
 obtain⟨x10,hx11,hm12⟩:=Ag hm9;clear hm9
 refine EV.of (C':=Own M w [kn M w.heap.size K0 K0,blk b3 [i_ p.pace,v_p_times] 91,blk b2 t.cells 28,blk b1 [v_l_logs,v_l_body,v_l_outs] 25]) (pk [3,0,1,2]) ?_
 refine(A4 (X:=Nat×Value×Value×Value×Value×Value×Value×World) (R:=[]) (fun X=>.pointer (some (⟨X.1,0,none⟩))) (fun X=>[blk X.1 [X.2.1,X.2.2.1,X.2.2.2.1,i_ x10.2.2.2.1,i_ x10.2.2.2.2.1,X.2.2.2.2.1,X.2.2.2.2.2.1,X.2.2.2.2.2.2.1] 87,vec X.2.2.2.2.2.2.1 3 1 (List.map Af x10.2.2.2.2.2.2.2)]) (fun X=>X.2.2.2.2.2.2.2) (fun X=>Arr X.2.2.2.2.2.2.2 X.2.1 1 (x10.1.map Af)∧Arr X.2.2.2.2.2.2.2 X.2.2.1 9 (x10.2.1.map Stm.cells)∧Arr X.2.2.2.2.2.2.2 X.2.2.2.1 1 (x10.2.2.1.map Af)∧Arr X.2.2.2.2.2.2.2 X.2.2.2.2.1 1 (x10.2.2.2.2.2.1.map Af)∧Arr X.2.2.2.2.2.2.2 X.2.2.2.2.2.1 1 (x10.2.2.2.2.2.2.1.map Af)∧SliceLen X.2.2.2.2.2.2.1 (x10.2.2.2.2.2.2.2).length) hk (fun _ h=>by cases h;decide) en108 (ec Z (ec Z (ec Z eN))) (fun M w h1 h2=>have h:=Yk hx11 h_l_logs h_l_body h_l_outs h_p_times M w h1 h2;h) (fun X13 hF13 hle13=>?_))
 refine wa Z (nt (WC.seq (sr (wm Z (Aa Z ?_)))))
 obtain⟨x16,hx17,hm18⟩:=Ag hm12;clear hm12
 refine(A4 (X:=Value×World) (R:=[blk X13.1 [X13.2.1,X13.2.2.1,X13.2.2.2.1,i_ x10.2.2.2.1,i_ x10.2.2.2.2.1,X13.2.2.2.2.1,X13.2.2.2.2.2.1,X13.2.2.2.2.2.2.1] 87,vec X13.2.2.2.2.2.2.1 3 1 (List.map Af x10.2.2.2.2.2.2.2)]) (fun X=>.bool x16.1) (fun X=>[blk X13.1 [X13.2.1,X13.2.2.1,X13.2.2.2.1,i_ x10.2.2.2.1,i_ x10.2.2.2.2.1,X13.2.2.2.2.1,X13.2.2.2.2.2.1,X.1] 87,vec X.1 3 1 (List.map Af x16.2)]) (fun X=>X.2) (fun X=>SliceLen X.1 (x16.2).length) hk (fun _ h=>by cases h;decide) en109 (ec Z eN) (fun M w h1 h2=>have h:=Abq hx17 hF13.1 hF13.2.1 hF13.2.2.1 hF13.2.2.2.1 hF13.2.2.2.2.1 hF13.2.2.2.2.2 M w h1 h2;h) (fun X19 hF19 hle19=>?_))
 refine wm Z (gn Z (fun hG=>QV.move Z Z) ?_)
 refine Alg (!x16.1) (fun hb20=>?_) (fun hb20=>?_)
 ·skip
  have hm21:=Ab1 hb20 hm18;clear hm18
  refine Afc (Ns Z Z) hb20 ?_
  obtain⟨x22,hx23,hm24⟩:=Ag hm21;clear hm21
  refine(A4 (X:=Value×World) (R:=[blk X13.1 [X13.2.1,X13.2.2.1,X13.2.2.2.1,i_ x10.2.2.2.1,i_ x10.2.2.2.2.1,X13.2.2.2.2.1,X13.2.2.2.2.2.1,X19.1] 87,vec X19.1 3 1 (List.map Af x16.2)]) (fun X=>.bool x22.1) (fun X=>[blk X13.1 [X13.2.1,X13.2.2.1,X13.2.2.2.1,i_ x10.2.2.2.1,i_ x10.2.2.2.2.1,X13.2.2.2.2.1,X13.2.2.2.2.2.1,X.1] 87,vec X.1 3 1 (List.map Af x22.2)]) (fun X=>X.2) (fun X=>SliceLen X.1 (x22.2).length) hk (fun _ h=>by cases h;decide) en110 (EvAll.cons Z hb20 eN) (fun M w h1 h2=>have h:=Yj hx23 (hF13.1.le hle19) (hF13.2.1.le hle19) (hF13.2.2.1.le hle19) (hF13.2.2.2.1.le hle19) (hF13.2.2.2.2.1.le hle19) hF19 M w h1 h2;h) (fun X25 hF25 hle25=>?_))
  refine wq Z (A2 Z Z Z (fun _=>Z)) (nt ?_)
  refine wc Z hm24 (fun h26 hm27=>?_) (fun h26 hm34=>?_) <;> clear hm24
  ·skip
   refine sr (wm Z (Aa Z ?_))
   refine EV.of (C':=Own M w [kn M w.heap.size K0 X25.2,vec X25.1 3 1 (List.map Af x22.2),blk X13.1 [X13.2.1,X13.2.2.1,X13.2.2.2.1,i_ x10.2.2.2.1,i_ x10.2.2.2.2.1,X13.2.2.2.2.1,X13.2.2.2.2.2.1,X25.1] 87,blk b3 [i_ p.pace,v_p_times] 91,blk b2 t.cells 28,blk b1 [v_l_logs,v_l_body,v_l_outs] 25]) (pk [0,2,1,3,4,5]) ?_
   refine EV.freeze hk (fun k28 hle28 hr28=>?_)
   have hA28:=Cf hr28
   refine EV.freeze hk (fun k29 hle29 hr29=>?_)
   have hc29:=Lc hr29
   obtain⟨x30,hx31,hm32⟩:=Ag hm27;clear hm27
   refine(A4 (X:=Value×World) (R:=[]) (fun X=>X.1) (fun X=>[]) (fun X=>X.2) (fun X=>Arr X.2 X.1 1 (x30.map Af)) hk (fun _ h=>by cases h;decide) Aog (ec Z eN) (fun M w h1 h2=>have h:=Ty hx31 (hF13.2.2.2.1.le (((hle19.trans hle25).trans hle28).trans hle29)) (hA28.le hle29) hc29 M w h1 h2;h) (fun X33 hF33 hle33=>?_))
   refine wa Z (wa Z (nt (WC.ret (tr ?_))))
   obtain rfl:=(Ae hm32).symm
   refine Dn Z Z Z (fun w hw=>?_)
   exact⟨(X33.1,X33.2),Z,hw.pick [0] (by decide),hF33⟩
  refine sk (WQ.then (sr (wa Z (wa Z (nt (WC.ret ?_))))))
  obtain rfl:=(Ae hm34).symm
  refine Dn Z Z Z (fun w hw=>?_)
  exact⟨(.slice none 0 0,X25.2),Z,hw.pick [0] (by decide),Arr.nil⟩
 have hm35:=Ab2 hb20 hm18;clear hm18
 refine WL.g (v:=.bool false) Z Z (Ns Z Z) (fun hG=>absurd (hb20.symm.trans hG) (by decide)) ?_
 refine wq Z (A2 Z Z Z (fun h=>Dv h)) (nt ?_)
 refine wc Z hm35 (fun h36 hm37=>?_) (fun h36 hm44=>?_) <;> clear hm35
 ·skip
  refine sr (wm Z (Aa Z ?_))
  refine EV.of (C':=Own M w [kn M w.heap.size K0 X19.2,vec X19.1 3 1 (List.map Af x16.2),blk X13.1 [X13.2.1,X13.2.2.1,X13.2.2.2.1,i_ x10.2.2.2.1,i_ x10.2.2.2.2.1,X13.2.2.2.2.1,X13.2.2.2.2.2.1,X19.1] 87,blk b3 [i_ p.pace,v_p_times] 91,blk b2 t.cells 28,blk b1 [v_l_logs,v_l_body,v_l_outs] 25]) (pk [0,2,1,3,4,5]) ?_
  refine EV.freeze hk (fun k38 hle38 hr38=>?_)
  have hA38:=Cf hr38
  refine EV.freeze hk (fun k39 hle39 hr39=>?_)
  have hc39:=Lc hr39
  obtain⟨x40,hx41,hm42⟩:=Ag hm37;clear hm37
  refine(A4 (X:=Value×World) (R:=[]) (fun X=>X.1) (fun X=>[]) (fun X=>X.2) (fun X=>Arr X.2 X.1 1 (x40.map Af)) hk (fun _ h=>by cases h;decide) Aog (ec Z eN) (fun M w h1 h2=>have h:=Ty hx41 (hF13.2.2.2.1.le ((hle19.trans hle38).trans hle39)) (hA38.le hle39) hc39 M w h1 h2;h) (fun X43 hF43 hle43=>?_))
  refine wa Z (wa Z (nt (WC.ret (tr ?_))))
  obtain rfl:=(Ae hm42).symm
  refine Dn Z Z Z (fun w hw=>?_)
  exact⟨(X43.1,X43.2),Z,hw.pick [0] (by decide),hF43⟩
 refine sk (WQ.then (sr (wa Z (wa Z (nt (WC.ret ?_))))))
 obtain rfl:=(Ae hm44).symm
 refine Dn Z Z Z (fun w hw=>?_)
 exact⟨(.slice none 0 0,X19.2),Z,hw.pick [0] (by decide),Arr.nil⟩
end Go.Proofs.Ytaimbkndebaaiac
end
section
namespace Go.Proofs.Ytaimbkndebaaiac
open Go.Rd
open TNum TLoop TStable TMach TMach2 TKern TClone TNbr TSeq TKRun TKeep TOrd TCpt TDep TSched1 TEmit TCheck TRegs
namespace TBound
theorem ag26:N4 Try.prog 26 3:=⟨_,Try.underlying26,rfl,by kernel_rfl⟩
theorem en106:Go.Rd.Enters Try.prog 106:=eT Try.func106
theorem Pk:Ia Try.prog 187 22 1:=⟨Try.underlying187,by kernel_rfl⟩
theorem ve187:Rl Try.prog 187 22 1 24:=⟨Try.underlying187,by kernel_rfl,by decide⟩
theorem ze22:ZeroT Try.prog 22 [.slice none 0 0]:=by unfold ZeroT;kernel_rfl
theorem ze26:ZeroT Try.prog 26 [.int .i64 0,.int .i64 0,.int .i64 0]:=by unfold ZeroT;kernel_rfl
end TBound
open TBound
theorem Xz {v_edges:Value}{n_:Int}{edges:List Edg}{pace:Int}{r:Bool} (w:World) (hm:Iw n_ edges pace=some r) (h_edges:Arr w v_edges 4 (edges.map Edg.cells)):Calls Try.prog 106 #[.int .i64 n_,v_edges,.int .i64 pace] w (fun e w'=>e=.returned (.bool r)∧Grow w w'):=by
 unfold Iw at hm
 have hk:=Base.rfl (w:=w)
 refine Ak (n:=152) (args:=[i_ n_,v_edges,i_ pace]) Try.func106 Z Z (nl Z) ?_ (An hk (Own.start w))
 refine sr (wa Z (ns (wm Z (Aa Z ?_))))
 obtain⟨c1,c3,hm4⟩:=cs2 hm;clear hm
 refine(EV.makeSlice (enc:=Mo) H4 (by decide) ve187 ze22 Z Z c1 Z c3 (fun u5 hu6=>?_))
 refine WK.of (fun w hw=>hw.gridRep 3) ?_
 have hg8:=Ap0 n_.toNat
 have hl9:SliceLen u5 (List.replicate n_.toNat ([]:List Int)).length:=by rw[List.length_replicate];simpa using hu6
 refine wa Z (nt (WC.seq (sr (wm Z (wq Z (Ay Try.underlying187 Z Z hl9) (wm Z (nt ?_)))))))
 obtain⟨o10,ho11,hm12⟩:=Ag hm4;clear hm4;obtain⟨n13,ho14⟩:=A0 ho11
 refine D2 (H2:=[kn noM w.heap.size w w]) (τ:=[u_ 0 _,u_ 1 _,u_ 2 _,u_ 7 _,u_ 19 _]) (fun (v7_3:List (List Int)) (x20_3:Int) (hsv7_3:List Value)=>[(20,(true,i_ x20_3))]) (fun v7_3 x20_3 hsv7_3=>[Bv u5 hsv7_3 22 3 v7_3]) (fun v7_3 x20_3 hsv7_3 m=>B3 (E5 n_) m (v7_3,x20_3)=some o10∧SliceLen u5 v7_3.length∧GL hsv7_3 v7_3) (fun v7_3 x20_3 hsv7_3=>o10=.go (v7_3,x20_3)∧SliceLen u5 v7_3.length∧GL hsv7_3 v7_3) (List.replicate n_.toNat ([]:List Int)) 0 (List.replicate n_.toNat H4) n13 ⟨ho14,hl9,hg8⟩ ⟨Z,Z,Z,Z,Z,Z,trivial⟩ (pk [0,1]) ?_ ?_
 ·skip
  rintro v7_3 x20_3 hsv7_3 ⟨rfl,hlv7_3,hgv7_3⟩
  refine WQ.then (WC.seq (sr (wm Z (wq Z (Ay Try.underlying68 Z Z h_edges.lenMap) (wm Z (nt ?_))))))
  obtain⟨o15,ho16,hm17⟩:=Ag hm12;clear hm12;obtain⟨n18,ho19⟩:=A0 ho16
  refine Bz (H2:=[kn noM w.heap.size w w]) (τ:=[u_ 0 _,u_ 2 _,u_ 7 _,u_ 44 _,u_ 45 _]) (fun (v7_4:List (List Int)) (x46_4:Int)=>[(46,(true,i_ x46_4))]) (fun v7_4 x46_4=>[Bv u5 hsv7_3 22 3 v7_4]) (fun v7_4 x46_4 m=>B3 (E3 edges pace) m (v7_4,x46_4)=some o15∧SliceLen u5 v7_4.length∧GL hsv7_3 v7_4) (fun v7_4 x46_4=>o15=.go (v7_4,x46_4)∧SliceLen u5 v7_4.length∧GL hsv7_3 v7_4) v7_3 0 n18 ⟨ho19,hlv7_3,hgv7_3⟩ ⟨Z,Z,Z,Z,Z,Z,trivial⟩ (pk [0,1]) ?_ ?_
  ·skip
   rintro v7_4 x46_4 ⟨rfl,hlv7_4,hgv7_4⟩
   refine WQ.then (WC.seq (sr (wm Z (wm Z (nt ?_)))))
   obtain⟨o20,ho21,hm22⟩:=Ag hm17;clear hm17;obtain⟨n23,ho24⟩:=A0 ho21
   refine Bz (H2:=[kn noM w.heap.size w w]) (τ:=[u_ 0 _,u_ 7 _,u_ 76 _]) (fun (v7_13:List (List Int)) (x77_13:Int)=>[(77,(true,i_ x77_13))]) (fun v7_13 x77_13=>[Bv u5 hsv7_3 22 3 v7_13]) (fun v7_13 x77_13 m=>B3 (E0 n_) m (v7_13,x77_13)=some o20∧SliceLen u5 v7_13.length∧GL hsv7_3 v7_13) (fun v7_13 x77_13=>o20=.go (v7_13,x77_13)∧SliceLen u5 v7_13.length∧GL hsv7_3 v7_13) v7_4 0 n23 ⟨ho24,hlv7_4,hgv7_4⟩ ⟨Z,Z,Z,Z,trivial⟩ (pk [0,1]) ?_ ?_
   ·skip
    rintro v7_13 x77_13 ⟨rfl,hlv7_13,hgv7_13⟩
    refine WQ.then (WC.seq (sr (wm Z (wm Z (nt ?_)))))
    obtain⟨o25,ho26,hm27⟩:=Ag hm22;clear hm22;obtain⟨n28,ho29⟩:=A0 ho26
    refine Ci (H2:=[Bv u5 hsv7_3 22 3 v7_13,kn noM w.heap.size w w]) (τ:=[u_ 7 _,u_ 139 _]) (fun (x140_14:Int)=>[(140,(true,i_ x140_14))]) (fun x140_14=>[]) (fun x140_14 m=>B3 (Fk n_ v7_13) m x140_14=some o25) (fun x140_14=>o25=.go x140_14) 0 n28 ho29 ⟨Z,Z,Z,trivial⟩ (pk [0,1]) ?_ ?_
    ·skip
     rintro x140_14 rfl
     refine WQ.then (sr (wa Z (nt (WC.ret ?_))))
     obtain rfl:=(Ae hm27).symm
     exact Ar Z Z fun w hw=>kg hw
    rintro x140_14 m30 hI31
    obtain⟨m32,s33,rfl,hm34,hn35⟩:=Ap hI31;clear hI31;unfold Fk at hm34
    refine sr (wq Z (QV.lss Z Z Z Z) (nt (WC.seq ?_)))
    refine wc Z hm34 (fun h36 hm37=>?_) (fun h36 hm51=>?_) <;> clear hm34
    ·skip
     refine sk (WQ.then (WC.seq (WC.block (sr (wm Z (wa Z (ns (wm Z (wm Z ?_)))))))))
     obtain⟨c38,hm39⟩:=cs hm37;clear hm37
     obtain⟨p40,hp41⟩:=hlv7_13.ix (sz:=1) Au c38
     refine wq Z (Ad Pk Z Z Z Z hp41) (wl Du Z (Di 0 Z hp41 c38) (wm Z ?_))
     obtain⟨c42,hm43⟩:=cs hm39;clear hm39
     obtain⟨p44,hp45⟩:=(hgv7_13.ix x140_14).ix (sz:=1) Au c42
     refine wq Z (Ad Ei Z Z Z Z hp45) (wl pl3 Z (fun w hw=>CellsAt.one 0 (((Gb 0 Z c38) w hw).ele hp45 c42) Z) (wq Z (QV.gtr Z Z Z Z) (nt ?_)))
     refine wc Z hm43 (fun h46 hm47=>?_) (fun h46 hm48=>?_) <;> clear hm43
     ·skip
      refine sr (wa Z (nt (WC.ret (kr (tr (tr (kr (tr (tr ?_)))))))))
      obtain rfl:=Cy hm47 hn35
      obtain rfl:=(Ae hm27).symm
      exact Ar Z Z fun w hw=>kg hw
     refine sk (WQ.block (WQ.then (WC.region ?_)))
     obtain⟨c49,hm50⟩:=cs hm48;clear hm48
     refine wq Z (QV.add Z Z Z Z c49) (wm Z (WL.nil ?_))
     exact Ch (x140_14+1) m32 (Ax hm50 hn35) (Nat.lt_succ_self _) ⟨Z,Z,Z,trivial⟩ (pk [0,1])
    refine WC.exit (te (te (Ai ?_)))
    exact C7 x140_14 (A6 hm51 hn35) ⟨Z,Z,Z,trivial⟩ (pk [0,1])
   rintro v7_13 x77_13 m52 ⟨hI53,hlv7_13,hgv7_13⟩
   obtain⟨m54,s55,rfl,hm56,hn57⟩:=Ap hI53;clear hI53;unfold E0 at hm56;simp only at hm56
   refine sr (wq Z (QV.lss Z Z Z Z) (nt (WC.seq ?_)))
   refine wc Z hm56 (fun h58 hm59=>?_) (fun h58 hm151=>?_) <;> clear hm56
   ·skip
    refine sk (WQ.then (WC.seq (WC.block (sr (wm Z (wa Z (ns (wm Z (wm Z (nt ?_))))))))))
    obtain⟨o60,ho61,hm62⟩:=Ag hm59;clear hm59;obtain⟨n63,ho64⟩:=A0 ho61
    refine Bz (H2:=[kn noM w.heap.size w w]) (τ:=[u_ 0 _,u_ 7 _,u_ 12 _,u_ 76 _,u_ 77 _,u_ 80 _]) (fun (v7_17:List (List Int)) (x81_17:Int)=>[(81,(true,i_ x81_17))]) (fun v7_17 x81_17=>[Bv u5 hsv7_3 22 3 v7_17]) (fun v7_17 x81_17 m=>B3 (Ez n_ x77_13) m (v7_17,x81_17)=some o60∧SliceLen u5 v7_17.length∧GL hsv7_3 v7_17) (fun v7_17 x81_17=>o60=.go (v7_17,x81_17)∧SliceLen u5 v7_17.length∧GL hsv7_3 v7_17) v7_13 0 n63 ⟨ho64,hlv7_13,hgv7_13⟩ ⟨Z,Z,Z,Z,Z,Z,Z,trivial⟩ (pk [0,1]) ?_ ?_
    ·skip
     rintro v7_17 x81_17 ⟨rfl,hlv7_17,hgv7_17⟩
     refine WQ.block (WQ.then (WC.region ?_))
     obtain⟨c65,hm66⟩:=cs hm62;clear hm62
     refine wq Z (QV.add Z Z Z Z c65) (wm Z (WL.nil ?_))
     exact Bn v7_17 (x77_13+1) m54 ⟨Ax hm66 hn57,hlv7_17,hgv7_17⟩ (Nat.lt_succ_self _) ⟨Z,Z,Z,Z,trivial⟩ (pk [0,1])
    rintro v7_17 x81_17 m67 ⟨hI68,hlv7_17,hgv7_17⟩
    obtain⟨m69,s70,rfl,hm71,hn72⟩:=Ap hI68;clear hI68;unfold Ez at hm71;simp only at hm71
    refine sr (wq Z (QV.lss Z Z Z Z) (nt (WC.seq ?_)))
    refine wc Z hm71 (fun h73 hm74=>?_) (fun h73 hm150=>?_) <;> clear hm71
    ·skip
     refine sk (WQ.then (WC.seq (WC.block (sr (wm Z (wa Z (ns (wm Z (wm Z (nt ?_))))))))))
     obtain⟨o75,ho76,hm77⟩:=Ag hm74;clear hm74;obtain⟨n78,ho79⟩:=A0 ho76
     refine Bz (H2:=[kn noM w.heap.size w w]) (τ:=[u_ 0 _,u_ 7 _,u_ 12 _,u_ 13 _,u_ 76 _,u_ 77 _,u_ 80 _,u_ 81 _,u_ 84 _]) (fun (v7_18:List (List Int)) (x85_18:Int)=>[(85,(true,i_ x85_18))]) (fun v7_18 x85_18=>[Bv u5 hsv7_3 22 3 v7_18]) (fun v7_18 x85_18 m=>B3 (D7 n_ x77_13 x81_17) m (v7_18,x85_18)=some o75∧SliceLen u5 v7_18.length∧GL hsv7_3 v7_18) (fun v7_18 x85_18=>o75=.go (v7_18,x85_18)∧SliceLen u5 v7_18.length∧GL hsv7_3 v7_18) v7_17 0 n78 ⟨ho79,hlv7_17,hgv7_17⟩ ⟨Z,Z,Z,Z,Z,Z,Z,Z,Z,Z,trivial⟩ (pk [0,1]) ?_ ?_
     ·skip
      rintro v7_18 x85_18 ⟨rfl,hlv7_18,hgv7_18⟩
      refine WQ.block (WQ.then (WC.region ?_))
      obtain⟨c80,hm81⟩:=cs hm77;clear hm77
      refine wq Z (QV.add Z Z Z Z c80) (wm Z (WL.nil ?_))
      exact Bn v7_18 (x81_17+1) m69 ⟨Ax hm81 hn72,hlv7_18,hgv7_18⟩ (Nat.lt_succ_self _) ⟨Z,Z,Z,Z,Z,Z,Z,trivial⟩ (pk [0,1])
     rintro v7_18 x85_18 m82 ⟨hI83,hlv7_18,hgv7_18⟩
     obtain⟨m84,s85,rfl,hm86,hn87⟩:=Ap hI83;clear hI83;unfold D7 at hm86;simp only at hm86
     refine sr (wq Z (QV.lss Z Z Z Z) (nt (WC.seq ?_)))
     refine wc Z hm86 (fun h88 hm89=>?_) (fun h88 hm149=>?_) <;> clear hm86
     ·skip
      refine sk (WQ.then (WC.seq (WC.block (sr (wm Z (wa Z (ns (wm Z (wm Z ?_)))))))))
      obtain⟨c90,hm91⟩:=cs hm89;clear hm89
      obtain⟨p92,hp93⟩:=hlv7_18.ix (sz:=1) Au c90
      refine wq Z (Ad Pk Z Z Z Z hp93) (wl Du Z (Di 0 Z hp93 c90) (wm Z ?_))
      obtain⟨c94,hm95⟩:=cs hm91;clear hm91
      obtain⟨p96,hp97⟩:=(hgv7_18.ix x81_17).ix (sz:=1) Au c94
      refine wq Z (Ad Ei Z Z Z Z hp97) (wl pl3 Z (fun w hw=>CellsAt.one 0 (((Gb 0 Z c90) w hw).ele hp97 c94) Z) (wq Z (QV.gtr Z Z Z Z) (wm Z (gp Z (fun hG=>QV.move Z Z) (gp Z (fun hG=>QV.move Z Z) ?_)))))
      obtain⟨c98,hm99⟩:=cs hm95;clear hm95
      obtain⟨p100,hp101⟩:=hlv7_18.ixG (sz:=1) Au c98
      refine gp Z (fun hG=>Ad Pk Z hG Z hG (hp101 hG)) (gp Z (fun hG=>QV.load Du Z hG (Di 0 Z (hp101 hG) (c98 hG))) (gp Z (fun hG=>QV.move Z Z) ?_))
      obtain⟨c102,hm103⟩:=cs hm99;clear hm99
      obtain⟨p104,hp105⟩:=(hgv7_18.ix x77_13).ixG (sz:=1) Au c102
      refine gp Z (fun hG=>Ad Ei Z hG Z hG (hp105 hG)) (gp Z (fun hG=>QV.load pl3 Z hG (fun w hw=>CellsAt.one 0 (((Gb 0 Z (c98 hG)) w hw).ele (hp105 hG) (c102 hG)) Z)) (gp Z (fun hG=>QV.gtr Z hG Z Z) (wq Z (Az Z Z Z (fun h=>h)) (nt ?_))))
      refine wc Z hm103 (fun h106 hm107=>?_) (fun h106 hm146=>?_) <;> clear hm103
      ·skip
       refine B9 (m:=31) (S:=Own noM w [kn noM w.heap.size w w,Bv u5 hsv7_3 22 3 v7_18]) (by kernel_rfl) (by kernel_rfl) (pk [1,0]) (zm 0 Z Z (zm 1 Z Z ?_))
       obtain⟨c108,hm109⟩:=cs hm107;clear hm107
       obtain⟨p110,hp111⟩:=hlv7_18.ix (sz:=1) Au c108
       refine wz 2 Z Z (Ad Pk Z Z Z Z hp111) (zl 3 Du Z Z (Di 1 Z hp111 c108) (zm 4 Z Z (zm 5 Z Z (zm 6 Z Z ?_))))
       obtain⟨c112,hm113⟩:=cs hm109;clear hm109
       obtain⟨p114,hp115⟩:=hlv7_18.ix (sz:=1) Au c112
       refine wz 7 Z Z (Ad Pk Z Z Z Z hp115) (zl 8 Du Z Z (Di 1 Z hp115 c112) (zm 9 Z Z ?_))
       obtain⟨c116,hm117⟩:=cs hm113;clear hm113
       obtain⟨p118,hp119⟩:=(hgv7_18.ix x81_17).ix (sz:=1) Au c116
       refine wz 10 Z Z (Ad Ei Z Z Z Z hp119) (zl 11 pl3 Z Z (fun w hw=>CellsAt.one 0 (((Gb 1 Z c112) w hw).ele hp119 c116) Z) (zm 12 Z Z (zm 13 Z Z ?_)))
       obtain⟨c120,hm121⟩:=cs hm117;clear hm117
       obtain⟨p122,hp123⟩:=hlv7_18.ix (sz:=1) Au c120
       refine wz 14 Z Z (Ad Pk Z Z Z Z hp123) (zl 15 Du Z Z (Di 1 Z hp123 c120) (zm 16 Z Z ?_))
       obtain⟨c124,hm125⟩:=cs hm121;clear hm121
       obtain⟨p126,hp127⟩:=(hgv7_18.ix x81_17).ix (sz:=1) Au c124
       refine wz 17 Z Z (Ad Ei Z Z Z Z hp127) (zl 18 pl3 Z Z (fun w hw=>CellsAt.one 0 (((Gb 1 Z c120) w hw).ele hp127 c124) Z) (zm 19 Z Z (zm 20 Z Z ?_)))
       obtain⟨c128,hm129⟩:=cs hm125;clear hm125
       obtain⟨p130,hp131⟩:=hlv7_18.ix (sz:=1) Au c128
       refine wz 21 Z Z (Ad Pk Z Z Z Z hp131) (zl 22 Du Z Z (Di 1 Z hp131 c128) (zm 23 Z Z ?_))
       obtain⟨c132,hm133⟩:=cs hm129;clear hm129
       obtain⟨p134,hp135⟩:=(hgv7_18.ix x77_13).ix (sz:=1) Au c132
       refine wz 24 Z Z (Ad Ei Z Z Z Z hp135) (zl 25 pl3 Z Z (fun w hw=>CellsAt.one 0 (((Gb 1 Z c128) w hw).ele hp135 c132) Z) ?_)
       obtain⟨c136,c138,hm139⟩:=cs2 hm133;clear hm133
       refine wz 26 Z Z (QV.add Z Z Z Z c136) (wz 27 Z Z (QV.min2 Z Z Z Z) (wz 28 Z Z (QV.max2 Z Z Z Z) ?_))
       obtain⟨p140,hp141⟩:=(hgv7_18.ix x81_17).ix (sz:=1) Au c138
       refine wz 29 Z Z (Ad Ei Z Z Z Z hp141) ?_
       refine WD.l 30 Z (by kernel_rfl) Z ?_
       refine(Ou 0 (max (ele (ele v7_18 x81_17) x85_18) (min ((ele (ele v7_18 x81_17) x77_13)+(ele (ele v7_18 x77_13) x85_18)) 1048576)) Z Z Z Z Z c108 hp141 sz3 ?_)
       have hg143:=hgv7_18.updG x81_17 x85_18 (max (ele (ele v7_18 x81_17) x85_18) (min ((ele (ele v7_18 x81_17) x77_13)+(ele (ele v7_18 x77_13) x85_18)) 1048576))
       have hl142:SliceLen u5 (updG v7_18 x81_17 x85_18 (max (ele (ele v7_18 x81_17) x85_18) (min ((ele (ele v7_18 x81_17) x77_13)+(ele (ele v7_18 x77_13) x85_18)) 1048576))).length:=Og hlv7_18
       refine WQ.block (WQ.then (WC.region ?_))
       obtain⟨c144,hm145⟩:=cs hm139;clear hm139
       refine wq Z (QV.add Z Z Z Z c144) (wm Z (WL.nil ?_))
       exact Bn (updG v7_18 x81_17 x85_18 (max (ele (ele v7_18 x81_17) x85_18) (min ((ele (ele v7_18 x81_17) x77_13)+(ele (ele v7_18 x77_13) x85_18)) 1048576))) (x85_18+1) m84 ⟨Ax hm145 hn87,hl142,hg143⟩ (Nat.lt_succ_self _) ⟨Z,Z,Z,Z,Z,Z,Z,Z,Z,Z,trivial⟩ (pk [0,1])
      refine sk (WQ.block (WQ.then (WC.region ?_)))
      obtain⟨c147,hm148⟩:=cs hm146;clear hm146
      refine wq Z (QV.add Z Z Z Z c147) (wm Z (WL.nil ?_))
      exact Bn v7_18 (x85_18+1) m84 ⟨Ax hm148 hn87,hlv7_18,hgv7_18⟩ (Nat.lt_succ_self _) ⟨Z,Z,Z,Z,Z,Z,Z,Z,Z,Z,trivial⟩ (pk [0,1])
     refine WC.exit (te (te (Ai ?_)))
     exact Cb v7_18 x85_18 ⟨A6 hm149 hn87,hlv7_18,hgv7_18⟩ ⟨Z,Z,Z,Z,Z,Z,Z,Z,Z,Z,trivial⟩ (pk [0,1])
    refine WC.exit (te (te (Ai ?_)))
    exact Cb v7_17 x81_17 ⟨A6 hm150 hn72,hlv7_17,hgv7_17⟩ ⟨Z,Z,Z,Z,Z,Z,Z,trivial⟩ (pk [0,1])
   refine WC.exit (te (te (Ai ?_)))
   exact Cb v7_13 x77_13 ⟨A6 hm151 hn57,hlv7_13,hgv7_13⟩ ⟨Z,Z,Z,Z,trivial⟩ (pk [0,1])
  rintro v7_4 x46_4 m152 ⟨hI153,hlv7_4,hgv7_4⟩
  obtain⟨m154,s155,rfl,hm156,hn157⟩:=Ap hI153;clear hI153;unfold E3 at hm156;simp only at hm156
  refine sr (wq Z (QV.lss Z Z Z Z) (nt (WC.seq ?_)))
  refine wc Z hm156 (fun h158 hm159=>?_) (fun h158 hm189=>?_) <;> clear hm156
  ·skip
   refine sk (WQ.then (WC.seq (WC.block (sr ?_))))
   obtain⟨c160,hm161⟩:=cs hm159;clear hm159
   obtain⟨p162,hp163⟩:=h_edges.lenMap.ix (sz:=4) Au c160
   refine wq Z (Ad Sx Z Z Z Z hp163) (wq Z (Ac Uc Z Z Z (fun w hw=>((Ah 1 Z hk h_edges) w hw).ele hp163 c160)) (Aa Z ?_))
   refine(EV.alloc (by decide) Ad3 (fun b164=>?_))
   refine Aa Z ?_
   refine(EV.store 0 Z Z Z Z Z Z (vs:=(Edg.cells (ele edges x46_4))) (show Value.cells _=List.toArray _ from Z) Z4 (nl Z) (oc Z (oc Z (oc Z (oc Z Aw)))) ?_)
   refine nt (B9 (m:=26) (S:=Own noM w [kn noM w.heap.size w w,blk b164 (Edg.cells (ele edges x46_4)) 71,Bv u5 hsv7_3 22 3 v7_4]) (by kernel_rfl) (by kernel_rfl) (pk [2,0,1]) (zm 0 Z Z (zf 1 P4 Z Z (zl 2 pl3 Z Z (Own.cell 1 Z Z) ?_))))
   obtain⟨c165,hm166⟩:=cs hm161;clear hm161
   obtain⟨p167,hp168⟩:=hlv7_4.ix (sz:=1) Au c165
   refine wz 3 Z Z (Ad Pk Z Z Z Z hp168) (zl 4 Du Z Z (Di 2 Z hp168 c165) (zf 5 Sd Z Z (zl 6 pl3 Z Z (Own.cell 1 Z Z) (zm 7 Z Z (zf 8 P4 Z Z (zl 9 pl3 Z Z (Own.cell 1 Z Z) ?_))))))
   obtain⟨c169,hm170⟩:=cs hm166;clear hm166
   obtain⟨p171,hp172⟩:=hlv7_4.ix (sz:=1) Au c169
   refine wz 10 Z Z (Ad Pk Z Z Z Z hp172) (zl 11 Du Z Z (Di 2 Z hp172 c169) (zf 12 Sd Z Z (zl 13 pl3 Z Z (Own.cell 1 Z Z) ?_)))
   obtain⟨c173,hm174⟩:=cs hm170;clear hm170
   obtain⟨p175,hp176⟩:=(hgv7_4.ix ((ele edges x46_4).fr)).ix (sz:=1) Au c173
   refine wz 14 Z Z (Ad Ei Z Z Z Z hp176) (zl 15 pl3 Z Z (fun w hw=>CellsAt.one 0 (((Gb 2 Z c169) w hw).ele hp176 c173) Z) (zf 16 Uh Z Z (zl 17 pl3 Z Z (Own.cell 1 Z Z) (zm 18 Z Z (zf 19 Ui Z Z (zl 20 pl3 Z Z (Own.cell 1 Z Z) ?_))))))
   obtain⟨c177,c179,c181,hm182⟩:=cs3 hm174;clear hm174
   refine wz 21 Z Z (QV.mul Z Z Z Z c177) (wz 22 Z Z (QV.sub Z Z Z Z c179) (wz 23 Z Z (QV.max2 Z Z Z Z) ?_))
   obtain⟨p183,hp184⟩:=(hgv7_4.ix ((ele edges x46_4).fr)).ix (sz:=1) Au c181
   refine wz 24 Z Z (Ad Ei Z Z Z Z hp184) ?_
   refine WD.l 25 Z (by kernel_rfl) Z ?_
   refine(Ou 1 (max (ele (ele v7_4 ((ele edges x46_4).fr)) ((ele edges x46_4).to)) ((ele edges x46_4).wt - (pace * (ele edges x46_4).bk))) Z Z Z Z Z c165 hp184 sz3 ?_)
   have hg186:=hgv7_4.updG ((ele edges x46_4).fr) ((ele edges x46_4).to) (max (ele (ele v7_4 ((ele edges x46_4).fr)) ((ele edges x46_4).to)) ((ele edges x46_4).wt - (pace * (ele edges x46_4).bk)))
   have hl185:SliceLen u5 (updG v7_4 ((ele edges x46_4).fr) ((ele edges x46_4).to) (max (ele (ele v7_4 ((ele edges x46_4).fr)) ((ele edges x46_4).to)) ((ele edges x46_4).wt - (pace * (ele edges x46_4).bk)))).length:=Og hlv7_4
   refine WQ.block (WQ.then (WC.region ?_))
   obtain⟨c187,hm188⟩:=cs hm182;clear hm182
   refine wq Z (QV.add Z Z Z Z c187) (wm Z (WL.nil ?_))
   exact Bn (updG v7_4 ((ele edges x46_4).fr) ((ele edges x46_4).to) (max (ele (ele v7_4 ((ele edges x46_4).fr)) ((ele edges x46_4).to)) ((ele edges x46_4).wt - (pace * (ele edges x46_4).bk)))) (x46_4+1) m154 ⟨Ax hm188 hn157,hl185,hg186⟩ (Nat.lt_succ_self _) ⟨Z,Z,Z,Z,Z,Z,trivial⟩ (pk [1,2])
  refine WC.exit (te (te (Ai ?_)))
  exact Cb v7_4 x46_4 ⟨A6 hm189 hn157,hlv7_4,hgv7_4⟩ ⟨Z,Z,Z,Z,Z,Z,trivial⟩ (pk [0,1])
 rintro v7_3 x20_3 hsv7_3 m190 ⟨hI191,hlv7_3,hgv7_3⟩
 obtain⟨m192,s193,rfl,hm194,hn195⟩:=Ap hI191;clear hI191;unfold E5 at hm194;simp only at hm194
 refine sr (wq Z (QV.lss Z Z Z Z) (nt (WC.seq ?_)))
 refine wc Z hm194 (fun h196 hm197=>?_) (fun h196 hm243=>?_) <;> clear hm194
 ·skip
  refine sk (WQ.then (WC.seq (WC.block (sr (wm Z (wa Z (ns (wm Z (wm Z (wm Z (Aa Z ?_)))))))))))
  obtain⟨c198,c200,c205,hm206⟩:=cs3 hm197;clear hm197
  refine(EV.makeSlice (enc:=Af) (0:Int) (by decide) Su ze3 Z Z c198 Z c200 (fun u202 hu203=>?_))
  obtain⟨p207,hp208⟩:=hlv7_3.ix (sz:=1) Au c205
  refine wq Z (Ad Pk Z Z Z Z hp208) (Aa Z ?_)
  refine EV.of (C':=Own noM w [Bv u5 hsv7_3 22 3 v7_3,vec u202 3 1 (List.map Af (List.replicate n_.toNat (0:Int))),kn noM w.heap.size w w]) (pk [1,0,2]) ?_
  refine(Ad1 Z Z Z Z hp208 c205 hu203 Aby ?_)
  have hg210:=GL.upd hgv7_3 hu203 x20_3
  have hl209:SliceLen u5 (upd v7_3 x20_3 (List.replicate n_.toNat (0:Int))).length:=Fm hlv7_3
  refine ns (wm Z (wm Z ?_))
  obtain⟨c211,hm212⟩:=cs hm206;clear hm206
  obtain⟨p213,hp214⟩:=hl209.ix (sz:=1) Au c211
  refine wq Z (Ad Pk Z Z Z Z hp214) (wl Du Z (Di 0 Z hp214 c211) (wq Z (Ay Try.underlying22 Z Z (hg210.ix x20_3)) (wm Z (nt ?_))))
  obtain⟨o215,ho216,hm217⟩:=Ag hm212;clear hm212;obtain⟨n218,ho219⟩:=A0 ho216
  refine Bz (H2:=[kn noM w.heap.size w w]) (τ:=[u_ 0 _,u_ 1 _,u_ 2 _,u_ 7 _,u_ 8 _,u_ 19 _,u_ 20 _,u_ 32 _]) (fun (v7_19:List (List Int)) (x33_19:Int)=>[(33,(true,i_ x33_19))]) (fun v7_19 x33_19=>[Bv u5 (upd hsv7_3 x20_3 u202) 22 3 v7_19]) (fun v7_19 x33_19 m=>B3 (E4 n_ v7_3 x20_3) m (v7_19,x33_19)=some o215∧SliceLen u5 v7_19.length∧GL (upd hsv7_3 x20_3 u202) v7_19) (fun v7_19 x33_19=>o215=.go (v7_19,x33_19)∧SliceLen u5 v7_19.length∧GL (upd hsv7_3 x20_3 u202) v7_19) (upd v7_3 x20_3 (List.replicate n_.toNat (0:Int))) 0 n218 ⟨ho219,hl209,hg210⟩ ⟨Z,Z,Z,Z,Z,Z,Z,Z,Z,trivial⟩ (pk [0,1]) ?_ ?_
  ·skip
   rintro v7_19 x33_19 ⟨rfl,hlv7_19,hgv7_19⟩
   refine WQ.block (WQ.then (WC.region ?_))
   obtain⟨c220,hm221⟩:=cs hm217;clear hm217
   refine wq Z (QV.add Z Z Z Z c220) (wm Z (WL.nil ?_))
   exact C4 v7_19 (x20_3+1) (upd hsv7_3 x20_3 u202) m192 ⟨Ax hm221 hn195,hlv7_19,hgv7_19⟩ (Nat.lt_succ_self _) ⟨Z,Z,Z,Z,Z,Z,trivial⟩ (pk [0,1])
  rintro v7_19 x33_19 m222 ⟨hI223,hlv7_19,hgv7_19⟩
  obtain⟨m224,s225,rfl,hm226,hn227⟩:=Ap hI223;clear hI223;unfold E4 at hm226;simp only at hm226
  refine sr (wq Z (QV.lss Z Z Z Z) (nt (WC.seq ?_)))
  refine wc Z hm226 (fun h228 hm229=>?_) (fun h228 hm242=>?_) <;> clear hm226
  ·skip
   refine sk (WQ.then (WC.seq (WC.block (sr (wm Z (wa Z (nr (wm Z (wm Z ?_)))))))))
   obtain⟨c230,hm231⟩:=cs hm229;clear hm229
   obtain⟨p232,hp233⟩:=hlv7_19.ix (sz:=1) Au c230
   refine wq Z (Ad Pk Z Z Z Z hp233) (wl Du Z (Di 0 Z hp233 c230) (wm Z ?_))
   obtain⟨c234,hm235⟩:=cs hm231;clear hm231
   obtain⟨p236,hp237⟩:=(hgv7_19.ix x20_3).ix (sz:=1) Au c234
   refine wq Z (Ad Ei Z Z Z Z hp237) (Aa Z ?_)
   refine(Ou 0 (-1099511627776) Z Z Z Z Z c230 hp237 sz3 ?_)
   have hg239:=hgv7_19.updG x20_3 x33_19 (-1099511627776)
   have hl238:SliceLen u5 (updG v7_19 x20_3 x33_19 (-1099511627776)).length:=Og hlv7_19
   refine WL.nil (WQ.block (WQ.then (WC.region ?_)))
   obtain⟨c240,hm241⟩:=cs hm235;clear hm235
   refine wq Z (QV.add Z Z Z Z c240) (wm Z (WL.nil ?_))
   exact Bn (updG v7_19 x20_3 x33_19 (-1099511627776)) (x33_19+1) m224 ⟨Ax hm241 hn227,hl238,hg239⟩ (Nat.lt_succ_self _) ⟨Z,Z,Z,Z,Z,Z,Z,Z,Z,trivial⟩ (pk [0,1])
  refine WC.exit (te (te (Ai ?_)))
  exact Cb v7_19 x33_19 ⟨A6 hm242 hn227,hlv7_19,hgv7_19⟩ ⟨Z,Z,Z,Z,Z,Z,Z,Z,Z,trivial⟩ (pk [0,1])
 refine WC.exit (te (te (Ai ?_)))
 exact Gw v7_3 x20_3 hsv7_3 ⟨A6 hm243 hn195,hlv7_3,hgv7_3⟩ ⟨Z,Z,Z,Z,Z,Z,trivial⟩ (pk [0,1])
theorem Ys {v_l_logs v_l_body v_l_outs:Value}{l:Lp}{t:Tgt}{r:Int×Int×Int} (w:World) (hm:Jy l t=some r) (h_l_logs:Arr w v_l_logs 1 (l.logs.map Af)) (h_l_body:Arr w v_l_body 9 (l.body.map Stm.cells)) (h_l_outs:Arr w v_l_outs 1 (l.outs.map Af)):Calls Try.prog 70 #[.agg #[v_l_logs,v_l_body,v_l_outs],.agg #[.int .i64 t.u0,.int .i64 t.u1,.int .i64 t.u2,.int .i64 t.w0,.int .i64 t.w1,.int .i64 t.w2,.int .i64 t.regs]] w (fun e w'=>e=.returned (.tuple #[.int .i64 r.1,.int .i64 r.2.1,.int .i64 r.2.2])∧Grow w w'):=by
 unfold Jy at hm
 have hk:=Base.rfl (w:=w)
 refine Ak (n:=68) (args:=[.agg #[v_l_logs,v_l_body,v_l_outs],.agg #[i_ t.u0,i_ t.u1,i_ t.u2,i_ t.w0,i_ t.w1,i_ t.w2,i_ t.regs]]) Try.func70 Z Z (nl Z) ?_ (An hk (Own.start w))
 refine sr (Aa Z ?_)
 refine(Aq (by decide) Z Z (fun b1=>?_))
 refine Aa Z ?_
 refine(Aq (by decide) Z Z (fun b2=>?_))
 refine wa Z (wa Z (wa Z (ns (wq Z (Ac Fh Z Z Z (Ab 1 Z)) (wq Z (Ac Gk Z Z Z (Ab 0 Z)) (Aa Z ?_))))))
 obtain⟨x3,hx4,hm5⟩:=Ag hm;clear hm
 refine EV.of (C':=Own noM w [kn noM w.heap.size w w,blk b2 t.cells 28,blk b1 [v_l_logs,v_l_body,v_l_outs] 25]) (pk [2,0,1]) ?_
 refine(A4 (X:=Value×World) (R:=[]) (fun X=>.tuple #[X.1,i_ x3.2]) (fun X=>[]) (fun X=>X.2) (fun X=>Arr X.2 X.1 4 (x3.1.map Edg.cells)) hk (fun _ h=>by cases h;decide) Alt (ec Z (ec Z eN)) (fun M w h1 h2=>have h:=Nn hx4 h_l_logs h_l_body h_l_outs M w h1 h2;h) (fun X6 hF6 hle6=>?_))
 refine wm Z (wq Z (QV.extract Z Z Z) (wq Z (QV.extract Z Z Z) (wa Z (wa Z (nt (WC.seq (sr (wm Z (wq Z (QV.neq Z Z Z Z) (nt ?_))))))))))
 refine wc Z hm5 (fun h7 hm8=>?_) (fun h7 hm9=>?_) <;> clear hm5
 ·skip
  refine sr (wm Z (wa Z (wa Z (wa Z (nt (WC.ret (tr ?_)))))))
  obtain rfl:=(Ae hm8).symm
  exact Q3 Z Z Z Z fun w hw=>kg hw
 refine sk (WQ.then (sr (Aa Z ?_)))
 refine(EV.alloc (by decide) ze26 (fun b10=>?_))
 refine nt (WC.seq (sr (wf Co Z (wl Gv Z (Own.cell 3 Z Z) (wq Z (Ay Try.underlying23 Z Z (h_l_body.le hle6).lenMap) (wm Z (nt ?_)))))))
 obtain⟨o11,ho12,hm13⟩:=Ag hm9;clear hm9;obtain⟨n14,ho15⟩:=A0 ho12
 refine Bz (H2:=[kn noM w.heap.size w X6.2,blk b2 t.cells 28,blk b1 [v_l_logs,v_l_body,v_l_outs] 25]) (τ:=[u_ 2 _,u_ 3 _,u_ 7 _,u_ 8 _,u_ 23 _,u_ 24 _]) (fun (b10n_1:List Int) (x25_1:Int)=>[(25,(true,i_ x25_1))]) (fun b10n_1 x25_1=>[blk b10 (List.map Cg b10n_1) 26]) (fun b10n_1 x25_1 m=>B3 (Fz l) m (b10n_1,x25_1)=some o11) (fun b10n_1 x25_1=>o11=.go (b10n_1,x25_1)) ([0,0,0]:List Int) 0 n14 ho15 ⟨Z,Z,Z,Z,Z,Z,Z,trivial⟩ (pk [0,1,2,3]) ?_ ?_
 ·skip
  rintro b10n_1 x25_1 rfl
  refine WQ.then (sr (wa Z (wa Z (nt (WC.seq (sr ?_))))))
  obtain⟨c16,hm17⟩:=cs hm13;clear hm13
  refine wq Z (Ac (cs:=List.map Cg b10n_1) ag26 ((List.length_map _).trans c16) Z Z (Xu (c:=Cg) (xs:=b10n_1) 0 Z Z)) (wm Z (nt ?_))
  obtain⟨o18,ho19,hm20⟩:=Ag hm17;clear hm17;obtain⟨n21,ho22⟩:=A0 ho19
  refine Bz (H2:=[blk b10 (List.map Cg b10n_1) 26,kn noM w.heap.size w X6.2,blk b2 t.cells 28,blk b1 [v_l_logs,v_l_body,v_l_outs] 25]) (τ:=[u_ 2 _,u_ 3 _,u_ 5 _,u_ 7 _,u_ 37 _]) (fun (units4_2:Int) (x38_2:Int)=>[(4,(true,i_ units4_2)),(38,(true,i_ x38_2))]) (fun units4_2 x38_2=>[]) (fun units4_2 x38_2 m=>B3 (Fy t b10n_1) m (units4_2,x38_2)=some o18) (fun units4_2 x38_2=>o18=.go (units4_2,x38_2)) 1 0 n21 ho22 ⟨Z,Z,Z,Z,Z,Z,Z,trivial⟩ (pk [0,1,2,3]) ?_ ?_
  ·skip
   rintro units4_2 x38_2 rfl
   refine WQ.then (WC.seq ?_)
   obtain⟨o23,ho24,hm25⟩:=Ag hm20;clear hm20;obtain⟨n26,ho27⟩:=A0 ho24
   refine Ci (H2:=[blk b10 (List.map Cg b10n_1) 26,kn noM w.heap.size w X6.2,blk b2 t.cells 28,blk b1 [v_l_logs,v_l_body,v_l_outs] 25]) (τ:=[u_ 2 _,u_ 4 _,u_ 7 _]) (fun (least5_3:Int)=>[(5,(true,i_ least5_3))]) (fun least5_3=>[]) (fun least5_3 m=>B3 (Ix l x3) m least5_3=some o23) (fun least5_3=>o23=.go least5_3) 1 n26 ho27 ⟨Z,Z,Z,Z,trivial⟩ (pk [0,1,2,3]) ?_ ?_
   ·skip
    rintro least5_3 rfl
    refine WQ.then (sr (wm Z (wm Z (wa Z (wa Z (wa Z (nt (WC.ret ?_))))))))
    obtain rfl:=(Ae hm25).symm
    exact Q3 Z Z Z Z fun w hw=>kg hw
   rintro least5_3 m28 hI29
   obtain⟨m30,s31,rfl,hm32,hn33⟩:=Ap hI29;clear hI29;unfold Ix at hm32
   refine WC.seq (sr (wf Co Z (wl Gv Z (Own.cell 3 Z Z) (wq Z (Ay Try.underlying23 Z Z (h_l_body.le hle6).lenMap) (wm Z (wm Z ?_))))))
   obtain⟨x34,hx35,hm36⟩:=Ag hm32;clear hm32
   refine wq Z (QV.call en106 (ec Z (ec Z (ec Z eN))) (fun w hw=>have h:=Xz w hx35 ((Ah 1 Z hk hF6) w hw);h)) (wq Z (QV.not Z Z) (nt ?_))
   refine wc Z hm36 (fun h37 hm38=>?_) (fun h37 hm41=>?_) <;> clear hm36
   ·skip
    refine sk (WQ.then (WC.block (WC.region (wm Z ?_))))
    obtain⟨c39,hm40⟩:=cs hm38;clear hm38
    refine wq Z (QV.add Z Z Z Z c39) (wa Z (WL.nil (WQ.block ?_)))
    exact Ch (least5_3+1) m30 (Ax hm40 hn33) (Nat.lt_succ_self _) ⟨Z,Z,Z,Z,trivial⟩ (pk [0,1,2,3])
   refine WC.exit (te (te (Ai ?_)))
   exact C7 least5_3 (A6 hm41 hn33) ⟨Z,Z,Z,Z,trivial⟩ (pk [0,1,2,3])
  rintro units4_2 x38_2 m42 hI43
  obtain⟨m44,s45,rfl,hm46,hn47⟩:=Ap hI43;clear hI43;unfold Fy at hm46;simp only at hm46
  refine sr (wq Z (QV.lss Z Z Z Z) (nt (WC.seq ?_)))
  refine wc Z hm46 (fun h48 hm49=>?_) (fun h48 hm66=>?_) <;> clear hm46
  ·skip
   refine sk (WQ.then (WC.seq (WC.block (sr (wm Z ?_)))))
   obtain⟨c50,c52,c54,c56,c58,c60,c62,c64,hm65⟩:=cs8 hm49;clear hm49
   refine wq Z (Z0 (xs:=b10n_1) Try.underlying26 pl3 sz3 Z Z Z Z c16 c50) (wa Z (wa Z (nt (B9 (m:=15) (S:=Own noM w [kn noM w.heap.size w X6.2,blk b10 (List.map Cg b10n_1) 26,blk b2 t.cells 28,blk b1 [v_l_logs,v_l_body,v_l_outs] 25]) (by kernel_rfl) (by kernel_rfl) (pk [1,0,2,3]) (zm 0 Z Z (zm 1 Z Z (zm 2 Z Z (zf 3 Se Z Z (wz 4 Z Z (B1 Pq Z Z Z Z c52.1 c52.2) ?_)))))))))
   refine zl 5 pl3 Z Z (Da 2 Z (Fo (off:=0) (i:=x38_2) c52.1 c52.2 Z Z Z) (E8 _ _ _)) (wz 6 Z Z (QV.add Z Z Z Z c54) (wz 7 Z Z (QV.sub Z Z Z Z c56) (zm 8 Z Z (zf 9 Se Z Z (wz 10 Z Z (B1 Pq Z Z Z Z c58.1 c58.2) (zl 11 pl3 Z Z (Da 2 Z (Fo (off:=0) (i:=x38_2) c58.1 c58.2 Z Z Z) (E8 _ _ _)) (wz 12 Z Z (QV.quo Z Z Z Z c60 c62) (wz 13 Z Z (QV.max2 Z Z Z Z) (wz 14 Z Z (QV.assign Z Z) ?_)))))))))
   refine WD.e (by kernel_rfl) ?_
   refine WQ.block (WQ.then (WC.region (wq Z (QV.add Z Z Z Z c64) (wm Z (WL.nil ?_)))))
   exact Bn (max units4_2 (Int.tdiv (((ele b10n_1 x38_2)+(Bi t.u0 t.u1 t.u2 x38_2)) - 1) (Bi t.u0 t.u1 t.u2 x38_2))) (x38_2+1) m44 (Ax hm65 hn47) (Nat.lt_succ_self _) ⟨Z,Z,Z,Z,Z,Z,Z,trivial⟩ (pk [0,1,2,3])
  refine WC.exit (te (te (Ai ?_)))
  exact Cb units4_2 x38_2 (A6 hm66 hn47) ⟨Z,Z,Z,Z,Z,Z,Z,trivial⟩ (pk [0,1,2,3])
 rintro b10n_1 x25_1 m67 hI68
 obtain⟨m69,s70,rfl,hm71,hn72⟩:=Ap hI68;clear hI68;unfold Fz at hm71;simp only at hm71
 refine sr (wq Z (QV.lss Z Z Z Z) (nt (WC.seq ?_)))
 refine wc Z hm71 (fun h73 hm74=>?_) (fun h73 hm95=>?_) <;> clear hm71
 ·skip
  refine sk (WQ.then (WC.seq (WC.block (sr ?_))))
  obtain⟨c75,hm76⟩:=cs hm74;clear hm74
  obtain⟨p77,hp78⟩:=(h_l_body.le hle6).lenMap.ix (sz:=9) Au c75
  refine wq Z (Ad Pp Z Z Z Z hp78) (wq Z (Ac Kk Z Z Z (fun w hw=>((Ah 1 Z hk (h_l_body.le hle6)) w hw).ele hp78 c75)) (Aa Z ?_))
  refine(EV.alloc (by decide) Nz (fun b79=>?_))
  refine Aa Z ?_
  refine(EV.store 0 Z Z Z Z Z Z (vs:=(Stm.cells (ele l.body x25_1))) (show Value.cells _=List.toArray _ from Z) N0 (nl Z) (oc Z (oc Z (oc Z (oc Z (oc Z (oc Z (oc Z (oc Z (oc Z Aw))))))))) ?_)
  refine nr (wf F2 Z (wl pl3 Z (Own.cell 0 Z Z) ?_))
  obtain⟨x80,hx81,hm82⟩:=Ag hm76;clear hm76
  refine wq Z (QV.call Yc (ec Z eN) (fun w hw=>have h:=Fd w hx81 ;h)) ?_
  obtain⟨c83,c85,c87,c89,c91,c93,hm94⟩:=cs6 hm82;clear hm82
  refine wq Z (B1 Pq Z Z Z Z c83.1 c83.2) (wl pl3 rfl (U5 (c:=Cg) (xs:=b10n_1) 1 rfl c85 (by first | rfl | exact Uz | exact Xa c83.1)) (wq Z (QV.add Z Z Z Z c87) (wq Z (B1 Pq Z Z Z Z c89.1 c89.2) (Aa Z ?_))))
  refine(Z2 (c:=Cg) (xs:=b10n_1) 1 x80 ((ele b10n_1 x80)+1) rfl rfl rfl rfl rfl (by first | rfl | exact Uz | exact Tr _ | exact Xa (c89).1) c91 rfl rfl sz3 ?_)
  refine WL.nil (WQ.block (WQ.then (WC.region (wq Z (QV.add Z Z Z Z c93) (wm Z (WL.nil ?_))))))
  exact Bn (upd b10n_1 x80 ((ele b10n_1 x80)+1)) (x25_1+1) m69 (Ax hm94 hn72) (Nat.lt_succ_self _) ⟨Z,Z,Z,Z,Z,Z,Z,trivial⟩ (pk [1,2,3,4])
 refine WC.exit (te (te (Ai ?_)))
 exact Cb b10n_1 x25_1 (A6 hm95 hn72) ⟨Z,Z,Z,Z,Z,Z,Z,trivial⟩ (pk [0,1,2,3])
end Go.Proofs.Ytaimbkndebaaiac
end