/- Walks: the functions do what the models say. -/
import Derived.Test.YtaimbkndebaaiabMCpt
import Derived.Test.YtaimbkndebaaiabProg
import Derived.Test.YtaimbkndebaaiabWOrd
import Derived.Test.YtaimbkndebaaiabSort
import Derived.Test.YtaimbkndebaaiabSSort
import Derived.KernelRfl
namespace Go.Proofs.Ytaimbkndebaaiab
open Go.Rd
set_option linter.unusedVariables false
set_option linter.unusedSimpArgs false
namespace TCpt
theorem ag61 : AggT Try.prog 61 4 := ⟨_, Try.underlying61, rfl, by kernel_rfl⟩
theorem eq61 : EqT Try.prog 61 4 := ⟨by kernel_rfl, ⟨_, Try.underlying61⟩, by kernel_rfl, by kernel_rfl⟩
theorem sl50 : SliceT Try.prog 50 61 4 := ⟨Try.underlying50, by kernel_rfl⟩
theorem sz61 : SizeT Try.prog 61 4 := by unfold SizeT; kernel_rfl
theorem ze61 : ZeroT Try.prog 61 [.int .i64 0, .int .i64 0, .int .i64 0, .int .i64 0] := by unfold ZeroT; kernel_rfl
end TCpt
open TCpt
set_option maxRecDepth 8000 in
theorem slices_Compact___api_Edge_api_Edge__w {v_s : Value} {s : List Edg} {r : List Edg} {K0 : World} (hm : slices_Compact___api_Edge_api_Edge__m s = some r) (h_s : SliceLen v_s s.length) (M : Nat → Prop) (w : World) (hk : Base M K0 w) (hw0 : Own M w [vec v_s 61 4 (List.map Edg.cells s)] w) : Calls Try.prog 67 #[v_s] w (fun e w' => ∃ X : Value × World, e = .returned (X.1) ∧ Own M w (kn M w.heap.size K0 X.2 :: []) w' ∧ Arr X.2 X.1 4 (r.map Edg.cells)) := by
  unfold slices_Compact___api_Edge_api_Edge__m at hm
  refine calls_of_WC (n := 61) (args := [v_s]) Try.func67 rfl rfl (Nat.le_of_ble_eq_true rfl) ?_ (Own.startK hk hw0)
  refine WC.seq ?_
  refine WC.region ?_
  refine WL.q rfl rfl rfl (QV.assign rfl rfl) ?_
  refine WL.nil ?_
  refine WQ.then ?_
  refine WC.seq ?_
  refine WC.seq ?_
  refine WC.region ?_
  refine WL.q rfl rfl rfl (QV.move rfl rfl) ?_
  refine WL.q rfl rfl rfl (QV.lenS Try.underlying50 rfl rfl h_s) ?_
  refine WL.q rfl rfl rfl (QV.lss rfl rfl rfl rfl) ?_
  refine WL.nil ?_
  refine WQ.then ?_
  refine WC.cond rfl (fun h1 => ?_) (fun h1 => ?_)
  · skip
    have hm2 := br_t h1 hm; clear hm
    refine WC.seq ?_
    refine WC.region ?_
    refine WL.q rfl rfl rfl (QV.move rfl rfl) ?_
    refine WL.q rfl rfl rfl (QV.assign rfl rfl) ?_
    refine WL.nil ?_
    refine WQ.then ?_
    refine WC.ret ?_
    refine WQ.then_ret ?_
    obtain rfl := (eq_of_some hm2).symm
    refine WK.freeze hk (fun k3 hle3 hr3 => ?_)
    have hA3 := vec_arr hr3
    refine WQ.ret1 rfl rfl (fun w hw => ?_)
    exact ⟨(v_s, k3), rfl, hw.pick [0] (by decide), hA3⟩
  · skip
    have hm4 := br_f h1 hm; clear hm
    refine WC.skip ?_
    refine WQ.then ?_
    refine WC.seq ?_
    refine WC.seq ?_
    refine WC.region ?_
    refine WL.q rfl rfl rfl (QV.assign rfl rfl) ?_
    refine WL.nil ?_
    refine WQ.then ?_
    obtain ⟨o5, ho6, hm7⟩ := bd_some hm4; clear hm4; obtain ⟨n8, ho9⟩ := lp_some ho6
    refine WC.bloop2 (H2 := [kn M w.heap.size K0 K0]) (τ := [(0, (true, _))]) (fun (ows0_3 : List Edg) (k3_3 : Int) => [(3, (true, .int .i64 k3_3))]) (fun (ows0_3 : List Edg) (k3_3 : Int) => [vec v_s 61 4 (List.map Edg.cells ows0_3)]) (fun (ows0_3 : List Edg) (k3_3 : Int) (m : Nat) => iter (slices_Compact___api_Edge_api_Edge__L0) m (ows0_3, k3_3) = some o5 ∧ SliceLen v_s ows0_3.length) (fun (ows0_3 : List Edg) (k3_3 : Int) => o5 = .go (ows0_3, k3_3) ∧ SliceLen v_s ows0_3.length) s 1 n8 ⟨ho9, h_s⟩ ⟨rfl, rfl, trivial⟩ (fun w hw => hw.pick [1, 0] (by decide)) ?_ ?_
    · skip
      rintro ows0_3 k3_3 ⟨rfl, hlows0_3⟩
      refine WQ.then ?_
      refine WC.seq ?_
      refine WC.region ?_
      refine WL.q rfl rfl rfl (QV.move rfl rfl) ?_
      refine WL.q rfl rfl rfl (QV.assign rfl rfl) ?_
      refine WL.nil ?_
      refine WQ.then ?_
      refine WC.ret ?_
      obtain rfl := (eq_of_some hm7).symm
      refine WK.of (C' := Own M w [kn M w.heap.size K0 K0, vec v_s 61 4 (List.map Edg.cells ows0_3)]) (fun w hw => hw.pick [1, 0] (by decide)) ?_
      refine WK.freeze hk (fun k10 hle10 hr10 => ?_)
      have hA10 := vec_arr hr10
      refine WQ.ret1 rfl rfl (fun w hw => ?_)
      exact ⟨(v_s, k10), rfl, hw.pick [0] (by decide), hA10⟩
    · skip
      rintro ows0_3 k3_3 m11 ⟨hI12, hlows0_3⟩
      obtain ⟨m13, s14, rfl, hm15, hn16⟩ := iter_step hI12; clear hI12; unfold slices_Compact___api_Edge_api_Edge__L0 at hm15; simp only at hm15
      refine WC.seq ?_
      refine WC.seq ?_
      refine WC.region ?_
      refine WL.q rfl rfl rfl (QV.move rfl rfl) ?_
      refine WL.q rfl rfl rfl (QV.move rfl rfl) ?_
      refine WL.q rfl rfl rfl (QV.lenS Try.underlying50 rfl rfl hlows0_3) ?_
      refine WL.q rfl rfl rfl (QV.lss rfl rfl rfl rfl) ?_
      refine WL.nil ?_
      refine WQ.then ?_
      refine WC.cond rfl (fun h17 => ?_) (fun h17 => ?_)
      · skip
        have hm18 := br_t h17 hm15; clear hm15
        refine WC.skip ?_
        refine WQ.then ?_
        refine WC.seq ?_
        refine WC.block ?_
        refine WC.seq ?_
        refine WC.dr (m := 10) (S := Own M w [kn M w.heap.size K0 K0, vec v_s 61 4 (List.map Edg.cells ows0_3)]) (by kernel_rfl) (by kernel_rfl) (fun w hw => hw.pick [1, 0] (by decide)) ?_
        refine WD.q 0 rfl (by kernel_rfl) rfl rfl rfl (QV.move rfl rfl) ?_
        refine WD.q 1 rfl (by kernel_rfl) rfl rfl rfl (QV.move rfl rfl) ?_
        obtain ⟨c19, hm20⟩ := ck_some hm18; clear hm18
        obtain ⟨p21, hp22⟩ := hlows0_3.ix (sz := 4) ln_len c19
        refine WD.q 2 rfl (by kernel_rfl) rfl rfl rfl (QV.indexSlice sl50 rfl rfl rfl rfl hp22) ?_
        refine WD.q 3 rfl (by kernel_rfl) rfl rfl rfl (QV.loadAgg ag61 rfl rfl rfl (fun w hw => ((Own.vecArr 1 rfl) w hw).ele hp22 c19)) ?_
        refine WD.q 4 rfl (by kernel_rfl) rfl rfl rfl (QV.move rfl rfl) ?_
        refine WD.q 5 rfl (by kernel_rfl) rfl rfl rfl (QV.move rfl rfl) ?_
        obtain ⟨c23, hm24⟩ := ck_some hm20; clear hm20
        refine WD.q 6 rfl (by kernel_rfl) rfl rfl rfl (QV.sub rfl rfl rfl rfl c23) ?_
        obtain ⟨c25, hm26⟩ := ck_some hm24; clear hm24
        obtain ⟨p27, hp28⟩ := hlows0_3.ix (sz := 4) ln_len c25
        refine WD.q 7 rfl (by kernel_rfl) rfl rfl rfl (QV.indexSlice sl50 rfl rfl rfl rfl hp28) ?_
        refine WD.q 8 rfl (by kernel_rfl) rfl rfl rfl (QV.loadAgg ag61 rfl rfl rfl (fun w hw => ((Own.vecArr 1 rfl) w hw).ele hp28 c25)) ?_
        refine WD.q 9 rfl (by kernel_rfl) rfl rfl rfl (QV.eqlF eq61 (ns := [(ele ows0_3 k3_3).fr, (ele ows0_3 k3_3).to, (ele ows0_3 k3_3).bk, (ele ows0_3 k3_3).wt]) (ms := [(ele ows0_3 (k3_3 - 1)).fr, (ele ows0_3 (k3_3 - 1)).to, (ele ows0_3 (k3_3 - 1)).bk, (ele ows0_3 (k3_3 - 1)).wt]) rfl rfl rfl rfl rfl rfl) ?_
        refine WD.e (by kernel_rfl) ?_
        refine WQ.then ?_
        refine WC.cond rfl (fun h29 => ?_) (fun h29 => ?_)
        · skip
          have hm30 := br_t h29 hm26; clear hm26
          refine WC.seq ?_
          refine WC.region ?_
          refine WL.q rfl rfl rfl (QV.move rfl rfl) ?_
          refine WL.q rfl rfl rfl (QV.move rfl rfl) ?_
          obtain ⟨c31, hm32⟩ := ck_some hm30; clear hm30
          refine WL.q rfl rfl rfl (QV.sliceLd sl50 rfl rfl hlows0_3 rfl rfl c31) ?_
          refine WL.q rfl rfl rfl (QV.assign rfl rfl) ?_
          refine WL.nil ?_
          refine WQ.then ?_
          refine WC.seq ?_
          refine WC.seq ?_
          refine WC.region ?_
          refine WL.q rfl rfl rfl (QV.assign rfl rfl) ?_
          refine WL.nil ?_
          refine WQ.then ?_
          obtain ⟨o33, ho34, hm35⟩ := bd_some hm32; clear hm32; obtain ⟨n36, ho37⟩ := lp_some ho34
          refine WC.bloop3 (H2 := [kn M w.heap.size K0 K0]) (τ := [(0, (true, _)), (4, (true, _))]) (fun (ows0_4 : List Edg) (k3_4 : Int) (k25_4 : Int) => [(3, (true, .int .i64 k3_4)), (5, (true, .int .i64 k25_4))]) (fun (ows0_4 : List Edg) (k3_4 : Int) (k25_4 : Int) => [vec v_s 61 4 (List.map Edg.cells ows0_4)]) (fun (ows0_4 : List Edg) (k3_4 : Int) (k25_4 : Int) (m : Nat) => iter (slices_Compact___api_Edge_api_Edge__L2 ows0_3 k3_3) m (ows0_4, k3_4, k25_4) = some o33 ∧ SliceLen v_s ows0_4.length) (fun (ows0_4 : List Edg) (k3_4 : Int) (k25_4 : Int) => o33 = .go (ows0_4, k3_4, k25_4) ∧ SliceLen v_s ows0_4.length) ows0_3 k3_3 1 n36 ⟨ho37, hlows0_3⟩ ⟨rfl, rfl, rfl, rfl, trivial⟩ (fun w hw => hw.pick [0, 1] (by decide)) ?_ ?_
          · skip
            rintro ows0_4 k3_4 k25_4 ⟨rfl, hlows0_4⟩
            refine WQ.then ?_
            refine WC.seq ?_
            refine WC.region ?_
            refine WL.q rfl rfl rfl (QV.move rfl rfl) ?_
            refine WL.q rfl rfl rfl (QV.move rfl rfl) ?_
            obtain ⟨c38, hm39⟩ := ck_some hm35; clear hm35
            refine WL.q rfl rfl rfl (QV.sliceLd sl50 rfl rfl hlows0_4 rfl rfl c38) ?_
            refine WL.effect rfl ?_
            refine (EV.clear (enc := Edg.cells) (d := none) (dd := 0) 0 (Edg.mk 0 0 0 0) sl50 ze61 Edg.cells_len (by decide) (fun c hc => Edg.cells_one [_] _ (List.mem_singleton.2 rfl) c hc) rfl rfl rfl c38 rfl (.inr rfl) ?_ (fun _ h => (by cases h)))
            have hl40 : SliceLen v_s (clr ows0_4 k3_4 (Edg.mk 0 0 0 0)).length := (clr_len c38.2.1).symm ▸ hlows0_4
            refine WL.nil ?_
            refine WQ.then ?_
            refine WC.seq ?_
            refine WC.region ?_
            refine WL.q rfl rfl rfl (QV.move rfl rfl) ?_
            refine WL.q rfl rfl rfl (QV.move rfl rfl) ?_
            obtain ⟨c41, hm42⟩ := ck_some hm39; clear hm39
            refine WL.q rfl rfl rfl (QV.sliceHd sl50 rfl rfl hl40 rfl rfl c41) ?_
            refine WL.q rfl rfl rfl (QV.assign rfl rfl) ?_
            refine WL.nil ?_
            refine WQ.then ?_
            refine WC.ret ?_
            refine WQ.block_ret ?_
            refine WQ.then_ret ?_
            refine WQ.then_ret ?_
            refine WQ.block_ret ?_
            refine WQ.then_ret ?_
            refine WQ.then_ret ?_
            obtain rfl := up_ret hm42 hn16
            obtain rfl := (eq_of_some hm7).symm
            refine WK.of (C' := Own M w [kn M w.heap.size K0 K0, vec v_s 61 4 (List.map Edg.cells (clr ows0_4 k3_4 (Edg.mk 0 0 0 0)))]) (fun w hw => hw.pick [1, 0] (by decide)) ?_
            refine WK.freeze hk (fun k43 hle43 hr43 => ?_)
            have hA43 := vec_arr hr43
            have hA44 := subS_sub hA43 c41
            refine WQ.ret1 rfl rfl (fun w hw => ?_)
            exact ⟨((subS v_s 4 (Int.toNat 0) (Int.toNat k3_4)), k43), rfl, hw.pick [0] (by decide), hA44⟩
          · skip
            rintro ows0_4 k3_4 k25_4 m45 ⟨hI46, hlows0_4⟩
            obtain ⟨m47, s48, rfl, hm49, hn50⟩ := iter_step hI46; clear hI46; unfold slices_Compact___api_Edge_api_Edge__L2 at hm49; simp only at hm49
            refine WC.seq ?_
            refine WC.seq ?_
            refine WC.region ?_
            refine WL.q rfl rfl rfl (QV.move rfl rfl) ?_
            refine WL.q rfl rfl rfl (QV.move rfl rfl) ?_
            obtain ⟨c51, hm52⟩ := ck_some hm49; clear hm49
            refine WL.q rfl rfl rfl (QV.lenS Try.underlying50 rfl rfl (subS_slen (sz := 4) hlows0_4 c51)) ?_
            refine WL.q rfl rfl rfl (QV.lss rfl rfl rfl rfl) ?_
            refine WL.nil ?_
            refine WQ.then ?_
            refine WC.cond rfl (fun h53 => ?_) (fun h53 => ?_)
            · skip
              have hm54 := br_t h53 hm52; clear hm52
              refine WC.skip ?_
              refine WQ.then ?_
              refine WC.seq ?_
              refine WC.block ?_
              refine WC.seq ?_
              refine WC.dr (m := 10) (S := Own M w [kn M w.heap.size K0 K0, vec v_s 61 4 (List.map Edg.cells ows0_4)]) (by kernel_rfl) (by kernel_rfl) (fun w hw => hw.pick [1, 0] (by decide)) ?_
              refine WD.q 0 rfl (by kernel_rfl) rfl rfl rfl (QV.move rfl rfl) ?_
              refine WD.q 1 rfl (by kernel_rfl) rfl rfl rfl (QV.move rfl rfl) ?_
              obtain ⟨c55, hm56⟩ := ck_some hm54; clear hm54
              obtain ⟨p57, hp58⟩ := (subS_slen (sz := 4) hlows0_4 c51).ix (sz := 4) ln_len c55
              refine WD.q 2 rfl (by kernel_rfl) rfl rfl rfl (QV.indexSlice sl50 rfl rfl rfl rfl hp58) ?_
              refine WD.q 3 rfl (by kernel_rfl) rfl rfl rfl (QV.loadAgg ag61 rfl rfl rfl (fun w hw => ((fun w hw => subS_sub ((Own.vecArr 1 rfl) w hw) c51) w hw).ele hp58 c55)) ?_
              refine WD.q 4 rfl (by kernel_rfl) rfl rfl rfl (QV.move rfl rfl) ?_
              refine WD.q 5 rfl (by kernel_rfl) rfl rfl rfl (QV.move rfl rfl) ?_
              obtain ⟨c59, hm60⟩ := ck_some hm56; clear hm56
              refine WD.q 6 rfl (by kernel_rfl) rfl rfl rfl (QV.sub rfl rfl rfl rfl c59) ?_
              obtain ⟨c61, hm62⟩ := ck_some hm60; clear hm60
              obtain ⟨p63, hp64⟩ := (subS_slen (sz := 4) hlows0_4 c51).ix (sz := 4) ln_len c61
              refine WD.q 7 rfl (by kernel_rfl) rfl rfl rfl (QV.indexSlice sl50 rfl rfl rfl rfl hp64) ?_
              refine WD.q 8 rfl (by kernel_rfl) rfl rfl rfl (QV.loadAgg ag61 rfl rfl rfl (fun w hw => ((fun w hw => subS_sub ((Own.vecArr 1 rfl) w hw) c51) w hw).ele hp64 c61)) ?_
              refine WD.q 9 rfl (by kernel_rfl) rfl rfl rfl (QV.neqF eq61 (ns := [(ele (sub ows0_4 k3_3 (ln ows0_3)) k25_4).fr, (ele (sub ows0_4 k3_3 (ln ows0_3)) k25_4).to, (ele (sub ows0_4 k3_3 (ln ows0_3)) k25_4).bk, (ele (sub ows0_4 k3_3 (ln ows0_3)) k25_4).wt]) (ms := [(ele (sub ows0_4 k3_3 (ln ows0_3)) (k25_4 - 1)).fr, (ele (sub ows0_4 k3_3 (ln ows0_3)) (k25_4 - 1)).to, (ele (sub ows0_4 k3_3 (ln ows0_3)) (k25_4 - 1)).bk, (ele (sub ows0_4 k3_3 (ln ows0_3)) (k25_4 - 1)).wt]) rfl rfl rfl rfl rfl rfl) ?_
              refine WD.e (by kernel_rfl) ?_
              refine WQ.then ?_
              refine WC.cond rfl (fun h65 => ?_) (fun h65 => ?_)
              · skip
                have hm66 := br_t h65 hm62; clear hm62
                refine WC.seq ?_
                refine WC.region ?_
                refine WL.q rfl rfl rfl (QV.move rfl rfl) ?_
                refine WL.q rfl rfl rfl (QV.move rfl rfl) ?_
                refine WL.q rfl rfl rfl (QV.move rfl rfl) ?_
                refine WL.q rfl rfl rfl (QV.move rfl rfl) ?_
                obtain ⟨c67, hm68⟩ := ck_some hm66; clear hm66
                obtain ⟨p69, hp70⟩ := (subS_slen (sz := 4) hlows0_4 c51).ix (sz := 4) ln_len c67
                refine WL.q rfl rfl rfl (QV.indexSlice sl50 rfl rfl rfl rfl hp70) ?_
                refine WL.q rfl rfl rfl (QV.loadAgg ag61 rfl rfl rfl (fun w hw => ((fun w hw => subS_sub ((Own.vecArr 0 rfl) w hw) c51) w hw).ele hp70 c67)) ?_
                obtain ⟨c71, hm72⟩ := ck_some hm68; clear hm68
                obtain ⟨p73, hp74⟩ := hlows0_4.ix (sz := 4) ln_len c71
                refine WL.q rfl rfl rfl (QV.indexSlice sl50 rfl rfl rfl rfl hp74) ?_
                refine WL.effect rfl ?_
                refine (EV.storeE (enc := Edg.cells) (off := 0) (vs := [.int .i64 ((ele (sub ows0_4 k3_3 (ln ows0_3)) k25_4).fr), .int .i64 ((ele (sub ows0_4 k3_3 (ln ows0_3)) k25_4).to), .int .i64 ((ele (sub ows0_4 k3_3 (ln ows0_3)) k25_4).bk), .int .i64 ((ele (sub ows0_4 k3_3 (ln ows0_3)) k25_4).wt)]) 0 (ele (sub ows0_4 k3_3 (ln ows0_3)) k25_4) rfl rfl rfl rfl rfl hp74 c71 (by first | rfl | exact addr_zero _) (show Value.cells _ = List.toArray _ from rfl) sz61 (Nat.le_of_ble_eq_true rfl) (one_cons rfl (one_cons rfl (one_cons rfl (one_cons rfl one_nil)))) rfl ?_)
                have hl75 : SliceLen v_s (upd ows0_4 k3_4 (ele (sub ows0_4 k3_3 (ln ows0_3)) k25_4)).length := slen_upd hlows0_4
                refine WL.nil ?_
                refine WQ.then ?_
                refine WC.region ?_
                refine WL.q rfl rfl rfl (QV.move rfl rfl) ?_
                obtain ⟨c76, hm77⟩ := ck_some hm72; clear hm72
                refine WL.q rfl rfl rfl (QV.add rfl rfl rfl rfl c76) ?_
                refine WL.q rfl rfl rfl (QV.assign rfl rfl) ?_
                refine WL.nil ?_
                refine WQ.block ?_
                refine WQ.then ?_
                refine WC.region ?_
                refine WL.q rfl rfl rfl (QV.move rfl rfl) ?_
                obtain ⟨c78, hm79⟩ := ck_some hm77; clear hm77
                refine WL.q rfl rfl rfl (QV.add rfl rfl rfl rfl c78) ?_
                refine WL.q rfl rfl rfl (QV.assign rfl rfl) ?_
                refine WL.nil ?_
                exact WQ.again3 (upd ows0_4 k3_4 (ele (sub ows0_4 k3_3 (ln ows0_3)) k25_4)) (k3_4 + 1) (k25_4 + 1) m47 ⟨up_next hm79 hn50, hl75⟩ (Nat.lt_succ_self _) ⟨rfl, rfl, rfl, rfl, trivial⟩ (fun w hw => hw.pick [0, 1] (by decide))
              · skip
                have hm80 := br_f h65 hm62; clear hm62
                refine WC.skip ?_
                refine WQ.block ?_
                refine WQ.then ?_
                refine WC.region ?_
                refine WL.q rfl rfl rfl (QV.move rfl rfl) ?_
                obtain ⟨c81, hm82⟩ := ck_some hm80; clear hm80
                refine WL.q rfl rfl rfl (QV.add rfl rfl rfl rfl c81) ?_
                refine WL.q rfl rfl rfl (QV.assign rfl rfl) ?_
                refine WL.nil ?_
                exact WQ.again3 ows0_4 k3_4 (k25_4 + 1) m47 ⟨up_next hm82 hn50, hlows0_4⟩ (Nat.lt_succ_self _) ⟨rfl, rfl, rfl, rfl, trivial⟩ (fun w hw => hw.pick [0, 1] (by decide))
            · skip
              have hm83 := br_f h53 hm52; clear hm52
              refine WC.exit ?_
              refine WQ.then_exit ?_
              refine WQ.then_exit ?_
              refine WQ.block_exit ?_
              exact WQ.out3 ows0_4 k3_4 k25_4 ⟨up_brk hm83 hn50, hlows0_4⟩ ⟨rfl, rfl, rfl, rfl, trivial⟩ (fun w hw => hw.pick [0, 1] (by decide))
        · skip
          have hm84 := br_f h29 hm26; clear hm26
          refine WC.skip ?_
          refine WQ.block ?_
          refine WQ.then ?_
          refine WC.region ?_
          refine WL.q rfl rfl rfl (QV.move rfl rfl) ?_
          obtain ⟨c85, hm86⟩ := ck_some hm84; clear hm84
          refine WL.q rfl rfl rfl (QV.add rfl rfl rfl rfl c85) ?_
          refine WL.q rfl rfl rfl (QV.assign rfl rfl) ?_
          refine WL.nil ?_
          exact WQ.again2 ows0_3 (k3_3 + 1) m13 ⟨up_next hm86 hn16, hlows0_3⟩ (Nat.lt_succ_self _) ⟨rfl, rfl, trivial⟩ (fun w hw => hw.pick [0, 1] (by decide))
      · skip
        have hm87 := br_f h17 hm15; clear hm15
        refine WC.exit ?_
        refine WQ.then_exit ?_
        refine WQ.then_exit ?_
        refine WQ.block_exit ?_
        exact WQ.out2 ows0_3 k3_3 ⟨up_brk hm87 hn16, hlows0_3⟩ ⟨rfl, rfl, trivial⟩ (fun w hw => hw.pick [0, 1] (by decide))

def sortRen : Go.Shelf.Ren := ⟨fun n => match n with | 6 => 65 | 14 => 106 | 15 => 94 | 20 => 124 | 21 => 125 | 22 => 126 | 23 => 127 | 24 => 128 | 25 => 129 | 26 => 130 | 27 => 131 | 28 => 118 | 29 => 119 | 46 => 139 | 47 => 140 | 48 => 141 | 49 => 142 | 50 => 143 | 57 => 146 | n => n, fun n => match n with | 22 => 50 | 24 => 61 | 25 => 112 | 39 => 143 | 45 => 172 | 46 => 173 | 50 => 177 | 53 => 165 | 55 => 167 | 66 => 186 | 70 => 118 | 76 => 194 | 77 => 195 | n => n, fun n => match n with  | n => n⟩
theorem sortL : Go.Proofs.SlLaysF0.n6 Try.prog sortRen where
  mixed := by kernel_rfl
  f6 := ⟨Try.f65.name, by kernel_rfl, Try.func65.trans (congrArg some (by kernel_rfl))⟩
  f14 := ⟨Try.f106.name, by kernel_rfl, Try.func106.trans (congrArg some (by kernel_rfl))⟩
  f15 := Try.func94.trans (congrArg some (by kernel_rfl))
  f20 := ⟨Try.f124.name, by kernel_rfl, Try.func124.trans (congrArg some (by kernel_rfl))⟩
  f21 := ⟨Try.f125.name, by kernel_rfl, Try.func125.trans (congrArg some (by kernel_rfl))⟩
  f22 := ⟨Try.f126.name, by kernel_rfl, Try.func126.trans (congrArg some (by kernel_rfl))⟩
  f23 := ⟨Try.f127.name, by kernel_rfl, Try.func127.trans (congrArg some (by kernel_rfl))⟩
  f24 := ⟨Try.f128.name, by kernel_rfl, Try.func128.trans (congrArg some (by kernel_rfl))⟩
  f25 := ⟨Try.f129.name, by kernel_rfl, Try.func129.trans (congrArg some (by kernel_rfl))⟩
  f26 := ⟨Try.f130.name, by kernel_rfl, Try.func130.trans (congrArg some (by kernel_rfl))⟩
  f27 := ⟨Try.f131.name, by kernel_rfl, Try.func131.trans (congrArg some (by kernel_rfl))⟩
  f28 := Try.func118.trans (congrArg some (by kernel_rfl))
  f29 := Try.func119.trans (congrArg some (by kernel_rfl))
  f46 := ⟨Try.f139.name, by kernel_rfl, Try.func139.trans (congrArg some (by kernel_rfl))⟩
  f47 := Try.func140.trans (congrArg some (by kernel_rfl))
  f48 := Try.func141.trans (congrArg some (by kernel_rfl))
  f49 := ⟨Try.f142.name, by kernel_rfl, Try.func142.trans (congrArg some (by kernel_rfl))⟩
  f50 := ⟨Try.f143.name, by kernel_rfl, Try.func143.trans (congrArg some (by kernel_rfl))⟩
  f57 := ⟨Try.f146.name, by kernel_rfl, Try.func146.trans (congrArg some (by kernel_rfl))⟩
  t0 := Try.underlying0
  a0 := Try.isAgg0
  z0 := Try.sizeOf0
  v0 := Try.zeroValue0
  t3 := Try.underlying3
  a3 := Try.isAgg3
  z3 := Try.sizeOf3
  v3 := Try.zeroValue3
  t4 := Try.underlying4
  a4 := Try.isAgg4
  z4 := Try.sizeOf4
  v4 := Try.zeroValue4
  t5 := Try.underlying5
  a5 := Try.isAgg5
  z5 := Try.sizeOf5
  v5 := Try.zeroValue5
  t9 := Try.underlying9
  a9 := Try.isAgg9
  z9 := Try.sizeOf9
  v9 := Try.zeroValue9
  t22 := Try.underlying50
  a22 := Try.isAgg50
  z22 := Try.sizeOf50
  v22 := Try.zeroValue50
  t25 := Try.underlying112
  a25 := Try.isAgg112
  z25 := Try.sizeOf112
  v25 := Try.zeroValue112
  t39 := Try.underlying143
  a39 := Try.isAgg143
  z39 := Try.sizeOf143
  v39 := Try.zeroValue143
  t45 := Try.underlying172
  a45 := Try.isAgg172
  z45 := Try.sizeOf172
  v45 := Try.zeroValue172
  t46 := Try.underlying173
  a46 := Try.isAgg173
  z46 := Try.sizeOf173
  v46 := Try.zeroValue173
  t50 := Try.underlying177
  a50 := Try.isAgg177
  z50 := Try.sizeOf177
  v50 := Try.zeroValue177
  t53 := Try.underlying165
  a53 := Try.isAgg165
  z53 := Try.sizeOf165
  v53 := Try.zeroValue165
  t55 := Try.underlying167
  a55 := Try.isAgg167
  z55 := Try.sizeOf167
  v55 := Try.zeroValue167
  t66 := Try.underlying186
  a66 := Try.isAgg186
  z66 := Try.sizeOf186
  v66 := Try.zeroValue186
  t70 := Try.underlying118
  a70 := Try.isAgg118
  z70 := Try.sizeOf118
  v70 := Try.zeroValue118
  t76 := Try.underlying194
  a76 := Try.isAgg194
  z76 := Try.sizeOf194
  v76 := Try.zeroValue194
  t77 := Try.underlying195
  a77 := Try.isAgg195
  z77 := Try.sizeOf195
  v77 := Try.zeroValue195
theorem sortE_nil : sortE [] = [] := by simp [sortE]
theorem SortFunc_w {v_x : Value} {x : List Edg} {r : List Edg} {K0 : World} (hm : SortFunc_m x = some r) (h_x : SliceLen v_x x.length) (M : Nat → Prop) (w : World) (hk : Base M K0 w) (hw0 : Own M w [vec v_x 61 4 (List.map Edg.cells x)] w) : Calls Try.prog 65 #[v_x, .func (.func 66) #[] #[]] w (fun e w' => ∃ X : World, e = .returned (.tuple #[]) ∧ Own M w (kn M w.heap.size K0 X :: [vec v_x 61 4 (List.map Edg.cells r)]) w' ∧ SliceLen v_x (r).length) := by
  obtain ⟨hlt, h2⟩ := ck_some hm
  obtain rfl := eq_of_some h2
  have hlen : (sortE x).length = x.length := List.length_mergeSort ..
  obtain ⟨a, c, rfl, ha, hc⟩ := h_x
  by_cases h0 : x = []
  · subst h0
    refine (Go.Proofs.AnyF.slices_SortFunc_none { sortL with } a c (.func (.func 66) #[] #[]) w).mono ?_
    rintro e w' ⟨rfl, rfl⟩
    rw [sortE_nil]
    exact ⟨K0, rfl, Own.startK hk hw0, ⟨a, c, rfl, ha, hc⟩⟩
  · obtain ⟨q, rfl⟩ := Option.isSome_iff_exists.1 (ha (by cases x with | nil => exact absurd rfl h0 | cons _ _ => simp))
    have hv := hw0.head
    have hq : ∃ b, q = ⟨b, 0, none⟩ := by
      rcases hv.1.2 with ⟨h, _⟩ | ⟨g, cap, cur, hv, _⟩
      · cases h
      · simp only [Value.slice.injEq, Option.some.injEq] at hv; exact ⟨g, hv.1⟩
    obtain ⟨b, rfl⟩ := hq
    obtain ⟨hH, _, hb⟩ := vec_holdsK Edg.cells_len (by decide) hv
    refine (Go.Proofs.AnyQ.slices_SortFunc_total sortL 4 Try.isAgg61 Try.sizeOf61 Edg.cells Edg.cells_len (fun u v hv => Edg.cells_one [u] u (List.mem_singleton.2 rfl) v hv) ordV ord_swo 66 #[] b 0 c x.toArray w (enters_of Try.func66 (by kernel_rfl) rfl) ?_ hH hb (by simpa using hlt) ord_total).mono ?_
    · intro m os dk hdk u v
      exact (dep_order_w _ (order_s u v)).mono fun e w' ⟨he, hg⟩ => ⟨he, grow_of hg⟩
    · rintro e w' ⟨rfl, m, os, rfl⟩
      exact ⟨K0, rfl, Own.sorted hk Edg.cells_len (by decide) hw0 hlen m os, by rw [hlen]; exact ⟨_, c, rfl, ha, hc⟩⟩
end Go.Proofs.Ytaimbkndebaaiab
