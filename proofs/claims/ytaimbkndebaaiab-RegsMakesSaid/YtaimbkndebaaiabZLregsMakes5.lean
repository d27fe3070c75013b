/- Texts that the law stands on: part 5. -/
import Derived.Test.YtaimbkndebaaiabZLregsMakes4
import Derived.Test.YtaimbkndebaaiabProg
import Derived.KernelRfl
section
namespace Go.Proofs.Ytaimbkndebaaiab
open Go.Rd
set_option linter.unusedVariables false
set_option linter.unusedSimpArgs false
namespace TCpt
theorem ag61 : AggT Try.prog 61 4 := ⟨_, Try.underlying61, rfl, by kernel_rfl⟩
theorem eq61 : EqT Try.prog 61 4 := ⟨by kernel_rfl, ⟨_, Try.underlying61⟩, by kernel_rfl, by kernel_rfl⟩
theorem sl50 : SliceT Try.prog 50 61 4 := ⟨Try.underlying50, by kernel_rfl⟩
theorem sz61 : SizeT Try.prog 61 4 := by unfold SizeT; kernel_rfl
theorem ze61 : ZeroT Try.prog 61 [.int .i64 0, .int .i64 0, .int .i64 0, .int .i64 0] := by unfold ZeroT; kernel_rfl
end TCpt
open TCpt
set_option maxRecDepth 8000 in
theorem slices_Compact___api_Edge_api_Edge__w {v_s : Value} {s : List Edg} {r : List Edg} {K0 : World} (hm : slices_Compact___api_Edge_api_Edge__m s = some r) (h_s : SliceLen v_s s.length) (M : Nat → Prop) (w : World) (hk : Base M K0 w) (hw0 : Own M w [vec v_s 61 4 (List.map Edg.cells s)] w) : Calls Try.prog 67 #[v_s] w (fun e w' => ∃ X : Value × World, e = .returned (X.1) ∧ Own M w (kn M w.heap.size K0 X.2 :: []) w' ∧ Arr X.2 X.1 4 (r.map Edg.cells)) := by
  unfold slices_Compact___api_Edge_api_Edge__m at hm
  refine calls_of_WC (n := 61) (args := [v_s]) Try.func67 rfl rfl (Nat.le_of_ble_eq_true rfl) ?_ (Own.startK hk hw0)
  refine WC.seq ?_
  refine WC.region ?_
  refine WL.q rfl rfl rfl (QV.assign rfl rfl) ?_
  refine WL.nil ?_
  refine WQ.then ?_
  refine WC.seq ?_
  refine WC.seq ?_
  refine WC.region ?_
  refine WL.q rfl rfl rfl (QV.move rfl rfl) ?_
  refine WL.q rfl rfl rfl (QV.lenS Try.underlying50 rfl rfl h_s) ?_
  refine WL.q rfl rfl rfl (QV.lss rfl rfl rfl rfl) ?_
  refine WL.nil ?_
  refine WQ.then ?_
  refine WC.cond rfl (fun h1 => ?_) (fun h1 => ?_)
  · skip
    have hm2 := br_t h1 hm; clear hm
    refine WC.seq ?_
    refine WC.region ?_
    refine WL.q rfl rfl rfl (QV.move rfl rfl) ?_
    refine WL.q rfl rfl rfl (QV.assign rfl rfl) ?_
    refine WL.nil ?_
    refine WQ.then ?_
    refine WC.ret ?_
    refine WQ.then_ret ?_
    obtain rfl := (eq_of_some hm2).symm
    refine WK.freeze hk (fun k3 hle3 hr3 => ?_)
    have hA3 := vec_arr hr3
    refine WQ.ret1 rfl rfl (fun w hw => ?_)
    exact ⟨(v_s, k3), rfl, hw.pick [0] (by decide), hA3⟩
  · skip
    have hm4 := br_f h1 hm; clear hm
    refine WC.skip ?_
    refine WQ.then ?_
    refine WC.seq ?_
    refine WC.seq ?_
    refine WC.region ?_
    refine WL.q rfl rfl rfl (QV.assign rfl rfl) ?_
    refine WL.nil ?_
    refine WQ.then ?_
    obtain ⟨o5, ho6, hm7⟩ := bd_some hm4; clear hm4; obtain ⟨n8, ho9⟩ := lp_some ho6
    refine WC.bloop2 (H2 := [kn M w.heap.size K0 K0]) (τ := [(0, (true, _))]) (fun (ows0_3 : List Edg) (k3_3 : Int) => [(3, (true, .int .i64 k3_3))]) (fun (ows0_3 : List Edg) (k3_3 : Int) => [vec v_s 61 4 (List.map Edg.cells ows0_3)]) (fun (ows0_3 : List Edg) (k3_3 : Int) (m : Nat) => iter (slices_Compact___api_Edge_api_Edge__L0) m (ows0_3, k3_3) = some o5 ∧ SliceLen v_s ows0_3.length) (fun (ows0_3 : List Edg) (k3_3 : Int) => o5 = .go (ows0_3, k3_3) ∧ SliceLen v_s ows0_3.length) s 1 n8 ⟨ho9, h_s⟩ ⟨rfl, rfl, trivial⟩ (fun w hw => hw.pick [1, 0] (by decide)) ?_ ?_
    · skip
      rintro ows0_3 k3_3 ⟨rfl, hlows0_3⟩
      refine WQ.then ?_
      refine WC.seq ?_
      refine WC.region ?_
      refine WL.q rfl rfl rfl (QV.move rfl rfl) ?_
      refine WL.q rfl rfl rfl (QV.assign rfl rfl) ?_
      refine WL.nil ?_
      refine WQ.then ?_
      refine WC.ret ?_
      obtain rfl := (eq_of_some hm7).symm
      refine WK.of (C' := Own M w [kn M w.heap.size K0 K0, vec v_s 61 4 (List.map Edg.cells ows0_3)]) (fun w hw => hw.pick [1, 0] (by decide)) ?_
      refine WK.freeze hk (fun k10 hle10 hr10 => ?_)
      have hA10 := vec_arr hr10
      refine WQ.ret1 rfl rfl (fun w hw => ?_)
      exact ⟨(v_s, k10), rfl, hw.pick [0] (by decide), hA10⟩
    · skip
      rintro ows0_3 k3_3 m11 ⟨hI12, hlows0_3⟩
      obtain ⟨m13, s14, rfl, hm15, hn16⟩ := iter_step hI12; clear hI12; unfold slices_Compact___api_Edge_api_Edge__L0 at hm15; simp only at hm15
      refine WC.seq ?_
      refine WC.seq ?_
      refine WC.region ?_
      refine WL.q rfl rfl rfl (QV.move rfl rfl) ?_
      refine WL.q rfl rfl rfl (QV.move rfl rfl) ?_
      refine WL.q rfl rfl rfl (QV.lenS Try.underlying50 rfl rfl hlows0_3) ?_
      refine WL.q rfl rfl rfl (QV.lss rfl rfl rfl rfl) ?_
      refine WL.nil ?_
      refine WQ.then ?_
      refine WC.cond rfl (fun h17 => ?_) (fun h17 => ?_)
      · skip
        have hm18 := br_t h17 hm15; clear hm15
        refine WC.skip ?_
        refine WQ.then ?_
        refine WC.seq ?_
        refine WC.block ?_
        refine WC.seq ?_
        refine WC.dr (m := 10) (S := Own M w [kn M w.heap.size K0 K0, vec v_s 61 4 (List.map Edg.cells ows0_3)]) (by kernel_rfl) (by kernel_rfl) (fun w hw => hw.pick [1, 0] (by decide)) ?_
        refine WD.q 0 rfl (by kernel_rfl) rfl rfl rfl (QV.move rfl rfl) ?_
        refine WD.q 1 rfl (by kernel_rfl) rfl rfl rfl (QV.move rfl rfl) ?_
        obtain ⟨c19, hm20⟩ := ck_some hm18; clear hm18
        obtain ⟨p21, hp22⟩ := hlows0_3.ix (sz := 4) ln_len c19
        refine WD.q 2 rfl (by kernel_rfl) rfl rfl rfl (QV.indexSlice sl50 rfl rfl rfl rfl hp22) ?_
        refine WD.q 3 rfl (by kernel_rfl) rfl rfl rfl (QV.loadAgg ag61 rfl rfl rfl (fun w hw => ((Own.vecArr 1 rfl) w hw).ele hp22 c19)) ?_
        refine WD.q 4 rfl (by kernel_rfl) rfl rfl rfl (QV.move rfl rfl) ?_
        refine WD.q 5 rfl (by kernel_rfl) rfl rfl rfl (QV.move rfl rfl) ?_
        obtain ⟨c23, hm24⟩ := ck_some hm20; clear hm20
        refine WD.q 6 rfl (by kernel_rfl) rfl rfl rfl (QV.sub rfl rfl rfl rfl c23) ?_
        obtain ⟨c25, hm26⟩ := ck_some hm24; clear hm24
        obtain ⟨p27, hp28⟩ := hlows0_3.ix (sz := 4) ln_len c25
        refine WD.q 7 rfl (by kernel_rfl) rfl rfl rfl (QV.indexSlice sl50 rfl rfl rfl rfl hp28) ?_
        refine WD.q 8 rfl (by kernel_rfl) rfl rfl rfl (QV.loadAgg ag61 rfl rfl rfl (fun w hw => ((Own.vecArr 1 rfl) w hw).ele hp28 c25)) ?_
        refine WD.q 9 rfl (by kernel_rfl) rfl rfl rfl (QV.eqlF eq61 (ns := [(ele ows0_3 k3_3).fr, (ele ows0_3 k3_3).to, (ele ows0_3 k3_3).bk, (ele ows0_3 k3_3).wt]) (ms := [(ele ows0_3 (k3_3 - 1)).fr, (ele ows0_3 (k3_3 - 1)).to, (ele ows0_3 (k3_3 - 1)).bk, (ele ows0_3 (k3_3 - 1)).wt]) rfl rfl rfl rfl rfl rfl) ?_
        refine WD.e (by kernel_rfl) ?_
        refine WQ.then ?_
        refine WC.cond rfl (fun h29 => ?_) (fun h29 => ?_)
        · skip
          have hm30 := br_t h29 hm26; clear hm26
          refine WC.seq ?_
          refine WC.region ?_
          refine WL.q rfl rfl rfl (QV.move rfl rfl) ?_
          refine WL.q rfl rfl rfl (QV.move rfl rfl) ?_
          obtain ⟨c31, hm32⟩ := ck_some hm30; clear hm30
          refine WL.q rfl rfl rfl (QV.sliceLd sl50 rfl rfl hlows0_3 rfl rfl c31) ?_
          refine WL.q rfl rfl rfl (QV.assign rfl rfl) ?_
          refine WL.nil ?_
          refine WQ.then ?_
          refine WC.seq ?_
          refine WC.seq ?_
          refine WC.region ?_
          refine WL.q rfl rfl rfl (QV.assign rfl rfl) ?_
          refine WL.nil ?_
          refine WQ.then ?_
          obtain ⟨o33, ho34, hm35⟩ := bd_some hm32; clear hm32; obtain ⟨n36, ho37⟩ := lp_some ho34
          refine WC.bloop3 (H2 := [kn M w.heap.size K0 K0]) (τ := [(0, (true, _)), (4, (true, _))]) (fun (ows0_4 : List Edg) (k3_4 : Int) (k25_4 : Int) => [(3, (true, .int .i64 k3_4)), (5, (true, .int .i64 k25_4))]) (fun (ows0_4 : List Edg) (k3_4 : Int) (k25_4 : Int) => [vec v_s 61 4 (List.map Edg.cells ows0_4)]) (fun (ows0_4 : List Edg) (k3_4 : Int) (k25_4 : Int) (m : Nat) => iter (slices_Compact___api_Edge_api_Edge__L2 ows0_3 k3_3) m (ows0_4, k3_4, k25_4) = some o33 ∧ SliceLen v_s ows0_4.length) (fun (ows0_4 : List Edg) (k3_4 : Int) (k25_4 : Int) => o33 = .go (ows0_4, k3_4, k25_4) ∧ SliceLen v_s ows0_4.length) ows0_3 k3_3 1 n36 ⟨ho37, hlows0_3⟩ ⟨rfl, rfl, rfl, rfl, trivial⟩ (fun w hw => hw.pick [0, 1] (by decide)) ?_ ?_
          · skip
            rintro ows0_4 k3_4 k25_4 ⟨rfl, hlows0_4⟩
            refine WQ.then ?_
            refine WC.seq ?_
            refine WC.region ?_
            refine WL.q rfl rfl rfl (QV.move rfl rfl) ?_
            refine WL.q rfl rfl rfl (QV.move rfl rfl) ?_
            obtain ⟨c38, hm39⟩ := ck_some hm35; clear hm35
            refine WL.q rfl rfl rfl (QV.sliceLd sl50 rfl rfl hlows0_4 rfl rfl c38) ?_
            refine WL.effect rfl ?_
            refine (EV.clear (enc := Edg.cells) (d := none) (dd := 0) 0 (Edg.mk 0 0 0 0) sl50 ze61 Edg.cells_len (by decide) (fun c hc => Edg.cells_one [_] _ (List.mem_singleton.2 rfl) c hc) rfl rfl rfl c38 rfl (.inr rfl) ?_ (fun _ h => (by cases h)))
            have hl40 : SliceLen v_s (clr ows0_4 k3_4 (Edg.mk 0 0 0 0)).length := (clr_len c38.2.1).symm ▸ hlows0_4
            refine WL.nil ?_
            refine WQ.then ?_
            refine WC.seq ?_
            refine WC.region ?_
            refine WL.q rfl rfl rfl (QV.move rfl rfl) ?_
            refine WL.q rfl rfl rfl (QV.move rfl rfl) ?_
            obtain ⟨c41, hm42⟩ := ck_some hm39; clear hm39
            refine WL.q rfl rfl rfl (QV.sliceHd sl50 rfl rfl hl40 rfl rfl c41) ?_
            refine WL.q rfl rfl rfl (QV.assign rfl rfl) ?_
            refine WL.nil ?_
            refine WQ.then ?_
            refine WC.ret ?_
            refine WQ.block_ret ?_
            refine WQ.then_ret ?_
            refine WQ.then_ret ?_
            refine WQ.block_ret ?_
            refine WQ.then_ret ?_
            refine WQ.then_ret ?_
            obtain rfl := up_ret hm42 hn16
            obtain rfl := (eq_of_some hm7).symm
            refine WK.of (C' := Own M w [kn M w.heap.size K0 K0, vec v_s 61 4 (List.map Edg.cells (clr ows0_4 k3_4 (Edg.mk 0 0 0 0)))]) (fun w hw => hw.pick [1, 0] (by decide)) ?_
            refine WK.freeze hk (fun k43 hle43 hr43 => ?_)
            have hA43 := vec_arr hr43
            have hA44 := subS_sub hA43 c41
            refine WQ.ret1 rfl rfl (fun w hw => ?_)
            exact ⟨((subS v_s 4 (Int.toNat 0) (Int.toNat k3_4)), k43), rfl, hw.pick [0] (by decide), hA44⟩
          · skip
            rintro ows0_4 k3_4 k25_4 m45 ⟨hI46, hlows0_4⟩
            obtain ⟨m47, s48, rfl, hm49, hn50⟩ := iter_step hI46; clear hI46; unfold slices_Compact___api_Edge_api_Edge__L2 at hm49; simp only at hm49
            refine WC.seq ?_
            refine WC.seq ?_
            refine WC.region ?_
            refine WL.q rfl rfl rfl (QV.move rfl rfl) ?_
            refine WL.q rfl rfl rfl (QV.move rfl rfl) ?_
            obtain ⟨c51, hm52⟩ := ck_some hm49; clear hm49
            refine WL.q rfl rfl rfl (QV.lenS Try.underlying50 rfl rfl (subS_slen (sz := 4) hlows0_4 c51)) ?_
            refine WL.q rfl rfl rfl (QV.lss rfl rfl rfl rfl) ?_
            refine WL.nil ?_
            refine WQ.then ?_
            refine WC.cond rfl (fun h53 => ?_) (fun h53 => ?_)
            · skip
              have hm54 := br_t h53 hm52; clear hm52
              refine WC.skip ?_
              refine WQ.then ?_
              refine WC.seq ?_
              refine WC.block ?_
              refine WC.seq ?_
              refine WC.dr (m := 10) (S := Own M w [kn M w.heap.size K0 K0, vec v_s 61 4 (List.map Edg.cells ows0_4)]) (by kernel_rfl) (by kernel_rfl) (fun w hw => hw.pick [1, 0] (by decide)) ?_
              refine WD.q 0 rfl (by kernel_rfl) rfl rfl rfl (QV.move rfl rfl) ?_
              refine WD.q 1 rfl (by kernel_rfl) rfl rfl rfl (QV.move rfl rfl) ?_
              obtain ⟨c55, hm56⟩ := ck_some hm54; clear hm54
              obtain ⟨p57, hp58⟩ := (subS_slen (sz := 4) hlows0_4 c51).ix (sz := 4) ln_len c55
              refine WD.q 2 rfl (by kernel_rfl) rfl rfl rfl (QV.indexSlice sl50 rfl rfl rfl rfl hp58) ?_
              refine WD.q 3 rfl (by kernel_rfl) rfl rfl rfl (QV.loadAgg ag61 rfl rfl rfl (fun w hw => ((fun w hw => subS_sub ((Own.vecArr 1 rfl) w hw) c51) w hw).ele hp58 c55)) ?_
              refine WD.q 4 rfl (by kernel_rfl) rfl rfl rfl (QV.move rfl rfl) ?_
              refine WD.q 5 rfl (by kernel_rfl) rfl rfl rfl (QV.move rfl rfl) ?_
              obtain ⟨c59, hm60⟩ := ck_some hm56; clear hm56
              refine WD.q 6 rfl (by kernel_rfl) rfl rfl rfl (QV.sub rfl rfl rfl rfl c59) ?_
              obtain ⟨c61, hm62⟩ := ck_some hm60; clear hm60
              obtain ⟨p63, hp64⟩ := (subS_slen (sz := 4) hlows0_4 c51).ix (sz := 4) ln_len c61
              refine WD.q 7 rfl (by kernel_rfl) rfl rfl rfl (QV.indexSlice sl50 rfl rfl rfl rfl hp64) ?_
              refine WD.q 8 rfl (by kernel_rfl) rfl rfl rfl (QV.loadAgg ag61 rfl rfl rfl (fun w hw => ((fun w hw => subS_sub ((Own.vecArr 1 rfl) w hw) c51) w hw).ele hp64 c61)) ?_
              refine WD.q 9 rfl (by kernel_rfl) rfl rfl rfl (QV.neqF eq61 (ns := [(ele (sub ows0_4 k3_3 (ln ows0_3)) k25_4).fr, (ele (sub ows0_4 k3_3 (ln ows0_3)) k25_4).to, (ele (sub ows0_4 k3_3 (ln ows0_3)) k25_4).bk, (ele (sub ows0_4 k3_3 (ln ows0_3)) k25_4).wt]) (ms := [(ele (sub ows0_4 k3_3 (ln ows0_3)) (k25_4 - 1)).fr, (ele (sub ows0_4 k3_3 (ln ows0_3)) (k25_4 - 1)).to, (ele (sub ows0_4 k3_3 (ln ows0_3)) (k25_4 - 1)).bk, (ele (sub ows0_4 k3_3 (ln ows0_3)) (k25_4 - 1)).wt]) rfl rfl rfl rfl rfl rfl) ?_
              refine WD.e (by kernel_rfl) ?_
              refine WQ.then ?_
              refine WC.cond rfl (fun h65 => ?_) (fun h65 => ?_)
              · skip
                have hm66 := br_t h65 hm62; clear hm62
                refine WC.seq ?_
                refine WC.region ?_
                refine WL.q rfl rfl rfl (QV.move rfl rfl) ?_
                refine WL.q rfl rfl rfl (QV.move rfl rfl) ?_
                refine WL.q rfl rfl rfl (QV.move rfl rfl) ?_
                refine WL.q rfl rfl rfl (QV.move rfl rfl) ?_
                obtain ⟨c67, hm68⟩ := ck_some hm66; clear hm66
                obtain ⟨p69, hp70⟩ := (subS_slen (sz := 4) hlows0_4 c51).ix (sz := 4) ln_len c67
                refine WL.q rfl rfl rfl (QV.indexSlice sl50 rfl rfl rfl rfl hp70) ?_
                refine WL.q rfl rfl rfl (QV.loadAgg ag61 rfl rfl rfl (fun w hw => ((fun w hw => subS_sub ((Own.vecArr 0 rfl) w hw) c51) w hw).ele hp70 c67)) ?_
                obtain ⟨c71, hm72⟩ := ck_some hm68; clear hm68
                obtain ⟨p73, hp74⟩ := hlows0_4.ix (sz := 4) ln_len c71
                refine WL.q rfl rfl rfl (QV.indexSlice sl50 rfl rfl rfl rfl hp74) ?_
                refine WL.effect rfl ?_
                refine (EV.storeE (enc := Edg.cells) (off := 0) (vs := [.int .i64 ((ele (sub ows0_4 k3_3 (ln ows0_3)) k25_4).fr), .int .i64 ((ele (sub ows0_4 k3_3 (ln ows0_3)) k25_4).to), .int .i64 ((ele (sub ows0_4 k3_3 (ln ows0_3)) k25_4).bk), .int .i64 ((ele (sub ows0_4 k3_3 (ln ows0_3)) k25_4).wt)]) 0 (ele (sub ows0_4 k3_3 (ln ows0_3)) k25_4) rfl rfl rfl rfl rfl hp74 c71 (by first | rfl | exact addr_zero _) (show Value.cells _ = List.toArray _ from rfl) sz61 (Nat.le_of_ble_eq_true rfl) (one_cons rfl (one_cons rfl (one_cons rfl (one_cons rfl one_nil)))) rfl ?_)
                have hl75 : SliceLen v_s (upd ows0_4 k3_4 (ele (sub ows0_4 k3_3 (ln ows0_3)) k25_4)).length := slen_upd hlows0_4
                refine WL.nil ?_
                refine WQ.then ?_
                refine WC.region ?_
                refine WL.q rfl rfl rfl (QV.move rfl rfl) ?_
                obtain ⟨c76, hm77⟩ := ck_some hm72; clear hm72
                refine WL.q rfl rfl rfl (QV.add rfl rfl rfl rfl c76) ?_
                refine WL.q rfl rfl rfl (QV.assign rfl rfl) ?_
                refine WL.nil ?_
                refine WQ.block ?_
                refine WQ.then ?_
                refine WC.region ?_
                refine WL.q rfl rfl rfl (QV.move rfl rfl) ?_
                obtain ⟨c78, hm79⟩ := ck_some hm77; clear hm77
                refine WL.q rfl rfl rfl (QV.add rfl rfl rfl rfl c78) ?_
                refine WL.q rfl rfl rfl (QV.assign rfl rfl) ?_
                refine WL.nil ?_
                exact WQ.again3 (upd ows0_4 k3_4 (ele (sub ows0_4 k3_3 (ln ows0_3)) k25_4)) (k3_4 + 1) (k25_4 + 1) m47 ⟨up_next hm79 hn50, hl75⟩ (Nat.lt_succ_self _) ⟨rfl, rfl, rfl, rfl, trivial⟩ (fun w hw => hw.pick [0, 1] (by decide))
              · skip
                have hm80 := br_f h65 hm62; clear hm62
                refine WC.skip ?_
                refine WQ.block ?_
                refine WQ.then ?_
                refine WC.region ?_
                refine WL.q rfl rfl rfl (QV.move rfl rfl) ?_
                obtain ⟨c81, hm82⟩ := ck_some hm80; clear hm80
                refine WL.q rfl rfl rfl (QV.add rfl rfl rfl rfl c81) ?_
                refine WL.q rfl rfl rfl (QV.assign rfl rfl) ?_
                refine WL.nil ?_
                exact WQ.again3 ows0_4 k3_4 (k25_4 + 1) m47 ⟨up_next hm82 hn50, hlows0_4⟩ (Nat.lt_succ_self _) ⟨rfl, rfl, rfl, rfl, trivial⟩ (fun w hw => hw.pick [0, 1] (by decide))
            · skip
              have hm83 := br_f h53 hm52; clear hm52
              refine WC.exit ?_
              refine WQ.then_exit ?_
              refine WQ.then_exit ?_
              refine WQ.block_exit ?_
              exact WQ.out3 ows0_4 k3_4 k25_4 ⟨up_brk hm83 hn50, hlows0_4⟩ ⟨rfl, rfl, rfl, rfl, trivial⟩ (fun w hw => hw.pick [0, 1] (by decide))
        · skip
          have hm84 := br_f h29 hm26; clear hm26
          refine WC.skip ?_
          refine WQ.block ?_
          refine WQ.then ?_
          refine WC.region ?_
          refine WL.q rfl rfl rfl (QV.move rfl rfl) ?_
          obtain ⟨c85, hm86⟩ := ck_some hm84; clear hm84
          refine WL.q rfl rfl rfl (QV.add rfl rfl rfl rfl c85) ?_
          refine WL.q rfl rfl rfl (QV.assign rfl rfl) ?_
          refine WL.nil ?_
          exact WQ.again2 ows0_3 (k3_3 + 1) m13 ⟨up_next hm86 hn16, hlows0_3⟩ (Nat.lt_succ_self _) ⟨rfl, rfl, trivial⟩ (fun w hw => hw.pick [0, 1] (by decide))
      · skip
        have hm87 := br_f h17 hm15; clear hm15
        refine WC.exit ?_
        refine WQ.then_exit ?_
        refine WQ.then_exit ?_
        refine WQ.block_exit ?_
        exact WQ.out2 ows0_3 k3_3 ⟨up_brk hm87 hn16, hlows0_3⟩ ⟨rfl, rfl, trivial⟩ (fun w hw => hw.pick [0, 1] (by decide))

def sortRen : Go.Shelf.Ren := ⟨fun n => match n with | 6 => 65 | 14 => 106 | 15 => 94 | 20 => 124 | 21 => 125 | 22 => 126 | 23 => 127 | 24 => 128 | 25 => 129 | 26 => 130 | 27 => 131 | 28 => 118 | 29 => 119 | 46 => 139 | 47 => 140 | 48 => 141 | 49 => 142 | 50 => 143 | 57 => 146 | n => n, fun n => match n with | 22 => 50 | 24 => 61 | 25 => 112 | 39 => 143 | 45 => 172 | 46 => 173 | 50 => 177 | 53 => 165 | 55 => 167 | 66 => 186 | 70 => 118 | 76 => 194 | 77 => 195 | n => n, fun n => match n with  | n => n⟩
theorem sortL : Go.Proofs.SlLaysF0.n6 Try.prog sortRen where
  mixed := by kernel_rfl
  f6 := ⟨Try.f65.name, by kernel_rfl, Try.func65.trans (congrArg some (by kernel_rfl))⟩
  f14 := ⟨Try.f106.name, by kernel_rfl, Try.func106.trans (congrArg some (by kernel_rfl))⟩
  f15 := Try.func94.trans (congrArg some (by kernel_rfl))
  f20 := ⟨Try.f124.name, by kernel_rfl, Try.func124.trans (congrArg some (by kernel_rfl))⟩
  f21 := ⟨Try.f125.name, by kernel_rfl, Try.func125.trans (congrArg some (by kernel_rfl))⟩
  f22 := ⟨Try.f126.name, by kernel_rfl, Try.func126.trans (congrArg some (by kernel_rfl))⟩
  f23 := ⟨Try.f127.name, by kernel_rfl, Try.func127.trans (congrArg some (by kernel_rfl))⟩
  f24 := ⟨Try.f128.name, by kernel_rfl, Try.func128.trans (congrArg some (by kernel_rfl))⟩
  f25 := ⟨Try.f129.name, by kernel_rfl, Try.func129.trans (congrArg some (by kernel_rfl))⟩
  f26 := ⟨Try.f130.name, by kernel_rfl, Try.func130.trans (congrArg some (by kernel_rfl))⟩
  f27 := ⟨Try.f131.name, by kernel_rfl, Try.func131.trans (congrArg some (by kernel_rfl))⟩
  f28 := Try.func118.trans (congrArg some (by kernel_rfl))
  f29 := Try.func119.trans (congrArg some (by kernel_rfl))
  f46 := ⟨Try.f139.name, by kernel_rfl, Try.func139.trans (congrArg some (by kernel_rfl))⟩
  f47 := Try.func140.trans (congrArg some (by kernel_rfl))
  f48 := Try.func141.trans (congrArg some (by kernel_rfl))
  f49 := ⟨Try.f142.name, by kernel_rfl, Try.func142.trans (congrArg some (by kernel_rfl))⟩
  f50 := ⟨Try.f143.name, by kernel_rfl, Try.func143.trans (congrArg some (by kernel_rfl))⟩
  f57 := ⟨Try.f146.name, by kernel_rfl, Try.func146.trans (congrArg some (by kernel_rfl))⟩
  t0 := Try.underlying0
  a0 := Try.isAgg0
  z0 := Try.sizeOf0
  v0 := Try.zeroValue0
  t3 := Try.underlying3
  a3 := Try.isAgg3
  z3 := Try.sizeOf3
  v3 := Try.zeroValue3
  t4 := Try.underlying4
  a4 := Try.isAgg4
  z4 := Try.sizeOf4
  v4 := Try.zeroValue4
  t5 := Try.underlying5
  a5 := Try.isAgg5
  z5 := Try.sizeOf5
  v5 := Try.zeroValue5
  t9 := Try.underlying9
  a9 := Try.isAgg9
  z9 := Try.sizeOf9
  v9 := Try.zeroValue9
  t22 := Try.underlying50
  a22 := Try.isAgg50
  z22 := Try.sizeOf50
  v22 := Try.zeroValue50
  t25 := Try.underlying112
  a25 := Try.isAgg112
  z25 := Try.sizeOf112
  v25 := Try.zeroValue112
  t39 := Try.underlying143
  a39 := Try.isAgg143
  z39 := Try.sizeOf143
  v39 := Try.zeroValue143
  t45 := Try.underlying172
  a45 := Try.isAgg172
  z45 := Try.sizeOf172
  v45 := Try.zeroValue172
  t46 := Try.underlying173
  a46 := Try.isAgg173
  z46 := Try.sizeOf173
  v46 := Try.zeroValue173
  t50 := Try.underlying177
  a50 := Try.isAgg177
  z50 := Try.sizeOf177
  v50 := Try.zeroValue177
  t53 := Try.underlying165
  a53 := Try.isAgg165
  z53 := Try.sizeOf165
  v53 := Try.zeroValue165
  t55 := Try.underlying167
  a55 := Try.isAgg167
  z55 := Try.sizeOf167
  v55 := Try.zeroValue167
  t66 := Try.underlying186
  a66 := Try.isAgg186
  z66 := Try.sizeOf186
  v66 := Try.zeroValue186
  t70 := Try.underlying118
  a70 := Try.isAgg118
  z70 := Try.sizeOf118
  v70 := Try.zeroValue118
  t76 := Try.underlying194
  a76 := Try.isAgg194
  z76 := Try.sizeOf194
  v76 := Try.zeroValue194
  t77 := Try.underlying195
  a77 := Try.isAgg195
  z77 := Try.sizeOf195
  v77 := Try.zeroValue195
theorem sortE_nil : sortE [] = [] := by simp [sortE]
theorem SortFunc_w {v_x : Value} {x : List Edg} {r : List Edg} {K0 : World} (hm : SortFunc_m x = some r) (h_x : SliceLen v_x x.length) (M : Nat → Prop) (w : World) (hk : Base M K0 w) (hw0 : Own M w [vec v_x 61 4 (List.map Edg.cells x)] w) : Calls Try.prog 65 #[v_x, .func (.func 66) #[] #[]] w (fun e w' => ∃ X : World, e = .returned (.tuple #[]) ∧ Own M w (kn M w.heap.size K0 X :: [vec v_x 61 4 (List.map Edg.cells r)]) w' ∧ SliceLen v_x (r).length) := by
  obtain ⟨hlt, h2⟩ := ck_some hm
  obtain rfl := eq_of_some h2
  have hlen : (sortE x).length = x.length := List.length_mergeSort ..
  obtain ⟨a, c, rfl, ha, hc⟩ := h_x
  by_cases h0 : x = []
  · subst h0
    refine (Go.Proofs.AnyF.slices_SortFunc_none { sortL with } a c (.func (.func 66) #[] #[]) w).mono ?_
    rintro e w' ⟨rfl, rfl⟩
    rw [sortE_nil]
    exact ⟨K0, rfl, Own.startK hk hw0, ⟨a, c, rfl, ha, hc⟩⟩
  · obtain ⟨q, rfl⟩ := Option.isSome_iff_exists.1 (ha (by cases x with | nil => exact absurd rfl h0 | cons _ _ => simp))
    have hv := hw0.head
    have hq : ∃ b, q = ⟨b, 0, none⟩ := by
      rcases hv.1.2 with ⟨h, _⟩ | ⟨g, cap, cur, hv, _⟩
      · cases h
      · simp only [Value.slice.injEq, Option.some.injEq] at hv; exact ⟨g, hv.1⟩
    obtain ⟨b, rfl⟩ := hq
    obtain ⟨hH, _, hb⟩ := vec_holdsK Edg.cells_len (by decide) hv
    refine (Go.Proofs.AnyQ.slices_SortFunc_total sortL 4 Try.isAgg61 Try.sizeOf61 Edg.cells Edg.cells_len (fun u v hv => Edg.cells_one [u] u (List.mem_singleton.2 rfl) v hv) ordV ord_swo 66 #[] b 0 c x.toArray w (enters_of Try.func66 (by kernel_rfl) rfl) ?_ hH hb (by simpa using hlt) ord_total).mono ?_
    · intro m os dk hdk u v
      exact (dep_order_w _ (order_s u v)).mono fun e w' ⟨he, hg⟩ => ⟨he, grow_of hg⟩
    · rintro e w' ⟨rfl, m, os, rfl⟩
      exact ⟨K0, rfl, Own.sorted hk Edg.cells_len (by decide) hw0 hlen m os, by rw [hlen]; exact ⟨_, c, rfl, ha, hc⟩⟩
end Go.Proofs.Ytaimbkndebaaiab
end

section
namespace Go.Proofs.Ytaimbkndebaaiab
open Go.Rd
set_option linter.unusedVariables false
namespace TDep
theorem ag24 : AggT Try.prog 24 7 := ⟨_, Try.underlying24, rfl, by kernel_rfl⟩
theorem ag49 : AggT Try.prog 49 3 := ⟨_, Try.underlying49, rfl, by kernel_rfl⟩
theorem ag57 : AggT Try.prog 57 2 := ⟨_, Try.underlying57, rfl, by kernel_rfl⟩
theorem ag59 : AggT Try.prog 59 9 := ⟨_, Try.underlying59, rfl, by kernel_rfl⟩
theorem ag61 : AggT Try.prog 61 4 := ⟨_, Try.underlying61, rfl, by kernel_rfl⟩
theorem en104 : Go.Rd.Enters Try.prog 104 := ⟨Try.f104, Try.func104, by kernel_rfl, by kernel_rfl⟩
theorem en105 : Go.Rd.Enters Try.prog 105 := ⟨Try.f105, Try.func105, by kernel_rfl, by kernel_rfl⟩
theorem en46 : Go.Rd.Enters Try.prog 46 := ⟨Try.f46, Try.func46, by kernel_rfl, by kernel_rfl⟩
theorem en61 : Go.Rd.Enters Try.prog 61 := ⟨Try.f61, Try.func61, by kernel_rfl, by kernel_rfl⟩
theorem en62 : Go.Rd.Enters Try.prog 62 := ⟨Try.f62, Try.func62, by kernel_rfl, by kernel_rfl⟩
theorem en63 : Go.Rd.Enters Try.prog 63 := ⟨Try.f63, Try.func63, by kernel_rfl, by kernel_rfl⟩
theorem en64 : Go.Rd.Enters Try.prog 64 := ⟨Try.f64, Try.func64, by kernel_rfl, by kernel_rfl⟩
theorem en65 : Go.Rd.Enters Try.prog 65 := ⟨Try.f65, Try.func65, by kernel_rfl, by kernel_rfl⟩
theorem en67 : Go.Rd.Enters Try.prog 67 := ⟨Try.f67, Try.func67, by kernel_rfl, by kernel_rfl⟩
theorem fd49_0 : FieldT Try.prog 49 0 0 := ⟨_, _, 0, Try.underlying49, rfl, rfl, by kernel_rfl⟩
theorem fd49_1 : FieldT Try.prog 49 1 1 := ⟨_, _, 0, Try.underlying49, rfl, rfl, by kernel_rfl⟩
theorem fd57_0 : FieldT Try.prog 57 0 0 := ⟨_, _, 0, Try.underlying57, rfl, rfl, by kernel_rfl⟩
theorem fd57_1 : FieldT Try.prog 57 1 1 := ⟨_, _, 0, Try.underlying57, rfl, rfl, by kernel_rfl⟩
theorem fd59_0 : FieldT Try.prog 59 0 0 := ⟨_, _, 0, Try.underlying59, rfl, rfl, by kernel_rfl⟩
theorem fd59_3 : FieldT Try.prog 59 3 5 := ⟨_, _, 0, Try.underlying59, rfl, rfl, by kernel_rfl⟩
theorem fd59_4 : FieldT Try.prog 59 4 6 := ⟨_, _, 0, Try.underlying59, rfl, rfl, by kernel_rfl⟩
theorem fd59_5 : FieldT Try.prog 59 5 7 := ⟨_, _, 0, Try.underlying59, rfl, rfl, by kernel_rfl⟩
theorem pl3 : Plain Try.prog 3 := ⟨_, Try.underlying3, rfl⟩
theorem pl30 : Plain Try.prog 30 := ⟨_, Try.underlying30, rfl⟩
theorem pl47 : Plain Try.prog 47 := ⟨_, Try.underlying47, rfl⟩
theorem sl106 : SliceT Try.prog 106 57 2 := ⟨Try.underlying106, by kernel_rfl⟩
theorem sl30 : SliceT Try.prog 30 3 1 := ⟨Try.underlying30, by kernel_rfl⟩
theorem sl47 : SliceT Try.prog 47 59 9 := ⟨Try.underlying47, by kernel_rfl⟩
theorem sz57 : SizeT Try.prog 57 2 := by unfold SizeT; kernel_rfl
theorem sz59 : SizeT Try.prog 59 9 := by unfold SizeT; kernel_rfl
theorem sz61 : SizeT Try.prog 61 4 := by unfold SizeT; kernel_rfl
theorem sz_50 : SliceZ Try.prog 50 61 4 [.int .i64 0, .int .i64 0, .int .i64 0, .int .i64 0] := ⟨Try.underlying50, by kernel_rfl⟩
theorem ve50 : VecT Try.prog 50 61 4 32 := ⟨Try.underlying50, by kernel_rfl, by decide⟩
theorem ze57 : ZeroT Try.prog 57 [.int .i64 0, .int .i64 0] := by unfold ZeroT; kernel_rfl
theorem ze59 : ZeroT Try.prog 59 [.int .i64 0, .int .i64 0, .int .i64 0, .int .i64 0, .int .i64 0, .int .i64 0, .int .i64 0, .int .i64 0, .int .i64 0] := by unfold ZeroT; kernel_rfl
theorem ze61 : ZeroT Try.prog 61 [.int .i64 0, .int .i64 0, .int .i64 0, .int .i64 0] := by unfold ZeroT; kernel_rfl
end TDep
open TDep
set_option maxRecDepth 8000 in
theorem dep_meet_w {a : Stm} {b : Stm} {back : Int} {size : Int} {r : Bool} (w : World) (hm : dep_meet_m a b back size = some r)  : Calls Try.prog 105 #[.agg #[.int .i64 a.op, .int .i64 a.a.st, .int .i64 a.a.bk, .int .i64 a.b.st, .int .i64 a.b.bk, .int .i64 a.ar, .int .i64 a.sp, .int .i64 a.pl, .int .i64 a.n], .agg #[.int .i64 b.op, .int .i64 b.a.st, .int .i64 b.a.bk, .int .i64 b.b.st, .int .i64 b.b.bk, .int .i64 b.ar, .int .i64 b.sp, .int .i64 b.pl, .int .i64 b.n], .int .i64 back, .int .i64 size] w (fun e w' => e = .returned (.bool r) ∧ Grow w w') := by
  unfold dep_meet_m at hm
  have hk := Base.rfl (w := w)
  refine calls_of_WC (n := 36) (args := [.agg #[.int .i64 a.op, .int .i64 a.a.st, .int .i64 a.a.bk, .int .i64 a.b.st, .int .i64 a.b.bk, .int .i64 a.ar, .int .i64 a.sp, .int .i64 a.pl, .int .i64 a.n], .agg #[.int .i64 b.op, .int .i64 b.a.st, .int .i64 b.a.bk, .int .i64 b.b.st, .int .i64 b.b.bk, .int .i64 b.ar, .int .i64 b.sp, .int .i64 b.pl, .int .i64 b.n], .int .i64 back, .int .i64 size]) Try.func105 rfl rfl (Nat.le_of_ble_eq_true rfl) ?_ (Own.startK hk (Own.start w))
  refine WC.seq ?_
  refine WC.region ?_
  refine WL.effect rfl ?_
  refine (EV.boxAgg (by decide) rfl rfl (fun b1 => ?_))
  refine WL.effect rfl ?_
  refine (EV.boxAgg (by decide) rfl rfl (fun b2 => ?_))
  refine WL.q rfl rfl rfl (QV.assign rfl rfl) ?_
  refine WL.nil ?_
  refine WQ.then ?_
  refine WC.seq ?_
  refine WC.seq ?_
  refine WC.region ?_
  refine WL.q rfl rfl rfl (QV.move rfl rfl) ?_
  refine WL.q rfl rfl rfl (QV.move rfl rfl) ?_
  refine WL.nil ?_
  refine WQ.then ?_
  obtain ⟨o3, ho4, hm5⟩ := bd_some hm; clear hm; obtain ⟨n6, ho7⟩ := lp_some ho4
  refine WC.bloop1 (H2 := [blk b2 [.int .i64 b.op, .int .i64 b.a.st, .int .i64 b.a.bk, .int .i64 b.b.st, .int .i64 b.b.bk, .int .i64 b.ar, .int .i64 b.sp, .int .i64 b.pl, .int .i64 b.n] 59, blk b1 [.int .i64 a.op, .int .i64 a.a.st, .int .i64 a.a.bk, .int .i64 a.b.st, .int .i64 a.b.bk, .int .i64 a.ar, .int .i64 a.sp, .int .i64 a.pl, .int .i64 a.n] 59, kn noM w.heap.size w w]) (τ := [(2, (true, _)), (3, (true, _)), (4, (true, _)), (5, (true, _)), (10, (true, _))]) (fun (x11_1 : Int) => [(11, (true, .int .i64 x11_1))]) (fun (x11_1 : Int) => []) (fun (x11_1 : Int) (m : Nat) => iter (dep_meet_L0 a b back size) m x11_1 = some o3) (fun (x11_1 : Int) => o3 = .go x11_1) 0 n6 ho7 ⟨rfl, rfl, rfl, rfl, rfl, rfl, trivial⟩ (fun w hw => hw.pick [0, 1, 2] (by decide)) ?_ ?_
  · skip
    rintro x11_1 rfl
    refine WQ.then ?_
    refine WC.seq ?_
    refine WC.region ?_
    refine WL.q rfl rfl rfl (QV.assign rfl rfl) ?_
    refine WL.nil ?_
    refine WQ.then ?_
    refine WC.ret ?_
    obtain rfl := (eq_of_some hm5).symm
    refine WQ.ret1 rfl rfl (fun w hw => ?_)
    exact ⟨rfl, Own.kgrow (fun _ x => x) hw⟩
  · skip
    rintro x11_1 m8 hI9
    obtain ⟨m10, s11, rfl, hm12, hn13⟩ := iter_step hI9; clear hI9; unfold dep_meet_L0 at hm12
    refine WC.seq ?_
    refine WC.region ?_
    refine WL.q rfl rfl rfl (QV.lss rfl rfl rfl rfl) ?_
    refine WL.nil ?_
    refine WQ.then ?_
    refine WC.seq ?_
    refine WC.cond rfl (fun h14 => ?_) (fun h14 => ?_)
    · skip
      have hm15 := br_t h14 hm12; clear hm12
      refine WC.skip ?_
      refine WQ.then ?_
      refine WC.seq ?_
      refine WC.block ?_
      refine WC.seq ?_
      refine WC.region ?_
      refine WL.q rfl rfl rfl (QV.move rfl rfl) ?_
      refine WL.q rfl rfl rfl (QV.assign rfl rfl) ?_
      refine WL.nil ?_
      refine WQ.then ?_
      refine WC.seq ?_
      refine WC.region ?_
      refine WL.q rfl rfl rfl (QV.fieldAddr fd59_4 rfl rfl) ?_
      refine WL.q rfl rfl rfl (QV.load pl3 rfl rfl (Own.cell 1 rfl rfl)) ?_
      refine WL.q rfl rfl rfl (QV.move rfl rfl) ?_
      obtain ⟨c16, hm17⟩ := ck_some hm15; clear hm15
      refine WL.q rfl rfl rfl (QV.mul rfl rfl rfl rfl c16) ?_
      refine WL.q rfl rfl rfl (QV.fieldAddr fd59_5 rfl rfl) ?_
      refine WL.q rfl rfl rfl (QV.load pl3 rfl rfl (Own.cell 1 rfl rfl)) ?_
      obtain ⟨c18, hm19⟩ := ck_some hm17; clear hm17
      refine WL.q rfl rfl rfl (QV.add rfl rfl rfl rfl c18) ?_
      refine WL.q rfl rfl rfl (QV.fieldAddr fd59_4 rfl rfl) ?_
      refine WL.q rfl rfl rfl (QV.load pl3 rfl rfl (Own.cell 0 rfl rfl)) ?_
      refine WL.q rfl rfl rfl (QV.move rfl rfl) ?_
      refine WL.q rfl rfl rfl (QV.move rfl rfl) ?_
      obtain ⟨c20, hm21⟩ := ck_some hm19; clear hm19
      refine WL.q rfl rfl rfl (QV.add rfl rfl rfl rfl c20) ?_
      obtain ⟨c22, hm23⟩ := ck_some hm21; clear hm21
      refine WL.q rfl rfl rfl (QV.mul rfl rfl rfl rfl c22) ?_
      obtain ⟨c24, hm25⟩ := ck_some hm23; clear hm23
      refine WL.q rfl rfl rfl (QV.sub rfl rfl rfl rfl c24) ?_
      refine WL.q rfl rfl rfl (QV.fieldAddr fd59_5 rfl rfl) ?_
      refine WL.q rfl rfl rfl (QV.load pl3 rfl rfl (Own.cell 0 rfl rfl)) ?_
      obtain ⟨c26, hm27⟩ := ck_some hm25; clear hm25
      refine WL.q rfl rfl rfl (QV.sub rfl rfl rfl rfl c26) ?_
      refine WL.q rfl rfl rfl (QV.move rfl rfl) ?_
      obtain ⟨c28, hm29⟩ := ck_some hm27; clear hm27
      refine WL.q rfl rfl rfl (QV.sub rfl rfl rfl rfl c28) ?_
      refine WL.q rfl rfl rfl (QV.andW rfl rfl rfl rfl) ?_
      refine WL.q rfl rfl rfl (QV.eql rfl rfl rfl rfl) ?_
      refine WL.nil ?_
      refine WQ.then ?_
      refine WC.cond rfl (fun h30 => ?_) (fun h30 => ?_)
      · skip
        have hm31 := br_t h30 hm29; clear hm29
        refine WC.seq ?_
        refine WC.region ?_
        refine WL.q rfl rfl rfl (QV.assign rfl rfl) ?_
        refine WL.nil ?_
        refine WQ.then ?_
        refine WC.ret ?_
        refine WQ.block_ret ?_
        refine WQ.then_ret ?_
        refine WQ.then_ret ?_
        refine WQ.block_ret ?_
        refine WQ.then_ret ?_
        refine WQ.then_ret ?_
        obtain rfl := up_ret hm31 hn13
        obtain rfl := (eq_of_some hm5).symm
        refine WQ.ret1 rfl rfl (fun w hw => ?_)
        exact ⟨rfl, Own.kgrow (fun _ x => x) hw⟩
      · skip
        have hm32 := br_f h30 hm29; clear hm29
        refine WC.skip ?_
        refine WQ.block ?_
        refine WQ.then ?_
        refine WC.region ?_
        obtain ⟨c33, hm34⟩ := ck_some hm32; clear hm32
        refine WL.q rfl rfl rfl (QV.add rfl rfl rfl rfl c33) ?_
        refine WL.q rfl rfl rfl (QV.move rfl rfl) ?_
        refine WL.nil ?_
        exact WQ.again1 (x11_1 + 1) m10 (up_next hm34 hn13) (Nat.lt_succ_self _) ⟨rfl, rfl, rfl, rfl, rfl, rfl, trivial⟩ (fun w hw => hw.pick [0, 1, 2] (by decide))
    · skip
      have hm35 := br_f h14 hm12; clear hm12
      refine WC.exit ?_
      refine WQ.then_exit ?_
      refine WQ.then_exit ?_
      refine WQ.block_exit ?_
      exact WQ.out1 x11_1 (up_brk hm35 hn13) ⟨rfl, rfl, rfl, rfl, rfl, rfl, trivial⟩ (fun w hw => hw.pick [0, 1, 2] (by decide))

set_option maxRecDepth 8000 in
theorem dep_words_w {s : Stm} {r : Bool} (w : World) (hm : dep_words_m s = some r)  : Calls Try.prog 104 #[.agg #[.int .i64 s.op, .int .i64 s.a.st, .int .i64 s.a.bk, .int .i64 s.b.st, .int .i64 s.b.bk, .int .i64 s.ar, .int .i64 s.sp, .int .i64 s.pl, .int .i64 s.n]] w (fun e w' => e = .returned (.bool r) ∧ Grow w w') := by
  unfold dep_words_m at hm
  have hk := Base.rfl (w := w)
  refine calls_of_WC (n := 11) (args := [.agg #[.int .i64 s.op, .int .i64 s.a.st, .int .i64 s.a.bk, .int .i64 s.b.st, .int .i64 s.b.bk, .int .i64 s.ar, .int .i64 s.sp, .int .i64 s.pl, .int .i64 s.n]]) Try.func104 rfl rfl (Nat.le_of_ble_eq_true rfl) ?_ (Own.startK hk (Own.start w))
  refine WC.seq ?_
  refine WC.region ?_
  refine WL.effect rfl ?_
  refine (EV.boxAgg (by decide) rfl rfl (fun b1 => ?_))
  refine WL.q rfl rfl rfl (QV.assign rfl rfl) ?_
  refine WL.nil ?_
  refine WQ.then ?_
  refine WC.seq ?_
  refine WC.region ?_
  refine WL.q rfl rfl rfl (QV.fieldAddr fd59_0 rfl rfl) ?_
  refine WL.q rfl rfl rfl (QV.load pl3 rfl rfl (Own.cell 0 rfl rfl)) ?_
  refine WL.q rfl rfl rfl (QV.eql rfl rfl rfl rfl) ?_
  refine WL.q rfl rfl rfl (QV.move rfl rfl) ?_
  refine WL.g rfl rfl (GuardIs.neg rfl rfl) (fun hG => QV.fieldAddr fd59_0 rfl rfl) ?_
  refine WL.g rfl rfl (GuardIs.neg rfl rfl) (fun hG => QV.load pl3 rfl hG (Own.cell 0 rfl rfl)) ?_
  refine WL.g rfl rfl (GuardIs.neg rfl rfl) (fun hG => QV.eql rfl hG rfl rfl) ?_
  refine WL.q rfl rfl rfl (QV.pickOr rfl rfl rfl (fun h => notF h)) ?_
  refine WL.q rfl rfl rfl (QV.assign rfl rfl) ?_
  refine WL.nil ?_
  refine WQ.then ?_
  refine WC.ret ?_
  obtain rfl := (eq_of_some hm).symm
  refine WQ.ret1 rfl rfl (fun w hw => ?_)
  exact ⟨rfl, Own.kgrow (fun _ x => x) hw⟩

set_option maxRecDepth 8000 in
theorem dep_memory_w {v_l_logs : Value} {v_l_body : Value} {v_l_outs : Value} {l : Lp} {from_ : Int} {to : Int} {r : Edg × Bool} (w : World) (hm : dep_memory_m l from_ to = some r) (h_l_logs : Arr w v_l_logs 1 (l.logs.map icell)) (h_l_body : Arr w v_l_body 9 (l.body.map Stm.cells)) (h_l_outs : Arr w v_l_outs 1 (l.outs.map icell)) : Calls Try.prog 64 #[.agg #[v_l_logs, v_l_body, v_l_outs], .int .i64 from_, .int .i64 to] w (fun e w' => e = .returned (.tuple #[.agg #[.int .i64 r.1.fr, .int .i64 r.1.to, .int .i64 r.1.bk, .int .i64 r.1.wt], .bool r.2]) ∧ Grow w w') := by
  unfold dep_memory_m at hm
  have hk := Base.rfl (w := w)
  refine calls_of_WC (n := 80) (args := [.agg #[v_l_logs, v_l_body, v_l_outs], .int .i64 from_, .int .i64 to]) Try.func64 rfl rfl (Nat.le_of_ble_eq_true rfl) ?_ (Own.startK hk (Own.start w))
  refine WC.seq ?_
  refine WC.region ?_
  refine WL.effect rfl ?_
  refine (EV.boxAgg (by decide) rfl rfl (fun b1 => ?_))
  refine WL.effect rfl ?_
  refine (EV.alloc (by decide) ze61 (fun b2 => ?_))
  refine WL.q rfl rfl rfl (QV.assign rfl rfl) ?_
  refine WL.nil ?_
  refine WQ.then ?_
  refine WC.seq ?_
  refine WC.dr (m := 14) (S := Own noM w [kn noM w.heap.size w w, blk b2 [.int .i64 0, .int .i64 0, .int .i64 0, .int .i64 0] 61, blk b1 [v_l_logs, v_l_body, v_l_outs] 49]) (by kernel_rfl) (by kernel_rfl) (fun w hw => hw.pick [2, 0, 1] (by decide)) ?_
  refine WD.toL 0 (by kernel_rfl) ?_
  refine WD.qL 0 0 1 rfl (by kernel_rfl) rfl rfl rfl (QV.fieldAddr fd49_1 rfl rfl) ?_
  refine WD.qL 1 1 3 rfl (by kernel_rfl) rfl rfl rfl (QV.load pl47 rfl rfl (Own.cell 2 rfl rfl)) ?_
  refine WD.qL 2 3 7 rfl (by kernel_rfl) rfl rfl rfl (QV.move rfl rfl) ?_
  obtain ⟨c3, hm4⟩ := ck_some hm; clear hm
  obtain ⟨p5, hp6⟩ := h_l_body.lenMap.ix (sz := 9) ln_len c3
  refine WD.qL 3 7 15 rfl (by kernel_rfl) rfl rfl rfl (QV.indexSlice sl47 rfl rfl rfl rfl hp6) ?_
  refine WD.qL 4 15 31 rfl (by kernel_rfl) rfl rfl rfl (QV.loadAgg ag59 rfl rfl rfl (fun w hw => ((Own.karr 0 rfl hk h_l_body) w hw).ele hp6 c3)) ?_
  refine WD.qL 5 31 63 rfl (by kernel_rfl) rfl rfl rfl (QV.fieldAddr fd49_1 rfl rfl) ?_
  refine WD.qL 6 63 127 rfl (by kernel_rfl) rfl rfl rfl (QV.load pl47 rfl rfl (Own.cell 2 rfl rfl)) ?_
  refine WD.qL 7 127 255 rfl (by kernel_rfl) rfl rfl rfl (QV.move rfl rfl) ?_
  obtain ⟨c7, hm8⟩ := ck_some hm4; clear hm4
  obtain ⟨p9, hp10⟩ := h_l_body.lenMap.ix (sz := 9) ln_len c7
  refine WD.qL 8 255 511 rfl (by kernel_rfl) rfl rfl rfl (QV.indexSlice sl47 rfl rfl rfl rfl hp10) ?_
  refine WD.qL 9 511 1023 rfl (by kernel_rfl) rfl rfl rfl (QV.loadAgg ag59 rfl rfl rfl (fun w hw => ((Own.karr 0 rfl hk h_l_body) w hw).ele hp10 c7)) ?_
  refine WD.cut2 (fun (b11 : Nat) (b12 : Nat) => [(1, (true, .int .i64 from_)), (2, (true, .int .i64 to)), (3, (true, .pointer (some (⟨b1, 0, none⟩)))), (6, (true, .pointer (some (⟨b2, 0, none⟩)))), (8, (true, .pointer (some (⟨b11, 0, none⟩)))), (9, (true, .pointer (some (⟨b12, 0, none⟩))))]) (fun (b11 : Nat) (b12 : Nat) => Own noM w [blk b12 [.int .i64 ((ele l.body to).op), .int .i64 (((ele l.body to).a).st), .int .i64 (((ele l.body to).a).bk), .int .i64 (((ele l.body to).b).st), .int .i64 (((ele l.body to).b).bk), .int .i64 ((ele l.body to).ar), .int .i64 ((ele l.body to).sp), .int .i64 ((ele l.body to).pl), .int .i64 ((ele l.body to).n)] 59, blk b11 [.int .i64 ((ele l.body from_).op), .int .i64 (((ele l.body from_).a).st), .int .i64 (((ele l.body from_).a).bk), .int .i64 (((ele l.body from_).b).st), .int .i64 (((ele l.body from_).b).bk), .int .i64 ((ele l.body from_).ar), .int .i64 ((ele l.body from_).sp), .int .i64 ((ele l.body from_).pl), .int .i64 ((ele l.body from_).n)] 59, blk b2 [.int .i64 0, .int .i64 0, .int .i64 0, .int .i64 0] 61, blk b1 [v_l_logs, v_l_body, v_l_outs] 49, kn noM w.heap.size w w]) ?_ ?_
  · skip
    rintro b11 b12
    refine WQ.then ?_
    refine WC.seq ?_
    refine WC.seq ?_
    refine WC.region ?_
    refine WL.q rfl rfl rfl (QV.loadAgg ag59 rfl rfl rfl (Own.cellsBlk 1 rfl)) ?_
    obtain ⟨x13, hx14, hm15⟩ := bd_some hm8; clear hm8
    refine WL.q rfl rfl rfl (QV.call en104 (EvAll.cons rfl rfl EvAll.nil) (fun w hw => have h := dep_words_w w hx14 ; h)) ?_
    refine WL.q rfl rfl rfl (QV.not rfl rfl) ?_
    refine WL.q rfl rfl rfl (QV.move rfl rfl) ?_
    refine WL.g rfl rfl (GuardIs.neg rfl rfl) (fun hG => QV.loadAgg ag59 rfl rfl rfl (Own.cellsBlk 0 rfl)) ?_
    obtain ⟨x16, hx17, hm18⟩ := bdG_some hm15; clear hm15
    refine WL.g rfl rfl (GuardIs.neg rfl rfl) (fun hG => QV.call en104 (EvAll.cons rfl hG EvAll.nil) (fun w hw => have h := dep_words_w w (hx17 hG) ; h)) ?_
    refine WL.g rfl rfl (GuardIs.neg rfl rfl) (fun hG => QV.not rfl hG) ?_
    refine WL.q rfl rfl rfl (QV.pickOr rfl rfl rfl (fun h => notF h)) ?_
    refine WL.q rfl rfl rfl (QV.move rfl rfl) ?_
    refine WL.g rfl rfl (GuardIs.neg rfl rfl) (fun hG => QV.fieldAddr fd59_3 rfl rfl) ?_
    refine WL.g rfl rfl (GuardIs.neg rfl rfl) (fun hG => QV.load pl3 rfl hG (Own.cell 1 rfl rfl)) ?_
    refine WL.g rfl rfl (GuardIs.neg rfl rfl) (fun hG => QV.fieldAddr fd59_3 rfl rfl) ?_
    refine WL.g rfl rfl (GuardIs.neg rfl rfl) (fun hG => QV.load pl3 rfl hG (Own.cell 0 rfl rfl)) ?_
    refine WL.g rfl rfl (GuardIs.neg rfl rfl) (fun hG => QV.neq rfl hG rfl hG) ?_
    refine WL.q rfl rfl rfl (QV.pickOr rfl rfl rfl (fun h => notF h)) ?_
    refine WL.q rfl rfl rfl (QV.move rfl rfl) ?_
    refine WL.g rfl rfl (GuardIs.neg rfl rfl) (fun hG => QV.fieldAddr fd59_0 rfl rfl) ?_
    refine WL.g rfl rfl (GuardIs.neg rfl rfl) (fun hG => QV.load pl3 rfl hG (Own.cell 1 rfl rfl)) ?_
    refine WL.g rfl rfl (GuardIs.neg rfl rfl) (fun hG => QV.eql rfl hG rfl rfl) ?_
    refine WL.g rfl rfl (GuardIs.neg rfl rfl) (fun hG => QV.move rfl hG) ?_
    refine WL.g rfl rfl (GuardIs.posC rfl rfl) (fun hG => QV.fieldAddr fd59_0 rfl rfl) ?_
    refine WL.g rfl rfl (GuardIs.posC rfl rfl) (fun hG => QV.load pl3 rfl hG (Own.cell 0 rfl rfl)) ?_
    refine WL.g rfl rfl (GuardIs.posC rfl rfl) (fun hG => QV.eql rfl hG rfl rfl) ?_
    refine WL.g rfl rfl (GuardIs.neg rfl rfl) (fun hG => QV.pickAnd rfl hG rfl (fun h => andT hG h)) ?_
    refine WL.q rfl rfl rfl (QV.pickOr rfl rfl rfl (fun h => notF h)) ?_
    refine WL.nil ?_
    refine WQ.then ?_
    refine WC.cond rfl (fun h19 => ?_) (fun h19 => ?_)
    · skip
      have hm20 := br_t h19 hm18; clear hm18
      refine WC.seq ?_
      refine WC.region ?_
      refine WL.q rfl rfl rfl (QV.build (ps := []) (cells := [.int .i64 0, .int .i64 0, .int .i64 0, .int .i64 0]) EvAll.nil (by kernel_rfl)) ?_
      refine WL.effect rfl ?_
      refine (EV.store 2 rfl rfl rfl rfl rfl rfl (vs := [.int .i64 0, .int .i64 0, .int .i64 0, .int .i64 0]) (show Value.cells _ = List.toArray _ from rfl) sz61 (Nat.le_of_ble_eq_true rfl) (one_cons rfl (one_cons rfl (one_cons rfl (one_cons rfl one_nil)))) ?_)
      refine WL.q rfl rfl rfl (QV.assign rfl rfl) ?_
      refine WL.nil ?_
      refine WQ.then ?_
      refine WC.ret ?_
      refine WQ.then_ret ?_
      obtain rfl := (eq_of_some hm20).symm
      refine WQ.retCellTmp rfl ag61 rfl rfl rfl (Own.cellsBlk 2 rfl) (fun w hw => ?_)
      exact ⟨rfl, Own.kgrow (fun _ x => x) hw⟩
    · skip
      have hm21 := br_f h19 hm18; clear hm18
      refine WC.skip ?_
      refine WQ.then ?_
      refine WC.seq ?_
      refine WC.region ?_
      refine WL.q rfl rfl rfl (QV.assign rfl rfl) ?_
      refine WL.q rfl rfl rfl (QV.assign rfl rfl) ?_
      refine WL.nil ?_
      refine WQ.then ?_
      refine WC.seq ?_
      refine WC.seq ?_
      refine WC.region ?_
      refine WL.q rfl rfl rfl (QV.move rfl rfl) ?_
      refine WL.q rfl rfl rfl (QV.move rfl rfl) ?_
      refine WL.q rfl rfl rfl (QV.geq rfl rfl rfl rfl) ?_
      refine WL.nil ?_
      refine WQ.then ?_
      obtain ⟨o22, hj23, hm24⟩ := bd_some hm21; clear hm21
      refine WC.joint1 (H2 := [blk b12 [.int .i64 ((ele l.body to).op), .int .i64 (((ele l.body to).a).st), .int .i64 (((ele l.body to).a).bk), .int .i64 (((ele l.body to).b).st), .int .i64 (((ele l.body to).b).bk), .int .i64 ((ele l.body to).ar), .int .i64 ((ele l.body to).sp), .int .i64 ((ele l.body to).pl), .int .i64 ((ele l.body to).n)] 59, blk b11 [.int .i64 ((ele l.body from_).op), .int .i64 (((ele l.body from_).a).st), .int .i64 (((ele l.body from_).a).bk), .int .i64 (((ele l.body from_).b).st), .int .i64 (((ele l.body from_).b).bk), .int .i64 ((ele l.body from_).ar), .int .i64 ((ele l.body from_).sp), .int .i64 ((ele l.body from_).pl), .int .i64 ((ele l.body from_).n)] 59, blk b2 [.int .i64 0, .int .i64 0, .int .i64 0, .int .i64 0] 61, blk b1 [v_l_logs, v_l_body, v_l_outs] 49, kn noM w.heap.size w w]) (τ := [(1, (true, _)), (2, (true, _)), (3, (true, _)), (6, (true, _)), (8, (true, _)), (9, (true, _)), (11, (true, _))]) (fun (least10_1 : Int) => [(10, (true, .int .i64 least10_1))]) (fun (least10_1 : Int) => []) (fun (least10_1 : Int) => o22 = .go least10_1) ⟨rfl, rfl, rfl, rfl, rfl, rfl, rfl, trivial⟩ (fun w hw => hw.pick [0, 1, 2, 3, 4] (by decide)) ?_ ?_
      · skip
        rintro least10_1 rfl
        refine WC.seq ?_
        refine WC.seq ?_
        refine WC.region ?_
        refine WL.q rfl rfl rfl (QV.fieldAddr fd59_0 rfl rfl) ?_
        refine WL.q rfl rfl rfl (QV.load pl3 rfl rfl (Own.cell 1 rfl rfl)) ?_
        refine WL.q rfl rfl rfl (QV.eql rfl rfl rfl rfl) ?_
        refine WL.nil ?_
        refine WQ.then ?_
        obtain ⟨o25, hj26, hm27⟩ := bd_some hm24; clear hm24
        refine WC.joint1 (H2 := [blk b12 [.int .i64 ((ele l.body to).op), .int .i64 (((ele l.body to).a).st), .int .i64 (((ele l.body to).a).bk), .int .i64 (((ele l.body to).b).st), .int .i64 (((ele l.body to).b).bk), .int .i64 ((ele l.body to).ar), .int .i64 ((ele l.body to).sp), .int .i64 ((ele l.body to).pl), .int .i64 ((ele l.body to).n)] 59, blk b11 [.int .i64 ((ele l.body from_).op), .int .i64 (((ele l.body from_).a).st), .int .i64 (((ele l.body from_).a).bk), .int .i64 (((ele l.body from_).b).st), .int .i64 (((ele l.body from_).b).bk), .int .i64 ((ele l.body from_).ar), .int .i64 ((ele l.body from_).sp), .int .i64 ((ele l.body from_).pl), .int .i64 ((ele l.body from_).n)] 59, blk b2 [.int .i64 0, .int .i64 0, .int .i64 0, .int .i64 0] 61, blk b1 [v_l_logs, v_l_body, v_l_outs] 49, kn noM w.heap.size w w]) (τ := [(1, (true, _)), (2, (true, _)), (3, (true, _)), (6, (true, _)), (8, (true, _)), (9, (true, _)), (10, (true, _))]) (fun (wait11_2 : Int) => [(11, (true, .int .i64 wait11_2))]) (fun (wait11_2 : Int) => []) (fun (wait11_2 : Int) => o25 = .go wait11_2) ⟨rfl, rfl, rfl, rfl, rfl, rfl, rfl, trivial⟩ (fun w hw => hw.pick [0, 1, 2, 3, 4] (by decide)) ?_ ?_
        · skip
          rintro wait11_2 rfl
          refine WC.seq ?_
          refine WC.region ?_
          refine WL.q rfl rfl rfl (QV.fieldAddr fd49_0 rfl rfl) ?_
          refine WL.q rfl rfl rfl (QV.load pl30 rfl rfl (Own.cell 3 rfl rfl)) ?_
          refine WL.q rfl rfl rfl (QV.fieldAddr fd59_3 rfl rfl) ?_
          refine WL.q rfl rfl rfl (QV.load pl3 rfl rfl (Own.cell 1 rfl rfl)) ?_
          obtain ⟨c28, hm29⟩ := ck_some hm27; clear hm27
          obtain ⟨p30, hp31⟩ := h_l_logs.lenMap.ix (sz := 1) ln_len c28
          refine WL.q rfl rfl rfl (QV.indexSlice sl30 rfl rfl rfl rfl hp31) ?_
          refine WL.q rfl rfl rfl (QV.load pl3 rfl rfl (fun w hw => CellsAt.one 0 (((Own.karr 4 rfl hk h_l_logs) w hw).ele hp31 c28) rfl)) ?_
          obtain ⟨c32, hm33⟩ := ck_some hm29; clear hm29
          refine WL.q rfl rfl rfl (QV.shlD rfl rfl rfl rfl c32) ?_
          refine WL.q rfl rfl rfl (QV.assign rfl rfl) ?_
          refine WL.nil ?_
          refine WQ.then ?_
          refine WC.seq ?_
          refine WC.seq ?_
          refine WC.region ?_
          refine WL.q rfl rfl rfl (QV.move rfl rfl) ?_
          refine WL.q rfl rfl rfl (QV.assign rfl rfl) ?_
          refine WL.nil ?_
          refine WQ.then ?_
          obtain ⟨o34, ho35, hm36⟩ := bd_some hm33; clear hm33; obtain ⟨n37, ho38⟩ := lp_some ho35
          refine WC.bloop1 (H2 := [blk b12 [.int .i64 ((ele l.body to).op), .int .i64 (((ele l.body to).a).st), .int .i64 (((ele l.body to).a).bk), .int .i64 (((ele l.body to).b).st), .int .i64 (((ele l.body to).b).bk), .int .i64 ((ele l.body to).ar), .int .i64 ((ele l.body to).sp), .int .i64 ((ele l.body to).pl), .int .i64 ((ele l.body to).n)] 59, blk b11 [.int .i64 ((ele l.body from_).op), .int .i64 (((ele l.body from_).a).st), .int .i64 (((ele l.body from_).a).bk), .int .i64 (((ele l.body from_).b).st), .int .i64 (((ele l.body from_).b).bk), .int .i64 ((ele l.body from_).ar), .int .i64 ((ele l.body from_).sp), .int .i64 ((ele l.body from_).pl), .int .i64 ((ele l.body from_).n)] 59, blk b2 [.int .i64 0, .int .i64 0, .int .i64 0, .int .i64 0] 61, blk b1 [v_l_logs, v_l_body, v_l_outs] 49, kn noM w.heap.size w w]) (τ := [(1, (true, _)), (2, (true, _)), (6, (true, _)), (8, (true, _)), (9, (true, _)), (11, (true, _)), (12, (true, _))]) (fun (back13_3 : Int) => [(13, (true, .int .i64 back13_3))]) (fun (back13_3 : Int) => []) (fun (back13_3 : Int) (m : Nat) => iter (dep_memory_L0 l from_ to wait11_2) m back13_3 = some o34) (fun (back13_3 : Int) => o34 = .go back13_3) least10_1 n37 ho38 ⟨rfl, rfl, rfl, rfl, rfl, rfl, rfl, rfl, trivial⟩ (fun w hw => hw.pick [0, 1, 2, 3, 4] (by decide)) ?_ ?_
          · skip
            rintro back13_3 rfl
            refine WQ.then ?_
            refine WC.seq ?_
            refine WC.region ?_
            refine WL.q rfl rfl rfl (QV.build (ps := []) (cells := [.int .i64 0, .int .i64 0, .int .i64 0, .int .i64 0]) EvAll.nil (by kernel_rfl)) ?_
            refine WL.effect rfl ?_
            refine (EV.store 2 rfl rfl rfl rfl rfl rfl (vs := [.int .i64 0, .int .i64 0, .int .i64 0, .int .i64 0]) (show Value.cells _ = List.toArray _ from rfl) sz61 (Nat.le_of_ble_eq_true rfl) (one_cons rfl (one_cons rfl (one_cons rfl (one_cons rfl one_nil)))) ?_)
            refine WL.q rfl rfl rfl (QV.assign rfl rfl) ?_
            refine WL.nil ?_
            refine WQ.then ?_
            refine WC.ret ?_
            obtain rfl := (eq_of_some hm36).symm
            refine WQ.retCellTmp rfl ag61 rfl rfl rfl (Own.cellsBlk 2 rfl) (fun w hw => ?_)
            exact ⟨rfl, Own.kgrow (fun _ x => x) hw⟩
          · skip
            rintro back13_3 m39 hI40
            obtain ⟨m41, s42, rfl, hm43, hn44⟩ := iter_step hI40; clear hI40; unfold dep_memory_L0 at hm43
            refine WC.seq ?_
            refine WC.seq ?_
            refine WC.region ?_
            refine WL.q rfl rfl rfl (QV.move rfl rfl) ?_
            refine WL.q rfl rfl rfl (QV.move rfl rfl) ?_
            refine WL.q rfl rfl rfl (QV.leq rfl rfl rfl rfl) ?_
            refine WL.nil ?_
            refine WQ.then ?_
            refine WC.cond rfl (fun h45 => ?_) (fun h45 => ?_)
            · skip
              have hm46 := br_t h45 hm43; clear hm43
              refine WC.skip ?_
              refine WQ.then ?_
              refine WC.seq ?_
              refine WC.block ?_
              refine WC.seq ?_
              refine WC.region ?_
              refine WL.q rfl rfl rfl (QV.loadAgg ag59 rfl rfl rfl (Own.cellsBlk 1 rfl)) ?_
              refine WL.q rfl rfl rfl (QV.loadAgg ag59 rfl rfl rfl (Own.cellsBlk 0 rfl)) ?_
              refine WL.q rfl rfl rfl (QV.move rfl rfl) ?_
              refine WL.q rfl rfl rfl (QV.move rfl rfl) ?_
              obtain ⟨x47, hx48, hm49⟩ := bd_some hm46; clear hm46
              refine WL.q rfl rfl rfl (QV.call en105 (EvAll.cons rfl rfl (EvAll.cons rfl rfl (EvAll.cons rfl rfl (EvAll.cons rfl rfl EvAll.nil)))) (fun w hw => have h := dep_meet_w w hx48 ; h)) ?_
              refine WL.nil ?_
              refine WQ.then ?_
              refine WC.cond rfl (fun h50 => ?_) (fun h50 => ?_)
              · skip
                have hm51 := br_t h50 hm49; clear hm49
                refine WC.seq ?_
                refine WC.region ?_
                refine WL.q rfl rfl rfl (QV.move rfl rfl) ?_
                refine WL.q rfl rfl rfl (QV.move rfl rfl) ?_
                refine WL.q rfl rfl rfl (QV.move rfl rfl) ?_
                refine WL.q rfl rfl rfl (QV.move rfl rfl) ?_
                refine WL.q rfl rfl rfl (QV.build (ps := [(0, .tmp 74), (1, .tmp 75), (2, .tmp 76), (3, .tmp 77)]) (cells := [.int .i64 from_, .int .i64 to, .int .i64 back13_3, .int .i64 wait11_2]) (EvAll.cons rfl rfl (EvAll.cons rfl rfl (EvAll.cons rfl rfl (EvAll.cons rfl rfl EvAll.nil)))) (by kernel_rfl)) ?_
                refine WL.effect rfl ?_
                refine (EV.store 2 rfl rfl rfl rfl rfl rfl (vs := [.int .i64 from_, .int .i64 to, .int .i64 back13_3, .int .i64 wait11_2]) (show Value.cells _ = List.toArray _ from rfl) sz61 (Nat.le_of_ble_eq_true rfl) (one_cons rfl (one_cons rfl (one_cons rfl (one_cons rfl one_nil)))) ?_)
                refine WL.q rfl rfl rfl (QV.assign rfl rfl) ?_
                refine WL.nil ?_
                refine WQ.then ?_
                refine WC.ret ?_
                refine WQ.block_ret ?_
                refine WQ.then_ret ?_
                refine WQ.then_ret ?_
                refine WQ.block_ret ?_
                refine WQ.then_ret ?_
                refine WQ.then_ret ?_
                obtain rfl := up_ret hm51 hn44
                obtain rfl := (eq_of_some hm36).symm
                refine WQ.retCellTmp rfl ag61 rfl rfl rfl (Own.cellsBlk 2 rfl) (fun w hw => ?_)
                exact ⟨rfl, Own.kgrow (fun _ x => x) hw⟩
              · skip
                have hm52 := br_f h50 hm49; clear hm49
                refine WC.skip ?_
                refine WQ.block ?_
                refine WQ.then ?_
                refine WC.region ?_
                refine WL.q rfl rfl rfl (QV.move rfl rfl) ?_
                obtain ⟨c53, hm54⟩ := ck_some hm52; clear hm52
                refine WL.q rfl rfl rfl (QV.add rfl rfl rfl rfl c53) ?_
                refine WL.q rfl rfl rfl (QV.assign rfl rfl) ?_
                refine WL.nil ?_
                exact WQ.again1 (back13_3 + 1) m41 (up_next hm54 hn44) (Nat.lt_succ_self _) ⟨rfl, rfl, rfl, rfl, rfl, rfl, rfl, rfl, trivial⟩ (fun w hw => hw.pick [0, 1, 2, 3, 4] (by decide))
            · skip
              have hm55 := br_f h45 hm43; clear hm43
              refine WC.exit ?_
              refine WQ.then_exit ?_
              refine WQ.then_exit ?_
              refine WQ.block_exit ?_
              exact WQ.out1 back13_3 (up_brk hm55 hn44) ⟨rfl, rfl, rfl, rfl, rfl, rfl, rfl, rfl, trivial⟩ (fun w hw => hw.pick [0, 1, 2, 3, 4] (by decide))
        · skip
          refine WC.cond rfl (fun h56 => ?_) (fun h56 => ?_)
          · skip
            have hm57 := br_t h56 hj26; clear hj26
            refine WC.region ?_
            refine WL.q rfl rfl rfl (QV.assign rfl rfl) ?_
            refine WL.nil ?_
            exact WQ.out1 1 (eq_of_some hm57) ⟨rfl, rfl, rfl, rfl, rfl, rfl, rfl, rfl, trivial⟩ (fun w hw => hw.pick [0, 1, 2, 3, 4] (by decide))
          · skip
            have hm58 := br_f h56 hj26; clear hj26
            refine WC.skip ?_
            exact WQ.out1 0 (eq_of_some hm58) ⟨rfl, rfl, rfl, rfl, rfl, rfl, rfl, rfl, trivial⟩ (fun w hw => hw.pick [0, 1, 2, 3, 4] (by decide))
      · skip
        refine WC.cond rfl (fun h59 => ?_) (fun h59 => ?_)
        · skip
          have hm60 := br_t h59 hj23; clear hj23
          refine WC.region ?_
          refine WL.q rfl rfl rfl (QV.assign rfl rfl) ?_
          refine WL.nil ?_
          exact WQ.out1 1 (eq_of_some hm60) ⟨rfl, rfl, rfl, rfl, rfl, rfl, rfl, rfl, trivial⟩ (fun w hw => hw.pick [0, 1, 2, 3, 4] (by decide))
        · skip
          have hm61 := br_f h59 hj23; clear hj23
          refine WC.skip ?_
          exact WQ.out1 0 (eq_of_some hm61) ⟨rfl, rfl, rfl, rfl, rfl, rfl, rfl, rfl, trivial⟩ (fun w hw => hw.pick [0, 1, 2, 3, 4] (by decide))
  · skip
    refine WD.two 10 11 1023 2047 3071 (by kernel_rfl) rfl rfl rfl rfl (by kernel_rfl) (by kernel_rfl) ?_ ?_
    · skip
      refine (EV.alloc (by decide) ze59 (fun b62 => ?_))
      refine WD.b (H' := [kn noM w.heap.size w w, blk b2 [.int .i64 0, .int .i64 0, .int .i64 0, .int .i64 0] 61, blk b1 [v_l_logs, v_l_body, v_l_outs] 49]) (fun w hw => hw.pick [3, 1, 2] (by decide)) (fun w hw => hw) ?_
      refine WD.oL 11 2047 4095 rfl (by kernel_rfl) rfl ?_
      refine (EV.alloc (by decide) ze59 (fun b63 => ?_))
      refine WD.b (H' := [kn noM w.heap.size w w, blk b2 [.int .i64 0, .int .i64 0, .int .i64 0, .int .i64 0] 61, blk b1 [v_l_logs, v_l_body, v_l_outs] 49]) (fun w hw => hw.pick [4, 2, 3] (by decide)) (fun w hw => hw) ?_
      refine WD.oL 12 4095 8191 rfl (by kernel_rfl) rfl ?_
      refine (EV.store 1 rfl rfl rfl rfl rfl rfl (vs := [.int .i64 ((ele l.body from_).op), .int .i64 (((ele l.body from_).a).st), .int .i64 (((ele l.body from_).a).bk), .int .i64 (((ele l.body from_).b).st), .int .i64 (((ele l.body from_).b).bk), .int .i64 ((ele l.body from_).ar), .int .i64 ((ele l.body from_).sp), .int .i64 ((ele l.body from_).pl), .int .i64 ((ele l.body from_).n)]) (show Value.cells _ = List.toArray _ from rfl) sz59 (Nat.le_of_ble_eq_true rfl) (one_cons rfl (one_cons rfl (one_cons rfl (one_cons rfl (one_cons rfl (one_cons rfl (one_cons rfl (one_cons rfl (one_cons rfl one_nil))))))))) ?_)
      refine WD.b (H' := [kn noM w.heap.size w w, blk b2 [.int .i64 0, .int .i64 0, .int .i64 0, .int .i64 0] 61, blk b1 [v_l_logs, v_l_body, v_l_outs] 49]) (fun w hw => hw.pick [4, 2, 3] (by decide)) (fun w hw => hw) ?_
      refine WD.oL 13 8191 16383 rfl (by kernel_rfl) rfl ?_
      refine (EV.store 0 rfl rfl rfl rfl rfl rfl (vs := [.int .i64 ((ele l.body to).op), .int .i64 (((ele l.body to).a).st), .int .i64 (((ele l.body to).a).bk), .int .i64 (((ele l.body to).b).st), .int .i64 (((ele l.body to).b).bk), .int .i64 ((ele l.body to).ar), .int .i64 ((ele l.body to).sp), .int .i64 ((ele l.body to).pl), .int .i64 ((ele l.body to).n)]) (show Value.cells _ = List.toArray _ from rfl) sz59 (Nat.le_of_ble_eq_true rfl) (one_cons rfl (one_cons rfl (one_cons rfl (one_cons rfl (one_cons rfl (one_cons rfl (one_cons rfl (one_cons rfl (one_cons rfl one_nil))))))))) ?_)
      refine WD.b (H' := [kn noM w.heap.size w w, blk b2 [.int .i64 0, .int .i64 0, .int .i64 0, .int .i64 0] 61, blk b1 [v_l_logs, v_l_body, v_l_outs] 49]) (fun w hw => hw.pick [4, 2, 3] (by decide)) (fun w hw => hw) ?_
      refine WD.eL (by kernel_rfl) ?_
      exact WQ.cutEnd2 b62 b63 ⟨rfl, rfl, rfl, rfl, rfl, rfl, trivial⟩ (fun w hw => hw.pick [0, 1, 2, 3, 4] (by decide))
    · skip
      refine (EV.alloc (by decide) ze59 (fun b64 => ?_))
      refine WD.b (H' := [kn noM w.heap.size w w, blk b2 [.int .i64 0, .int .i64 0, .int .i64 0, .int .i64 0] 61, blk b1 [v_l_logs, v_l_body, v_l_outs] 49]) (fun w hw => hw.pick [3, 1, 2] (by decide)) (fun w hw => hw) ?_
      refine WD.oL 10 3071 4095 rfl (by kernel_rfl) rfl ?_
      refine (EV.alloc (by decide) ze59 (fun b65 => ?_))
      refine WD.b (H' := [kn noM w.heap.size w w, blk b2 [.int .i64 0, .int .i64 0, .int .i64 0, .int .i64 0] 61, blk b1 [v_l_logs, v_l_body, v_l_outs] 49]) (fun w hw => hw.pick [4, 2, 3] (by decide)) (fun w hw => hw) ?_
      refine WD.oL 12 4095 8191 rfl (by kernel_rfl) rfl ?_
      refine (EV.store 0 rfl rfl rfl rfl rfl rfl (vs := [.int .i64 ((ele l.body from_).op), .int .i64 (((ele l.body from_).a).st), .int .i64 (((ele l.body from_).a).bk), .int .i64 (((ele l.body from_).b).st), .int .i64 (((ele l.body from_).b).bk), .int .i64 ((ele l.body from_).ar), .int .i64 ((ele l.body from_).sp), .int .i64 ((ele l.body from_).pl), .int .i64 ((ele l.body from_).n)]) (show Value.cells _ = List.toArray _ from rfl) sz59 (Nat.le_of_ble_eq_true rfl) (one_cons rfl (one_cons rfl (one_cons rfl (one_cons rfl (one_cons rfl (one_cons rfl (one_cons rfl (one_cons rfl (one_cons rfl one_nil))))))))) ?_)
      refine WD.b (H' := [kn noM w.heap.size w w, blk b2 [.int .i64 0, .int .i64 0, .int .i64 0, .int .i64 0] 61, blk b1 [v_l_logs, v_l_body, v_l_outs] 49]) (fun w hw => hw.pick [4, 2, 3] (by decide)) (fun w hw => hw) ?_
      refine WD.oL 13 8191 16383 rfl (by kernel_rfl) rfl ?_
      refine (EV.store 1 rfl rfl rfl rfl rfl rfl (vs := [.int .i64 ((ele l.body to).op), .int .i64 (((ele l.body to).a).st), .int .i64 (((ele l.body to).a).bk), .int .i64 (((ele l.body to).b).st), .int .i64 (((ele l.body to).b).bk), .int .i64 ((ele l.body to).ar), .int .i64 ((ele l.body to).sp), .int .i64 ((ele l.body to).pl), .int .i64 ((ele l.body to).n)]) (show Value.cells _ = List.toArray _ from rfl) sz59 (Nat.le_of_ble_eq_true rfl) (one_cons rfl (one_cons rfl (one_cons rfl (one_cons rfl (one_cons rfl (one_cons rfl (one_cons rfl (one_cons rfl (one_cons rfl one_nil))))))))) ?_)
      refine WD.b (H' := [kn noM w.heap.size w w, blk b2 [.int .i64 0, .int .i64 0, .int .i64 0, .int .i64 0] 61, blk b1 [v_l_logs, v_l_body, v_l_outs] 49]) (fun w hw => hw.pick [4, 2, 3] (by decide)) (fun w hw => hw) ?_
      refine WD.eL (by kernel_rfl) ?_
      exact WQ.cutEnd2 b65 b64 ⟨rfl, rfl, rfl, rfl, rfl, rfl, trivial⟩ (fun w hw => hw.pick [1, 0, 2, 3, 4] (by decide))

set_option maxRecDepth 8000 in
theorem dep_Edges_w {v_l_logs : Value} {v_l_body : Value} {v_l_outs : Value} {l : Lp} {t : Tgt} {r : List Edg × Int} {K0 : World} (hm : dep_Edges_m l t = some r) (h_l_logs : Arr K0 v_l_logs 1 (l.logs.map icell)) (h_l_body : Arr K0 v_l_body 9 (l.body.map Stm.cells)) (h_l_outs : Arr K0 v_l_outs 1 (l.outs.map icell)) (M : Nat → Prop) (w : World) (hk : Base M K0 w) (hw0 : Own M w [] w) : Calls Try.prog 23 #[.agg #[v_l_logs, v_l_body, v_l_outs], .agg #[.int .i64 t.u0, .int .i64 t.u1, .int .i64 t.u2, .int .i64 t.w0, .int .i64 t.w1, .int .i64 t.w2, .int .i64 t.regs]] w (fun e w' => ∃ X : Value × World, e = .returned (.tuple #[X.1, .int .i64 r.2]) ∧ Own M w (kn M w.heap.size K0 X.2 :: []) w' ∧ Arr X.2 X.1 4 (r.1.map Edg.cells)) := by
  unfold dep_Edges_m at hm
  refine calls_of_WC (n := 80) (args := [.agg #[v_l_logs, v_l_body, v_l_outs], .agg #[.int .i64 t.u0, .int .i64 t.u1, .int .i64 t.u2, .int .i64 t.w0, .int .i64 t.w1, .int .i64 t.w2, .int .i64 t.regs]]) Try.func23 rfl rfl (Nat.le_of_ble_eq_true rfl) ?_ (Own.startK hk hw0)
  refine WC.seq ?_
  refine WC.region ?_
  refine WL.effect rfl ?_
  refine (EV.boxAgg (by decide) rfl rfl (fun b1 => ?_))
  refine WL.effect rfl ?_
  refine (EV.boxAgg (by decide) rfl rfl (fun b2 => ?_))
  refine WL.q rfl rfl rfl (QV.assign rfl rfl) ?_
  refine WL.q rfl rfl rfl (QV.assign rfl rfl) ?_
  refine WL.nil ?_
  refine WQ.then ?_
  refine WC.seq ?_
  refine WC.seq ?_
  refine WC.region ?_
  refine WL.q rfl rfl rfl (QV.loadAgg ag49 rfl rfl rfl (Own.cellsBlk 1 rfl)) ?_
  obtain ⟨x3, hx4, hm5⟩ := bd_some hm; clear hm
  refine WL.q rfl rfl rfl (QV.call en61 (EvAll.cons rfl rfl EvAll.nil) (fun w hw => have h := loop_May_w w hx4 ((Own.karr 2 rfl hk h_l_logs) w hw) ((Own.karr 2 rfl hk h_l_body) w hw) ((Own.karr 2 rfl hk h_l_outs) w hw); h)) ?_
  refine WL.q rfl rfl rfl (QV.not rfl rfl) ?_
  refine WL.q rfl rfl rfl (QV.move rfl rfl) ?_
  refine WL.g rfl rfl (GuardIs.neg rfl rfl) (fun hG => QV.loadAgg ag24 rfl rfl rfl (Own.cellsBlk 0 rfl)) ?_
  obtain ⟨x6, hx7, hm8⟩ := bdG_some hm5; clear hm5
  refine WL.g rfl rfl (GuardIs.neg rfl rfl) (fun hG => QV.call en46 (EvAll.cons rfl hG EvAll.nil) (fun w hw => have h := target_May_w w (hx7 hG) ; h)) ?_
  refine WL.g rfl rfl (GuardIs.neg rfl rfl) (fun hG => QV.not rfl hG) ?_
  refine WL.q rfl rfl rfl (QV.pickOr rfl rfl rfl (fun h => notF h)) ?_
  refine WL.nil ?_
  refine WQ.then ?_
  refine WC.cond rfl (fun h9 => ?_) (fun h9 => ?_)
  · skip
    have hm10 := br_t h9 hm8; clear hm8
    refine WC.seq ?_
    refine WC.region ?_
    refine WL.q rfl rfl rfl (QV.assign rfl rfl) ?_
    refine WL.q rfl rfl rfl (QV.assign rfl rfl) ?_
    refine WL.nil ?_
    refine WQ.then ?_
    refine WC.ret ?_
    refine WQ.then_ret ?_
    obtain rfl := (eq_of_some hm10).symm
    refine WQ.ret2 rfl rfl rfl (fun w hw => ?_)
    exact ⟨(.slice none 0 0, K0), rfl, hw.pick [2] (by decide), Arr.nil⟩
  · skip
    have hm11 := br_f h9 hm8; clear hm8
    refine WC.skip ?_
    refine WQ.then ?_
    refine WC.seq ?_
    refine WC.region ?_
    refine WL.q rfl rfl rfl (QV.assign rfl rfl) ?_
    refine WL.nil ?_
    refine WQ.then ?_
    refine WC.seq ?_
    refine WC.seq ?_
    refine WC.region ?_
    refine WL.q rfl rfl rfl (QV.fieldAddr fd49_1 rfl rfl) ?_
    refine WL.q rfl rfl rfl (QV.load pl47 rfl rfl (Own.cell 1 rfl rfl)) ?_
    refine WL.q rfl rfl rfl (QV.lenS Try.underlying47 rfl rfl h_l_body.lenMap) ?_
    refine WL.q rfl rfl rfl (QV.move rfl rfl) ?_
    refine WL.nil ?_
    refine WQ.then ?_
    refine WK.of (fun w hw => hw.vecNil (E := 61) (sz := 4) (enc := Edg.cells)) ?_
    obtain ⟨o13, ho14, hm15⟩ := bd_some hm11; clear hm11; obtain ⟨n16, ho17⟩ := lp_some ho14
    refine WC.bloop4 (H2 := [blk b2 [.int .i64 t.u0, .int .i64 t.u1, .int .i64 t.u2, .int .i64 t.w0, .int .i64 t.w1, .int .i64 t.w2, .int .i64 t.regs] 24, blk b1 [v_l_logs, v_l_body, v_l_outs] 49]) (τ := [(2, (true, _)), (3, (true, _)), (23, (true, _)), (24, (true, _))]) (fun (v12_7 : List Edg) (x25_7 : Int) (uv12_7 : Value) (k_7 : World) => [(6, (true, uv12_7)), (25, (true, .int .i64 x25_7))]) (fun (v12_7 : List Edg) (x25_7 : Int) (uv12_7 : Value) (k_7 : World) => [vec uv12_7 61 4 (List.map Edg.cells v12_7), kn M w.heap.size K0 k_7]) (fun (v12_7 : List Edg) (x25_7 : Int) (uv12_7 : Value) (k_7 : World) (m : Nat) => iter (dep_Edges_L0 l t) m (v12_7, x25_7) = some o13 ∧ SliceLen uv12_7 v12_7.length ∧ Le K0 k_7) (fun (v12_7 : List Edg) (x25_7 : Int) (uv12_7 : Value) (k_7 : World) => o13 = .go (v12_7, x25_7) ∧ SliceLen uv12_7 v12_7.length ∧ Le K0 k_7) [] 0 (.slice none 0 0) K0 n16 ⟨ho17, SliceLen.nil, (Le.refl _)⟩ ⟨rfl, rfl, rfl, rfl, rfl, rfl, trivial⟩ (fun w hw => hw.pick [0, 3, 1, 2] (by decide)) ?_ ?_
    · skip
      rintro v12_7 x25_7 uv12_7 k_7 ⟨rfl, hlv12_7, hle_7⟩
      refine WQ.then ?_
      refine WC.seq ?_
      refine WC.region ?_
      refine WL.q rfl rfl rfl (QV.move rfl rfl) ?_
      refine WL.effect rfl ?_
      obtain ⟨x18, hx19, hm20⟩ := bd_some hm15; clear hm15
      refine EV.of (C' := Own M w [kn M w.heap.size K0 k_7, vec uv12_7 61 4 (List.map Edg.cells v12_7), blk b2 [.int .i64 t.u0, .int .i64 t.u1, .int .i64 t.u2, .int .i64 t.w0, .int .i64 t.w1, .int .i64 t.w2, .int .i64 t.regs] 24, blk b1 [v_l_logs, v_l_body, v_l_outs] 49]) (fun w hw => hw.pick [1, 0, 2, 3] (by decide)) ?_
      refine (EV.callR (X := World) (R := [vec uv12_7 61 4 (List.map Edg.cells v12_7)]) (fun X => .tuple #[]) (fun X => [vec uv12_7 61 4 (List.map Edg.cells x18)]) (fun X => X) (fun X => SliceLen uv12_7 (x18).length) hk (fun _ h => by cases h; decide) en65 (EvAll.cons rfl rfl (EvAll.cons rfl rfl EvAll.nil)) (fun M w h1 h2 => have h := SortFunc_w hx19 hlv12_7 M w h1 h2; h) (fun X21 hF21 hle21 => ?_))
      refine WL.nil ?_
      refine WQ.then ?_
      refine WC.seq ?_
      refine WC.region ?_
      refine WL.q rfl rfl rfl (QV.move rfl rfl) ?_
      refine WL.effect rfl ?_
      obtain ⟨x22, hx23, hm24⟩ := bd_some hm20; clear hm20
      refine (EV.callR (X := Value × World) (R := [vec uv12_7 61 4 (List.map Edg.cells x18)]) (fun X => X.1) (fun X => []) (fun X => X.2) (fun X => Arr X.2 X.1 4 (x22.map Edg.cells)) hk (fun _ h => by cases h; decide) en67 (EvAll.cons rfl rfl EvAll.nil) (fun M w h1 h2 => have h := slices_Compact___api_Edge_api_Edge__w hx23 hF21 M w h1 h2; h) (fun X25 hF25 hle25 => ?_))
      refine WL.q rfl rfl rfl (QV.assign rfl rfl) ?_
      refine WL.q rfl rfl rfl (QV.assign rfl rfl) ?_
      refine WL.nil ?_
      refine WQ.then ?_
      refine WC.ret ?_
      obtain rfl := (eq_of_some hm24).symm
      refine WQ.ret2 rfl rfl rfl (fun w hw => ?_)
      exact ⟨(X25.1, X25.2), rfl, hw.pick [0] (by decide), hF25⟩
    · skip
      rintro v12_7 x25_7 uv12_7 k_7 m26 ⟨hI27, hlv12_7, hle_7⟩
      obtain ⟨m28, s29, rfl, hm30, hn31⟩ := iter_step hI27; clear hI27; unfold dep_Edges_L0 at hm30; simp only at hm30
      refine WC.seq ?_
      refine WC.region ?_
      refine WL.q rfl rfl rfl (QV.lss rfl rfl rfl rfl) ?_
      refine WL.nil ?_
      refine WQ.then ?_
      refine WC.seq ?_
      refine WC.cond rfl (fun h32 => ?_) (fun h32 => ?_)
      · skip
        have hm33 := br_t h32 hm30; clear hm30
        refine WC.skip ?_
        refine WQ.then ?_
        refine WC.seq ?_
        refine WC.block ?_
        refine WC.seq ?_
        refine WC.region ?_
        refine WL.q rfl rfl rfl (QV.move rfl rfl) ?_
        obtain ⟨c34, hm35⟩ := ck_some hm33; clear hm33
        obtain ⟨p36, hp37⟩ := (h_l_body.le hle_7).lenMap.ix (sz := 9) ln_len c34
        refine WL.q rfl rfl rfl (QV.indexSlice sl47 rfl rfl rfl rfl hp37) ?_
        refine WL.q rfl rfl rfl (QV.loadAgg ag59 rfl rfl rfl (fun w hw => ((Own.karr 1 rfl hk (h_l_body.le hle_7)) w hw).ele hp37 c34)) ?_
        refine WL.effect rfl ?_
        refine (EV.alloc (by decide) ze59 (fun b38 => ?_))
        refine WL.q rfl rfl rfl (QV.assign rfl rfl) ?_
        refine WL.effect rfl ?_
        refine (EV.store 0 rfl rfl rfl rfl rfl rfl (vs := [.int .i64 ((ele l.body x25_7).op), .int .i64 (((ele l.body x25_7).a).st), .int .i64 (((ele l.body x25_7).a).bk), .int .i64 (((ele l.body x25_7).b).st), .int .i64 (((ele l.body x25_7).b).bk), .int .i64 ((ele l.body x25_7).ar), .int .i64 ((ele l.body x25_7).sp), .int .i64 ((ele l.body x25_7).pl), .int .i64 ((ele l.body x25_7).n)]) (show Value.cells _ = List.toArray _ from rfl) sz59 (Nat.le_of_ble_eq_true rfl) (one_cons rfl (one_cons rfl (one_cons rfl (one_cons rfl (one_cons rfl (one_cons rfl (one_cons rfl (one_cons rfl (one_cons rfl one_nil))))))))) ?_)
        refine WL.nil ?_
        refine WQ.then ?_
        refine WC.seq ?_
        refine WC.seq ?_
        refine WC.region ?_
        refine WL.q rfl rfl rfl (QV.loadAgg ag59 rfl rfl rfl (Own.cellsBlk 0 rfl)) ?_
        refine WL.effect rfl ?_
        obtain ⟨x39, hx40, hm41⟩ := bd_some hm35; clear hm35
        refine EV.of (C' := Own M w [kn M w.heap.size K0 k_7, blk b38 [.int .i64 ((ele l.body x25_7).op), .int .i64 (((ele l.body x25_7).a).st), .int .i64 (((ele l.body x25_7).a).bk), .int .i64 (((ele l.body x25_7).b).st), .int .i64 (((ele l.body x25_7).b).bk), .int .i64 ((ele l.body x25_7).ar), .int .i64 ((ele l.body x25_7).sp), .int .i64 ((ele l.body x25_7).pl), .int .i64 ((ele l.body x25_7).n)] 59, vec uv12_7 61 4 (List.map Edg.cells v12_7), blk b2 [.int .i64 t.u0, .int .i64 t.u1, .int .i64 t.u2, .int .i64 t.w0, .int .i64 t.w1, .int .i64 t.w2, .int .i64 t.regs] 24, blk b1 [v_l_logs, v_l_body, v_l_outs] 49]) (fun w hw => hw.pick [2, 0, 1, 3, 4] (by decide)) ?_
        refine (EV.callR (X := Value × World) (R := []) (fun X => X.1) (fun X => []) (fun X => X.2) (fun X => Arr X.2 X.1 2 (x39.map Rf.cells)) hk (fun _ h => by cases h; decide) en62 (EvAll.cons rfl rfl EvAll.nil) (fun M w h1 h2 => have h := loop_Uses_w hx40  M w h1 h2; h) (fun X42 hF42 hle42 => ?_))
        refine WL.q rfl rfl rfl (QV.lenS Try.underlying106 rfl rfl hF42.lenMap) ?_
        refine WL.q rfl rfl rfl (QV.move rfl rfl) ?_
        refine WL.nil ?_
        refine WQ.then ?_
        obtain ⟨o43, ho44, hm45⟩ := bd_some hm41; clear hm41; obtain ⟨n46, ho47⟩ := lp_some ho44
        refine WC.bloop3 (H2 := [kn M w.heap.size K0 X42.2, blk b38 [.int .i64 ((ele l.body x25_7).op), .int .i64 (((ele l.body x25_7).a).st), .int .i64 (((ele l.body x25_7).a).bk), .int .i64 (((ele l.body x25_7).b).st), .int .i64 (((ele l.body x25_7).b).bk), .int .i64 ((ele l.body x25_7).ar), .int .i64 ((ele l.body x25_7).sp), .int .i64 ((ele l.body x25_7).pl), .int .i64 ((ele l.body x25_7).n)] 59, blk b2 [.int .i64 t.u0, .int .i64 t.u1, .int .i64 t.u2, .int .i64 t.w0, .int .i64 t.w1, .int .i64 t.w2, .int .i64 t.regs] 24, blk b1 [v_l_logs, v_l_body, v_l_outs] 49]) (τ := [(2, (true, _)), (3, (true, _)), (7, (true, _)), (23, (true, _)), (24, (true, _)), (25, (true, _)), (31, (true, _)), (32, (true, _))]) (fun (v12_8 : List Edg) (x33_8 : Int) (uv12_8 : Value) => [(6, (true, uv12_8)), (33, (true, .int .i64 x33_8))]) (fun (v12_8 : List Edg) (x33_8 : Int) (uv12_8 : Value) => [vec uv12_8 61 4 (List.map Edg.cells v12_8)]) (fun (v12_8 : List Edg) (x33_8 : Int) (uv12_8 : Value) (m : Nat) => iter (dep_Edges_L2 l t x25_7 x39) m (v12_8, x33_8) = some o43 ∧ SliceLen uv12_8 v12_8.length) (fun (v12_8 : List Edg) (x33_8 : Int) (uv12_8 : Value) => o43 = .go (v12_8, x33_8) ∧ SliceLen uv12_8 v12_8.length) v12_7 0 uv12_7 n46 ⟨ho47, hlv12_7⟩ ⟨rfl, rfl, rfl, rfl, rfl, rfl, rfl, rfl, rfl, rfl, trivial⟩ (fun w hw => hw.pick [2, 0, 1, 3, 4] (by decide)) ?_ ?_
        · skip
          rintro v12_8 x33_8 uv12_8 ⟨rfl, hlv12_8⟩
          refine WQ.then ?_
          refine WC.seq ?_
          refine WC.region ?_
          refine WL.q rfl rfl rfl (QV.fieldAddr fd49_1 rfl rfl) ?_
          refine WL.q rfl rfl rfl (QV.load pl47 rfl rfl (Own.cell 4 rfl rfl)) ?_
          refine WL.q rfl rfl rfl (QV.lenS Try.underlying47 rfl rfl (h_l_body.le (hle_7.trans hle42)).lenMap) ?_
          refine WL.q rfl rfl rfl (QV.move rfl rfl) ?_
          refine WL.nil ?_
          refine WQ.then ?_
          obtain ⟨o48, ho49, hm50⟩ := bd_some hm45; clear hm45; obtain ⟨n51, ho52⟩ := lp_some ho49
          refine WC.bloop3 (H2 := [kn M w.heap.size K0 X42.2, blk b38 [.int .i64 ((ele l.body x25_7).op), .int .i64 (((ele l.body x25_7).a).st), .int .i64 (((ele l.body x25_7).a).bk), .int .i64 (((ele l.body x25_7).b).st), .int .i64 (((ele l.body x25_7).b).bk), .int .i64 ((ele l.body x25_7).ar), .int .i64 ((ele l.body x25_7).sp), .int .i64 ((ele l.body x25_7).pl), .int .i64 ((ele l.body x25_7).n)] 59, blk b2 [.int .i64 t.u0, .int .i64 t.u1, .int .i64 t.u2, .int .i64 t.w0, .int .i64 t.w1, .int .i64 t.w2, .int .i64 t.regs] 24, blk b1 [v_l_logs, v_l_body, v_l_outs] 49]) (τ := [(2, (true, _)), (3, (true, _)), (7, (true, _)), (23, (true, _)), (24, (true, _)), (25, (true, _)), (58, (true, _))]) (fun (v12_9 : List Edg) (x59_9 : Int) (uv12_9 : Value) => [(6, (true, uv12_9)), (59, (true, .int .i64 x59_9))]) (fun (v12_9 : List Edg) (x59_9 : Int) (uv12_9 : Value) => [vec uv12_9 61 4 (List.map Edg.cells v12_9)]) (fun (v12_9 : List Edg) (x59_9 : Int) (uv12_9 : Value) (m : Nat) => iter (dep_Edges_L4 l x25_7) m (v12_9, x59_9) = some o48 ∧ SliceLen uv12_9 v12_9.length) (fun (v12_9 : List Edg) (x59_9 : Int) (uv12_9 : Value) => o48 = .go (v12_9, x59_9) ∧ SliceLen uv12_9 v12_9.length) v12_8 0 uv12_8 n51 ⟨ho52, hlv12_8⟩ ⟨rfl, rfl, rfl, rfl, rfl, rfl, rfl, rfl, rfl, trivial⟩ (fun w hw => hw.pick [0, 1, 2, 3, 4] (by decide)) ?_ ?_
          · skip
            rintro v12_9 x59_9 uv12_9 ⟨rfl, hlv12_9⟩
            refine WQ.block ?_
            refine WQ.then ?_
            refine WC.region ?_
            obtain ⟨c53, hm54⟩ := ck_some hm50; clear hm50
            refine WL.q rfl rfl rfl (QV.add rfl rfl rfl rfl c53) ?_
            refine WL.q rfl rfl rfl (QV.move rfl rfl) ?_
            refine WL.nil ?_
            exact WQ.again4 v12_9 (x25_7 + 1) uv12_9 X42.2 m28 ⟨up_next hm54 hn31, hlv12_9, (hle_7.trans hle42)⟩ (Nat.lt_succ_self _) ⟨rfl, rfl, rfl, rfl, rfl, rfl, trivial⟩ (fun w hw => hw.pick [0, 1, 3, 4] (by decide))
          · skip
            rintro v12_9 x59_9 uv12_9 m55 ⟨hI56, hlv12_9⟩
            obtain ⟨m57, s58, rfl, hm59, hn60⟩ := iter_step hI56; clear hI56; unfold dep_Edges_L4 at hm59; simp only at hm59
            refine WC.seq ?_
            refine WC.region ?_
            refine WL.q rfl rfl rfl (QV.lss rfl rfl rfl rfl) ?_
            refine WL.nil ?_
            refine WQ.then ?_
            refine WC.seq ?_
            refine WC.cond rfl (fun h61 => ?_) (fun h61 => ?_)
            · skip
              have hm62 := br_t h61 hm59; clear hm59
              refine WC.skip ?_
              refine WQ.then ?_
              refine WC.seq ?_
              refine WC.block ?_
              refine WC.seq ?_
              refine WC.region ?_
              refine WL.q rfl rfl rfl (QV.move rfl rfl) ?_
              refine WL.q rfl rfl rfl (QV.assign rfl rfl) ?_
              refine WL.nil ?_
              refine WQ.then ?_
              refine WC.seq ?_
              refine WC.region ?_
              refine WL.q rfl rfl rfl (QV.loadAgg ag49 rfl rfl rfl (Own.cellsBlk 4 rfl)) ?_
              refine WL.q rfl rfl rfl (QV.move rfl rfl) ?_
              refine WL.q rfl rfl rfl (QV.move rfl rfl) ?_
              obtain ⟨x63, hx64, hm65⟩ := bd_some hm62; clear hm62
              refine WL.q rfl rfl rfl (QV.call en64 (EvAll.cons rfl rfl (EvAll.cons rfl rfl (EvAll.cons rfl rfl EvAll.nil))) (fun w hw => have h := dep_memory_w w hx64 ((Own.karr 1 rfl hk (h_l_logs.le (hle_7.trans hle42))) w hw) ((Own.karr 1 rfl hk (h_l_body.le (hle_7.trans hle42))) w hw) ((Own.karr 1 rfl hk (h_l_outs.le (hle_7.trans hle42))) w hw); h)) ?_
              refine WL.q rfl rfl rfl (QV.move rfl rfl) ?_
              refine WL.q rfl rfl rfl (QV.extract rfl rfl rfl) ?_
              refine WL.q rfl rfl rfl (QV.extract rfl rfl rfl) ?_
              refine WL.effect rfl ?_
              refine (EV.alloc (by decide) ze61 (fun b66 => ?_))
              refine WL.effect rfl ?_
              refine (EV.store 0 rfl rfl rfl rfl rfl rfl (vs := [.int .i64 x63.1.fr, .int .i64 x63.1.to, .int .i64 x63.1.bk, .int .i64 x63.1.wt]) (show Value.cells _ = List.toArray _ from rfl) sz61 (Nat.le_of_ble_eq_true rfl) (one_cons rfl (one_cons rfl (one_cons rfl (one_cons rfl one_nil)))) ?_)
              refine WL.q rfl rfl rfl (QV.assign rfl rfl) ?_
              refine WL.nil ?_
              refine WQ.then ?_
              refine WC.seq ?_
              refine WC.region ?_
              refine WL.q rfl rfl rfl (QV.move rfl rfl) ?_
              refine WL.nil ?_
              refine WQ.then ?_
              refine WC.cond rfl (fun h67 => ?_) (fun h67 => ?_)
              · skip
                have hm68 := br_t h67 hm65; clear hm65
                refine WC.region ?_
                refine WL.q rfl rfl rfl (QV.move rfl rfl) ?_
                refine WL.q rfl rfl rfl (QV.loadAgg ag61 rfl rfl rfl (Own.cellsBlk 0 rfl)) ?_
                refine WL.effect rfl ?_
                refine (EV.buildSlice (by decide) sz_50 (by decide) (by decide) (ps := [(0, .tmp 71)]) (cells := [.int .i64 x63.1.fr, .int .i64 x63.1.to, .int .i64 x63.1.bk, .int .i64 x63.1.wt]) (EvAll.cons rfl rfl EvAll.nil) (by kernel_rfl) (fun b69 => ?_))
                refine WL.effect rfl ?_
                obtain ⟨c70, hm71⟩ := ck_some hm68; clear hm68
                refine (EV.appendL (enc := Edg.cells) (xs := v12_9) (ys := [x63.1]) ((v12_9 ++ [x63.1])) 2 (by decide) ve50 rfl rfl rfl rfl rfl (Own.blkArr 0 (rows := [x63.1].map Edg.cells) rfl rfl (rows_len Edg.cells_len)) Edg.cells_len (Edg.cells_one _) rfl c70.1 c70.2 (fun u72 hu73 => ?_))
                refine WL.q rfl rfl rfl (QV.assign rfl rfl) ?_
                refine WL.nil ?_
                refine WQ.block ?_
                refine WQ.then ?_
                refine WC.region ?_
                obtain ⟨c74, hm75⟩ := ck_some hm71; clear hm71
                refine WL.q rfl rfl rfl (QV.add rfl rfl rfl rfl c74) ?_
                refine WL.q rfl rfl rfl (QV.move rfl rfl) ?_
                refine WL.nil ?_
                exact WQ.again3 (v12_9 ++ [x63.1]) (x59_9 + 1) u72 m57 ⟨up_next hm75 hn60, hu73⟩ (Nat.lt_succ_self _) ⟨rfl, rfl, rfl, rfl, rfl, rfl, rfl, rfl, rfl, trivial⟩ (fun w hw => hw.pick [2, 3, 4, 5, 6] (by decide))
              · skip
                have hm76 := br_f h67 hm65; clear hm65
                refine WC.skip ?_
                refine WQ.block ?_
                refine WQ.then ?_
                refine WC.region ?_
                obtain ⟨c77, hm78⟩ := ck_some hm76; clear hm76
                refine WL.q rfl rfl rfl (QV.add rfl rfl rfl rfl c77) ?_
                refine WL.q rfl rfl rfl (QV.move rfl rfl) ?_
                refine WL.nil ?_
                exact WQ.again3 v12_9 (x59_9 + 1) uv12_9 m57 ⟨up_next hm78 hn60, hlv12_9⟩ (Nat.lt_succ_self _) ⟨rfl, rfl, rfl, rfl, rfl, rfl, rfl, rfl, rfl, trivial⟩ (fun w hw => hw.pick [1, 2, 3, 4, 5] (by decide))
            · skip
              have hm79 := br_f h61 hm59; clear hm59
              refine WC.exit ?_
              refine WQ.then_exit ?_
              refine WQ.then_exit ?_
              refine WQ.block_exit ?_
              exact WQ.out3 v12_9 x59_9 uv12_9 ⟨up_brk hm79 hn60, hlv12_9⟩ ⟨rfl, rfl, rfl, rfl, rfl, rfl, rfl, rfl, rfl, trivial⟩ (fun w hw => hw.pick [0, 1, 2, 3, 4] (by decide))
        · skip
          rintro v12_8 x33_8 uv12_8 m80 ⟨hI81, hlv12_8⟩
          obtain ⟨m82, s83, rfl, hm84, hn85⟩ := iter_step hI81; clear hI81; unfold dep_Edges_L2 at hm84; simp only at hm84
          refine WC.seq ?_
          refine WC.region ?_
          refine WL.q rfl rfl rfl (QV.lss rfl rfl rfl rfl) ?_
          refine WL.nil ?_
          refine WQ.then ?_
          refine WC.seq ?_
          refine WC.cond rfl (fun h86 => ?_) (fun h86 => ?_)
          · skip
            have hm87 := br_t h86 hm84; clear hm84
            refine WC.skip ?_
            refine WQ.then ?_
            refine WC.seq ?_
            refine WC.block ?_
            refine WC.seq ?_
            refine WC.region ?_
            obtain ⟨c88, hm89⟩ := ck_some hm87; clear hm87
            obtain ⟨p90, hp91⟩ := hF42.lenMap.ix (sz := 2) ln_len c88
            refine WL.q rfl rfl rfl (QV.indexSlice sl106 rfl rfl rfl rfl hp91) ?_
            refine WL.q rfl rfl rfl (QV.loadAgg ag57 rfl rfl rfl (fun w hw => ((Own.karr 1 rfl hk hF42) w hw).ele hp91 c88)) ?_
            refine WL.effect rfl ?_
            refine (EV.alloc (by decide) ze57 (fun b92 => ?_))
            refine WL.effect rfl ?_
            refine (EV.store 0 rfl rfl rfl rfl rfl rfl (vs := [.int .i64 ((ele x39 x33_8).st), .int .i64 ((ele x39 x33_8).bk)]) (show Value.cells _ = List.toArray _ from rfl) sz57 (Nat.le_of_ble_eq_true rfl) (one_cons rfl (one_cons rfl one_nil)) ?_)
            refine WL.nil ?_
            refine WQ.then ?_
            refine WC.dr (m := 19) (S := Own M w [kn M w.heap.size K0 X42.2, blk b92 [.int .i64 ((ele x39 x33_8).st), .int .i64 ((ele x39 x33_8).bk)] 57, blk b38 [.int .i64 ((ele l.body x25_7).op), .int .i64 (((ele l.body x25_7).a).st), .int .i64 (((ele l.body x25_7).a).bk), .int .i64 (((ele l.body x25_7).b).st), .int .i64 (((ele l.body x25_7).b).bk), .int .i64 ((ele l.body x25_7).ar), .int .i64 ((ele l.body x25_7).sp), .int .i64 ((ele l.body x25_7).pl), .int .i64 ((ele l.body x25_7).n)] 59, blk b2 [.int .i64 t.u0, .int .i64 t.u1, .int .i64 t.u2, .int .i64 t.w0, .int .i64 t.w1, .int .i64 t.w2, .int .i64 t.regs] 24, blk b1 [v_l_logs, v_l_body, v_l_outs] 49]) (by kernel_rfl) (by kernel_rfl) (fun w hw => hw.pick [2, 0, 3, 4, 5] (by decide)) ?_
            refine WD.q 0 rfl (by kernel_rfl) rfl rfl rfl (QV.move rfl rfl) ?_
            refine WD.q 1 rfl (by kernel_rfl) rfl rfl rfl (QV.fieldAddr fd57_0 rfl rfl) ?_
            refine WD.q 2 rfl (by kernel_rfl) rfl rfl rfl (QV.load pl3 rfl rfl (Own.cell 1 rfl rfl)) ?_
            refine WD.q 3 rfl (by kernel_rfl) rfl rfl rfl (QV.move rfl rfl) ?_
            refine WD.q 4 rfl (by kernel_rfl) rfl rfl rfl (QV.fieldAddr fd57_1 rfl rfl) ?_
            refine WD.q 5 rfl (by kernel_rfl) rfl rfl rfl (QV.load pl3 rfl rfl (Own.cell 1 rfl rfl)) ?_
            refine WD.q 6 rfl (by kernel_rfl) rfl rfl rfl (QV.loadAgg ag24 rfl rfl rfl (Own.cellsBlk 3 rfl)) ?_
            refine WD.q 7 rfl (by kernel_rfl) rfl rfl rfl (QV.fieldAddr fd49_1 rfl rfl) ?_
            refine WD.q 8 rfl (by kernel_rfl) rfl rfl rfl (QV.load pl47 rfl rfl (Own.cell 4 rfl rfl)) ?_
            refine WD.q 9 rfl (by kernel_rfl) rfl rfl rfl (QV.fieldAddr fd57_0 rfl rfl) ?_
            refine WD.q 10 rfl (by kernel_rfl) rfl rfl rfl (QV.load pl3 rfl rfl (Own.cell 1 rfl rfl)) ?_
            obtain ⟨c93, hm94⟩ := ck_some hm89; clear hm89
            obtain ⟨p95, hp96⟩ := (h_l_body.le (hle_7.trans hle42)).lenMap.ix (sz := 9) ln_len c93
            refine WD.q 11 rfl (by kernel_rfl) rfl rfl rfl (QV.indexSlice sl47 rfl rfl rfl rfl hp96) ?_
            refine WD.q 12 rfl (by kernel_rfl) rfl rfl rfl (QV.fieldAddr fd59_0 rfl rfl) ?_
            refine WD.q 13 rfl (by kernel_rfl) rfl rfl rfl (QV.load pl3 rfl rfl (fun w hw => CellsAt.one 0 (((Own.karr 0 rfl hk (h_l_body.le (hle_7.trans hle42))) w hw).ele hp96 c93) rfl)) ?_
            obtain ⟨x97, hx98, hm99⟩ := bd_some hm94; clear hm94
            refine WD.q 14 rfl (by kernel_rfl) rfl rfl rfl (QV.call en63 (EvAll.cons rfl rfl (EvAll.cons rfl rfl EvAll.nil)) (fun w hw => have h := target_Wait_w w hx98 ; h)) ?_
            refine WD.q 15 rfl (by kernel_rfl) rfl rfl rfl (QV.build (ps := [(0, .tmp 39), (1, .tmp 40), (2, .tmp 42), (3, .tmp 51)]) (cells := [.int .i64 ((ele x39 x33_8).st), .int .i64 x25_7, .int .i64 ((ele x39 x33_8).bk), .int .i64 x97]) (EvAll.cons rfl rfl (EvAll.cons rfl rfl (EvAll.cons rfl rfl (EvAll.cons rfl rfl EvAll.nil)))) (by kernel_rfl)) ?_
            refine WD.o 16 rfl (by kernel_rfl) rfl ?_
            refine (EV.buildSlice (by decide) sz_50 (by decide) (by decide) (ps := [(0, .tmp 52)]) (cells := [.int .i64 ((ele x39 x33_8).st), .int .i64 x25_7, .int .i64 ((ele x39 x33_8).bk), .int .i64 x97]) (EvAll.cons rfl rfl EvAll.nil) (by kernel_rfl) (fun b100 => ?_))
            refine WD.b (H' := [kn M w.heap.size K0 X42.2, blk b100 [.int .i64 ((ele x39 x33_8).st), .int .i64 x25_7, .int .i64 ((ele x39 x33_8).bk), .int .i64 x97] 61, blk b92 [.int .i64 ((ele x39 x33_8).st), .int .i64 ((ele x39 x33_8).bk)] 57, blk b38 [.int .i64 ((ele l.body x25_7).op), .int .i64 (((ele l.body x25_7).a).st), .int .i64 (((ele l.body x25_7).a).bk), .int .i64 (((ele l.body x25_7).b).st), .int .i64 (((ele l.body x25_7).b).bk), .int .i64 ((ele l.body x25_7).ar), .int .i64 ((ele l.body x25_7).sp), .int .i64 ((ele l.body x25_7).pl), .int .i64 ((ele l.body x25_7).n)] 59, blk b2 [.int .i64 t.u0, .int .i64 t.u1, .int .i64 t.u2, .int .i64 t.w0, .int .i64 t.w1, .int .i64 t.w2, .int .i64 t.regs] 24, blk b1 [v_l_logs, v_l_body, v_l_outs] 49]) (fun w hw => hw.pick [3, 0, 1, 4, 5, 6] (by decide)) (fun w hw => hw.pick [0, 2, 3, 4, 5] (by decide)) ?_
            refine WD.o 17 rfl (by kernel_rfl) rfl ?_
            obtain ⟨c101, hm102⟩ := ck_some hm99; clear hm99
            refine (EV.appendL (enc := Edg.cells) (xs := v12_8) (ys := [(Edg.mk ((ele x39 x33_8).st) x25_7 ((ele x39 x33_8).bk) x97)]) ((v12_8 ++ [(Edg.mk ((ele x39 x33_8).st) x25_7 ((ele x39 x33_8).bk) x97)])) 2 (by decide) ve50 rfl rfl rfl rfl rfl (Own.blkArr 0 (rows := [(Edg.mk ((ele x39 x33_8).st) x25_7 ((ele x39 x33_8).bk) x97)].map Edg.cells) rfl rfl (rows_len Edg.cells_len)) Edg.cells_len (Edg.cells_one _) rfl c101.1 c101.2 (fun u103 hu104 => ?_))
            refine WD.b (H' := [kn M w.heap.size K0 X42.2, blk b100 [.int .i64 ((ele x39 x33_8).st), .int .i64 x25_7, .int .i64 ((ele x39 x33_8).bk), .int .i64 x97] 61, blk b92 [.int .i64 ((ele x39 x33_8).st), .int .i64 ((ele x39 x33_8).bk)] 57, vec u103 61 4 (List.map Edg.cells (v12_8 ++ [(Edg.mk ((ele x39 x33_8).st) x25_7 ((ele x39 x33_8).bk) x97)])), blk b38 [.int .i64 ((ele l.body x25_7).op), .int .i64 (((ele l.body x25_7).a).st), .int .i64 (((ele l.body x25_7).a).bk), .int .i64 (((ele l.body x25_7).b).st), .int .i64 (((ele l.body x25_7).b).bk), .int .i64 ((ele l.body x25_7).ar), .int .i64 ((ele l.body x25_7).sp), .int .i64 ((ele l.body x25_7).pl), .int .i64 ((ele l.body x25_7).n)] 59, blk b2 [.int .i64 t.u0, .int .i64 t.u1, .int .i64 t.u2, .int .i64 t.w0, .int .i64 t.w1, .int .i64 t.w2, .int .i64 t.regs] 24, blk b1 [v_l_logs, v_l_body, v_l_outs] 49]) (fun w hw => hw.pick [3, 0, 1, 2, 4, 5, 6] (by decide)) (fun w hw => hw.pick [0, 1, 2, 4, 5, 6] (by decide)) ?_
            refine WD.q 18 rfl (by kernel_rfl) rfl rfl rfl (QV.assign rfl rfl) ?_
            refine WD.e (by kernel_rfl) ?_
            refine WQ.block ?_
            refine WQ.then ?_
            refine WC.region ?_
            obtain ⟨c105, hm106⟩ := ck_some hm102; clear hm102
            refine WL.q rfl rfl rfl (QV.add rfl rfl rfl rfl c105) ?_
            refine WL.q rfl rfl rfl (QV.move rfl rfl) ?_
            refine WL.nil ?_
            exact WQ.again3 (v12_8 ++ [(Edg.mk ((ele x39 x33_8).st) x25_7 ((ele x39 x33_8).bk) x97)]) (x33_8 + 1) u103 m82 ⟨up_next hm106 hn85, hu104⟩ (Nat.lt_succ_self _) ⟨rfl, rfl, rfl, rfl, rfl, rfl, rfl, rfl, rfl, rfl, trivial⟩ (fun w hw => hw.pick [2, 3, 4, 5, 6] (by decide))
          · skip
            have hm107 := br_f h86 hm84; clear hm84
            refine WC.exit ?_
            refine WQ.then_exit ?_
            refine WQ.then_exit ?_
            refine WQ.block_exit ?_
            exact WQ.out3 v12_8 x33_8 uv12_8 ⟨up_brk hm107 hn85, hlv12_8⟩ ⟨rfl, rfl, rfl, rfl, rfl, rfl, rfl, rfl, rfl, rfl, trivial⟩ (fun w hw => hw.pick [0, 1, 2, 3, 4] (by decide))
      · skip
        have hm108 := br_f h32 hm30; clear hm30
        refine WC.exit ?_
        refine WQ.then_exit ?_
        refine WQ.then_exit ?_
        refine WQ.block_exit ?_
        exact WQ.out4 v12_7 x25_7 uv12_7 k_7 ⟨up_brk hm108 hn31, hlv12_7, hle_7⟩ ⟨rfl, rfl, rfl, rfl, rfl, rfl, trivial⟩ (fun w hw => hw.pick [0, 1, 2, 3] (by decide))
end Go.Proofs.Ytaimbkndebaaiab
end

section
namespace Go.Proofs.Ytaimbkndebaaiab
open Go.Rd
set_option linter.unusedVariables false
namespace TSched1
theorem ag24 : AggT Try.prog 24 7 := ⟨_, Try.underlying24, rfl, by kernel_rfl⟩
theorem ag49 : AggT Try.prog 49 3 := ⟨_, Try.underlying49, rfl, by kernel_rfl⟩
theorem ag61 : AggT Try.prog 61 4 := ⟨_, Try.underlying61, rfl, by kernel_rfl⟩
theorem ag63 : AggT Try.prog 63 2 := ⟨_, Try.underlying63, rfl, by kernel_rfl⟩
theorem ag90 : AggT Try.prog 90 2 := ⟨_, Try.underlying90, rfl, by kernel_rfl⟩
theorem ar22 : ArrayT Try.prog 22 3 1 := ⟨_, Try.underlying22, by kernel_rfl⟩
theorem ar90 : ArrayT Try.prog 90 2 1 := ⟨_, Try.underlying90, by kernel_rfl⟩
theorem en23 : Go.Rd.Enters Try.prog 23 := ⟨Try.f23, Try.func23, by kernel_rfl, by kernel_rfl⟩
theorem en48 : Go.Rd.Enters Try.prog 48 := ⟨Try.f48, Try.func48, by kernel_rfl, by kernel_rfl⟩
theorem en70 : Go.Rd.Enters Try.prog 70 := ⟨Try.f70, Try.func70, by kernel_rfl, by kernel_rfl⟩
theorem fd24_0 : FieldT Try.prog 24 0 0 := ⟨_, _, 2, Try.underlying24, rfl, rfl, by kernel_rfl⟩
theorem fd49_1 : FieldT Try.prog 49 1 1 := ⟨_, _, 0, Try.underlying49, rfl, rfl, by kernel_rfl⟩
theorem fd59_0 : FieldT Try.prog 59 0 0 := ⟨_, _, 0, Try.underlying59, rfl, rfl, by kernel_rfl⟩
theorem fd61_0 : FieldT Try.prog 61 0 0 := ⟨_, _, 0, Try.underlying61, rfl, rfl, by kernel_rfl⟩
theorem fd61_1 : FieldT Try.prog 61 1 1 := ⟨_, _, 0, Try.underlying61, rfl, rfl, by kernel_rfl⟩
theorem fd61_2 : FieldT Try.prog 61 2 2 := ⟨_, _, 0, Try.underlying61, rfl, rfl, by kernel_rfl⟩
theorem fd61_3 : FieldT Try.prog 61 3 3 := ⟨_, _, 0, Try.underlying61, rfl, rfl, by kernel_rfl⟩
theorem fd63_0 : FieldT Try.prog 63 0 0 := ⟨_, _, 0, Try.underlying63, rfl, rfl, by kernel_rfl⟩
theorem fd63_1 : FieldT Try.prog 63 1 1 := ⟨_, _, 0, Try.underlying63, rfl, rfl, by kernel_rfl⟩
theorem kt90 : KeyT Try.prog 90 kP := KeyT.pair Try.underlying90 Try.underlying3 (by kernel_rfl)
theorem mt88 : MapT Try.prog 88 90 3 := Try.underlying88
theorem pl3 : Plain Try.prog 3 := ⟨_, Try.underlying3, rfl⟩
theorem pl30 : Plain Try.prog 30 := ⟨_, Try.underlying30, rfl⟩
theorem pl47 : Plain Try.prog 47 := ⟨_, Try.underlying47, rfl⟩
theorem sl30 : SliceT Try.prog 30 3 1 := ⟨Try.underlying30, by kernel_rfl⟩
theorem sl47 : SliceT Try.prog 47 59 9 := ⟨Try.underlying47, by kernel_rfl⟩
theorem sl50 : SliceT Try.prog 50 61 4 := ⟨Try.underlying50, by kernel_rfl⟩
theorem sz61 : SizeT Try.prog 61 4 := by unfold SizeT; kernel_rfl
theorem sz90 : SizeT Try.prog 90 2 := by unfold SizeT; kernel_rfl
theorem ze61 : ZeroT Try.prog 61 [.int .i64 0, .int .i64 0, .int .i64 0, .int .i64 0] := by unfold ZeroT; kernel_rfl
theorem ze90 : ZeroT Try.prog 90 [.int .i64 0, .int .i64 0] := by unfold ZeroT; kernel_rfl
theorem zv3i64v : ZVal Try.prog 3 (i64v 0) := by unfold ZVal; kernel_rfl
end TSched1
open TSched1
set_option maxRecDepth 8000 in
theorem sched_fits_w {v_l_logs : Value} {v_l_body : Value} {v_l_outs : Value} {v_p_times : Value} {v_edges : Value} {l : Lp} {t : Tgt} {p : Pln} {edges : List Edg} {r : Bool} (w : World) (hm : sched_fits_m l t p edges = some r) (h_l_logs : Arr w v_l_logs 1 (l.logs.map icell)) (h_l_body : Arr w v_l_body 9 (l.body.map Stm.cells)) (h_l_outs : Arr w v_l_outs 1 (l.outs.map icell)) (h_p_times : Arr w v_p_times 1 (p.times.map icell)) (h_edges : Arr w v_edges 4 (edges.map Edg.cells)) : Calls Try.prog 70 #[.agg #[v_l_logs, v_l_body, v_l_outs], .agg #[.int .i64 t.u0, .int .i64 t.u1, .int .i64 t.u2, .int .i64 t.w0, .int .i64 t.w1, .int .i64 t.w2, .int .i64 t.regs], .agg #[.int .i64 p.pace, v_p_times], v_edges] w (fun e w' => e = .returned (.bool r) ∧ Grow w w') := by
  unfold sched_fits_m at hm
  have hk := Base.rfl (w := w)
  refine calls_of_WC (n := 87) (args := [.agg #[v_l_logs, v_l_body, v_l_outs], .agg #[.int .i64 t.u0, .int .i64 t.u1, .int .i64 t.u2, .int .i64 t.w0, .int .i64 t.w1, .int .i64 t.w2, .int .i64 t.regs], .agg #[.int .i64 p.pace, v_p_times], v_edges]) Try.func70 rfl rfl (Nat.le_of_ble_eq_true rfl) ?_ (Own.startK hk (Own.start w))
  refine WC.seq ?_
  refine WC.region ?_
  refine WL.effect rfl ?_
  refine (EV.boxAgg (by decide) rfl rfl (fun b1 => ?_))
  refine WL.effect rfl ?_
  refine (EV.boxAgg (by decide) rfl rfl (fun b2 => ?_))
  refine WL.effect rfl ?_
  refine (EV.boxAgg (by decide) rfl rfl (fun b3 => ?_))
  refine WL.q rfl rfl rfl (QV.assign rfl rfl) ?_
  refine WL.nil ?_
  refine WQ.then ?_
  refine WC.seq ?_
  refine WC.region ?_
  refine WL.effect rfl ?_
  refine (EV.makeMap (ke := kP) (ve := i64v) (by decide) (fun b4 => ?_))
  refine WL.q rfl rfl rfl (QV.assign rfl rfl) ?_
  refine WL.nil ?_
  refine WQ.then ?_
  refine WC.seq ?_
  refine WC.seq ?_
  refine WC.region ?_
  refine WL.q rfl rfl rfl (QV.fieldAddr fd63_1 rfl rfl) ?_
  refine WL.q rfl rfl rfl (QV.load pl30 rfl rfl (Own.cell 1 rfl rfl)) ?_
  refine WL.q rfl rfl rfl (QV.lenS Try.underlying30 rfl rfl h_p_times.lenMap) ?_
  refine WL.q rfl rfl rfl (QV.move rfl rfl) ?_
  refine WL.nil ?_
  refine WQ.then ?_
  obtain ⟨o5, ho6, hm7⟩ := bd_some hm; clear hm; obtain ⟨n8, ho9⟩ := lp_some ho6
  refine WC.bloop2 (H2 := [blk b3 [.int .i64 p.pace, v_p_times] 63, blk b2 [.int .i64 t.u0, .int .i64 t.u1, .int .i64 t.u2, .int .i64 t.w0, .int .i64 t.w1, .int .i64 t.w2, .int .i64 t.regs] 24, blk b1 [v_l_logs, v_l_body, v_l_outs] 49, kn noM w.heap.size w w]) (τ := [(3, (true, _)), (4, (true, _)), (5, (true, _)), (6, (true, _)), (9, (true, _)), (17, (true, _)), (18, (true, _))]) (fun (m4n_1 : List ((Int × Int) × Int)) (x19_1 : Int) => [(19, (true, .int .i64 x19_1))]) (fun (m4n_1 : List ((Int × Int) × Int)) (x19_1 : Int) => [mapR b4 kP i64v m4n_1]) (fun (m4n_1 : List ((Int × Int) × Int)) (x19_1 : Int) (m : Nat) => iter (sched_fits_L0 l t p) m (m4n_1, x19_1) = some o5) (fun (m4n_1 : List ((Int × Int) × Int)) (x19_1 : Int) => o5 = .go (m4n_1, x19_1)) ([] : List ((Int × Int) × Int)) 0 n8 ho9 ⟨rfl, rfl, rfl, rfl, rfl, rfl, rfl, rfl, trivial⟩ (fun w hw => hw.pick [0, 1, 2, 3, 4] (by decide)) ?_ ?_
  · skip
    rintro m4n_1 x19_1 rfl
    refine WQ.then ?_
    refine WC.seq ?_
    refine WC.seq ?_
    refine WC.region ?_
    refine WL.q rfl rfl rfl (QV.move rfl rfl) ?_
    refine WL.q rfl rfl rfl (QV.lenS Try.underlying50 rfl rfl h_edges.lenMap) ?_
    refine WL.q rfl rfl rfl (QV.move rfl rfl) ?_
    refine WL.nil ?_
    refine WQ.then ?_
    obtain ⟨o10, ho11, hm12⟩ := bd_some hm7; clear hm7; obtain ⟨n13, ho14⟩ := lp_some ho11
    refine WC.bloop1 (H2 := [mapR b4 kP i64v m4n_1, blk b3 [.int .i64 p.pace, v_p_times] 63, blk b2 [.int .i64 t.u0, .int .i64 t.u1, .int .i64 t.u2, .int .i64 t.w0, .int .i64 t.w1, .int .i64 t.w2, .int .i64 t.regs] 24, blk b1 [v_l_logs, v_l_body, v_l_outs] 49, kn noM w.heap.size w w]) (τ := [(6, (true, _)), (58, (true, _)), (59, (true, _))]) (fun (x60_2 : Int) => [(60, (true, .int .i64 x60_2))]) (fun (x60_2 : Int) => []) (fun (x60_2 : Int) (m : Nat) => iter (sched_fits_L2 p edges) m x60_2 = some o10) (fun (x60_2 : Int) => o10 = .go x60_2) 0 n13 ho14 ⟨rfl, rfl, rfl, rfl, trivial⟩ (fun w hw => hw.pick [0, 1, 2, 3, 4] (by decide)) ?_ ?_
    · skip
      rintro x60_2 rfl
      refine WQ.then ?_
      refine WC.seq ?_
      refine WC.region ?_
      refine WL.q rfl rfl rfl (QV.assign rfl rfl) ?_
      refine WL.nil ?_
      refine WQ.then ?_
      refine WC.ret ?_
      obtain rfl := (eq_of_some hm12).symm
      refine WQ.ret1 rfl rfl (fun w hw => ?_)
      exact ⟨rfl, Own.kgrow (fun _ x => x) hw⟩
    · skip
      rintro x60_2 m15 hI16
      obtain ⟨m17, s18, rfl, hm19, hn20⟩ := iter_step hI16; clear hI16; unfold sched_fits_L2 at hm19
      refine WC.seq ?_
      refine WC.region ?_
      refine WL.q rfl rfl rfl (QV.lss rfl rfl rfl rfl) ?_
      refine WL.nil ?_
      refine WQ.then ?_
      refine WC.seq ?_
      refine WC.cond rfl (fun h21 => ?_) (fun h21 => ?_)
      · skip
        have hm22 := br_t h21 hm19; clear hm19
        refine WC.skip ?_
        refine WQ.then ?_
        refine WC.seq ?_
        refine WC.block ?_
        refine WC.seq ?_
        refine WC.region ?_
        obtain ⟨c23, hm24⟩ := ck_some hm22; clear hm22
        obtain ⟨p25, hp26⟩ := h_edges.lenMap.ix (sz := 4) ln_len c23
        refine WL.q rfl rfl rfl (QV.indexSlice sl50 rfl rfl rfl rfl hp26) ?_
        refine WL.q rfl rfl rfl (QV.loadAgg ag61 rfl rfl rfl (fun w hw => ((Own.karr 4 rfl hk h_edges) w hw).ele hp26 c23)) ?_
        refine WL.effect rfl ?_
        refine (EV.alloc (by decide) ze61 (fun b27 => ?_))
        refine WL.effect rfl ?_
        refine (EV.store 0 rfl rfl rfl rfl rfl rfl (vs := [.int .i64 ((ele edges x60_2).fr), .int .i64 ((ele edges x60_2).to), .int .i64 ((ele edges x60_2).bk), .int .i64 ((ele edges x60_2).wt)]) (show Value.cells _ = List.toArray _ from rfl) sz61 (Nat.le_of_ble_eq_true rfl) (one_cons rfl (one_cons rfl (one_cons rfl (one_cons rfl one_nil)))) ?_)
        refine WL.nil ?_
        refine WQ.then ?_
        refine WC.seq ?_
        refine WC.dr (m := 22) (S := Own noM w [kn noM w.heap.size w w, blk b27 [.int .i64 ((ele edges x60_2).fr), .int .i64 ((ele edges x60_2).to), .int .i64 ((ele edges x60_2).bk), .int .i64 ((ele edges x60_2).wt)] 61, mapR b4 kP i64v m4n_1, blk b3 [.int .i64 p.pace, v_p_times] 63, blk b2 [.int .i64 t.u0, .int .i64 t.u1, .int .i64 t.u2, .int .i64 t.w0, .int .i64 t.w1, .int .i64 t.w2, .int .i64 t.regs] 24, blk b1 [v_l_logs, v_l_body, v_l_outs] 49]) (by kernel_rfl) (by kernel_rfl) (fun w hw => hw.pick [5, 0, 1, 2, 3, 4] (by decide)) ?_
        refine WD.q 0 rfl (by kernel_rfl) rfl rfl rfl (QV.fieldAddr fd63_1 rfl rfl) ?_
        refine WD.q 1 rfl (by kernel_rfl) rfl rfl rfl (QV.load pl30 rfl rfl (Own.cell 3 rfl rfl)) ?_
        refine WD.q 2 rfl (by kernel_rfl) rfl rfl rfl (QV.fieldAddr fd61_1 rfl rfl) ?_
        refine WD.q 3 rfl (by kernel_rfl) rfl rfl rfl (QV.load pl3 rfl rfl (Own.cell 1 rfl rfl)) ?_
        obtain ⟨c28, hm29⟩ := ck_some hm24; clear hm24
        obtain ⟨p30, hp31⟩ := h_p_times.lenMap.ix (sz := 1) ln_len c28
        refine WD.q 4 rfl (by kernel_rfl) rfl rfl rfl (QV.indexSlice sl30 rfl rfl rfl rfl hp31) ?_
        refine WD.q 5 rfl (by kernel_rfl) rfl rfl rfl (QV.load pl3 rfl rfl (fun w hw => CellsAt.one 0 (((Own.karr 0 rfl hk h_p_times) w hw).ele hp31 c28) rfl)) ?_
        refine WD.q 6 rfl (by kernel_rfl) rfl rfl rfl (QV.fieldAddr fd61_2 rfl rfl) ?_
        refine WD.q 7 rfl (by kernel_rfl) rfl rfl rfl (QV.load pl3 rfl rfl (Own.cell 1 rfl rfl)) ?_
        refine WD.q 8 rfl (by kernel_rfl) rfl rfl rfl (QV.fieldAddr fd63_0 rfl rfl) ?_
        refine WD.q 9 rfl (by kernel_rfl) rfl rfl rfl (QV.load pl3 rfl rfl (Own.cell 3 rfl rfl)) ?_
        obtain ⟨c32, hm33⟩ := ck_some hm29; clear hm29
        refine WD.q 10 rfl (by kernel_rfl) rfl rfl rfl (QV.mul rfl rfl rfl rfl c32) ?_
        obtain ⟨c34, hm35⟩ := ck_some hm33; clear hm33
        refine WD.q 11 rfl (by kernel_rfl) rfl rfl rfl (QV.add rfl rfl rfl rfl c34) ?_
        refine WD.q 12 rfl (by kernel_rfl) rfl rfl rfl (QV.fieldAddr fd63_1 rfl rfl) ?_
        refine WD.q 13 rfl (by kernel_rfl) rfl rfl rfl (QV.load pl30 rfl rfl (Own.cell 3 rfl rfl)) ?_
        refine WD.q 14 rfl (by kernel_rfl) rfl rfl rfl (QV.fieldAddr fd61_0 rfl rfl) ?_
        refine WD.q 15 rfl (by kernel_rfl) rfl rfl rfl (QV.load pl3 rfl rfl (Own.cell 1 rfl rfl)) ?_
        obtain ⟨c36, hm37⟩ := ck_some hm35; clear hm35
        obtain ⟨p38, hp39⟩ := h_p_times.lenMap.ix (sz := 1) ln_len c36
        refine WD.q 16 rfl (by kernel_rfl) rfl rfl rfl (QV.indexSlice sl30 rfl rfl rfl rfl hp39) ?_
        refine WD.q 17 rfl (by kernel_rfl) rfl rfl rfl (QV.load pl3 rfl rfl (fun w hw => CellsAt.one 0 (((Own.karr 0 rfl hk h_p_times) w hw).ele hp39 c36) rfl)) ?_
        refine WD.q 18 rfl (by kernel_rfl) rfl rfl rfl (QV.fieldAddr fd61_3 rfl rfl) ?_
        refine WD.q 19 rfl (by kernel_rfl) rfl rfl rfl (QV.load pl3 rfl rfl (Own.cell 1 rfl rfl)) ?_
        obtain ⟨c40, hm41⟩ := ck_some hm37; clear hm37
        refine WD.q 20 rfl (by kernel_rfl) rfl rfl rfl (QV.add rfl rfl rfl rfl c40) ?_
        refine WD.q 21 rfl (by kernel_rfl) rfl rfl rfl (QV.lss rfl rfl rfl rfl) ?_
        refine WD.e (by kernel_rfl) ?_
        refine WQ.then ?_
        refine WC.cond rfl (fun h42 => ?_) (fun h42 => ?_)
        · skip
          have hm43 := br_t h42 hm41; clear hm41
          refine WC.seq ?_
          refine WC.region ?_
          refine WL.q rfl rfl rfl (QV.assign rfl rfl) ?_
          refine WL.nil ?_
          refine WQ.then ?_
          refine WC.ret ?_
          refine WQ.block_ret ?_
          refine WQ.then_ret ?_
          refine WQ.then_ret ?_
          refine WQ.block_ret ?_
          refine WQ.then_ret ?_
          refine WQ.then_ret ?_
          obtain rfl := up_ret hm43 hn20
          obtain rfl := (eq_of_some hm12).symm
          refine WQ.ret1 rfl rfl (fun w hw => ?_)
          exact ⟨rfl, Own.kgrow (fun _ x => x) hw⟩
        · skip
          have hm44 := br_f h42 hm41; clear hm41
          refine WC.skip ?_
          refine WQ.block ?_
          refine WQ.then ?_
          refine WC.region ?_
          obtain ⟨c45, hm46⟩ := ck_some hm44; clear hm44
          refine WL.q rfl rfl rfl (QV.add rfl rfl rfl rfl c45) ?_
          refine WL.q rfl rfl rfl (QV.move rfl rfl) ?_
          refine WL.nil ?_
          exact WQ.again1 (x60_2 + 1) m17 (up_next hm46 hn20) (Nat.lt_succ_self _) ⟨rfl, rfl, rfl, rfl, trivial⟩ (fun w hw => hw.pick [1, 2, 3, 4, 5] (by decide))
      · skip
        have hm47 := br_f h21 hm19; clear hm19
        refine WC.exit ?_
        refine WQ.then_exit ?_
        refine WQ.then_exit ?_
        refine WQ.block_exit ?_
        exact WQ.out1 x60_2 (up_brk hm47 hn20) ⟨rfl, rfl, rfl, rfl, trivial⟩ (fun w hw => hw.pick [0, 1, 2, 3, 4] (by decide))
  · skip
    rintro m4n_1 x19_1 m48 hI49
    obtain ⟨m50, s51, rfl, hm52, hn53⟩ := iter_step hI49; clear hI49; unfold sched_fits_L0 at hm52; simp only at hm52
    refine WC.seq ?_
    refine WC.region ?_
    refine WL.q rfl rfl rfl (QV.lss rfl rfl rfl rfl) ?_
    refine WL.nil ?_
    refine WQ.then ?_
    refine WC.seq ?_
    refine WC.cond rfl (fun h54 => ?_) (fun h54 => ?_)
    · skip
      have hm55 := br_t h54 hm52; clear hm52
      refine WC.skip ?_
      refine WQ.then ?_
      refine WC.seq ?_
      refine WC.block ?_
      refine WC.seq ?_
      refine WC.region ?_
      refine WL.q rfl rfl rfl (QV.move rfl rfl) ?_
      obtain ⟨c56, hm57⟩ := ck_some hm55; clear hm55
      obtain ⟨p58, hp59⟩ := h_p_times.lenMap.ix (sz := 1) ln_len c56
      refine WL.q rfl rfl rfl (QV.indexSlice sl30 rfl rfl rfl rfl hp59) ?_
      refine WL.q rfl rfl rfl (QV.load pl3 rfl rfl (fun w hw => CellsAt.one 0 (((Own.karr 4 rfl hk h_p_times) w hw).ele hp59 c56) rfl)) ?_
      refine WL.q rfl rfl rfl (QV.assign rfl rfl) ?_
      refine WL.q rfl rfl rfl (QV.assign rfl rfl) ?_
      refine WL.nil ?_
      refine WQ.then ?_
      refine WC.seq ?_
      refine WC.seq ?_
      refine WC.region ?_
      refine WL.q rfl rfl rfl (QV.move rfl rfl) ?_
      refine WL.q rfl rfl rfl (QV.lss rfl rfl rfl rfl) ?_
      refine WL.q rfl rfl rfl (QV.move rfl rfl) ?_
      refine WL.g rfl rfl (GuardIs.neg rfl rfl) (fun hG => QV.move rfl rfl) ?_
      refine WL.g rfl rfl (GuardIs.neg rfl rfl) (fun hG => QV.gtr rfl hG rfl rfl) ?_
      refine WL.q rfl rfl rfl (QV.pickOr rfl rfl rfl (fun h => notF h)) ?_
      refine WL.nil ?_
      refine WQ.then ?_
      refine WC.cond rfl (fun h60 => ?_) (fun h60 => ?_)
      · skip
        have hm61 := br_t h60 hm57; clear hm57
        refine WC.seq ?_
        refine WC.region ?_
        refine WL.q rfl rfl rfl (QV.assign rfl rfl) ?_
        refine WL.nil ?_
        refine WQ.then ?_
        refine WC.ret ?_
        refine WQ.then_ret ?_
        refine WQ.block_ret ?_
        refine WQ.then_ret ?_
        refine WQ.then_ret ?_
        refine WQ.block_ret ?_
        refine WQ.then_ret ?_
        refine WQ.then_ret ?_
        obtain rfl := up_ret hm61 hn53
        obtain rfl := (eq_of_some hm7).symm
        refine WQ.ret1 rfl rfl (fun w hw => ?_)
        exact ⟨rfl, Own.kgrow (fun _ x => x) hw⟩
      · skip
        have hm62 := br_f h60 hm57; clear hm57
        refine WC.skip ?_
        refine WQ.then ?_
        refine WC.seq ?_
        refine WC.dr (m := 14) (S := Own noM w [kn noM w.heap.size w w, mapR b4 kP i64v m4n_1, blk b3 [.int .i64 p.pace, v_p_times] 63, blk b2 [.int .i64 t.u0, .int .i64 t.u1, .int .i64 t.u2, .int .i64 t.w0, .int .i64 t.w1, .int .i64 t.w2, .int .i64 t.regs] 24, blk b1 [v_l_logs, v_l_body, v_l_outs] 49]) (by kernel_rfl) (by kernel_rfl) (fun w hw => hw.pick [4, 0, 1, 2, 3] (by decide)) ?_
        refine WD.q 0 rfl (by kernel_rfl) rfl rfl rfl (QV.move rfl rfl) ?_
        refine WD.q 1 rfl (by kernel_rfl) rfl rfl rfl (QV.fieldAddr fd63_0 rfl rfl) ?_
        refine WD.q 2 rfl (by kernel_rfl) rfl rfl rfl (QV.load pl3 rfl rfl (Own.cell 2 rfl rfl)) ?_
        obtain ⟨c63, hm64⟩ := ck_some hm62; clear hm62
        refine WD.q 3 rfl (by kernel_rfl) rfl rfl rfl (QV.rem rfl rfl rfl rfl c63) ?_
        refine WD.q 4 rfl (by kernel_rfl) rfl rfl rfl (QV.fieldAddr fd49_1 rfl rfl) ?_
        refine WD.q 5 rfl (by kernel_rfl) rfl rfl rfl (QV.load pl47 rfl rfl (Own.cell 4 rfl rfl)) ?_
        refine WD.q 6 rfl (by kernel_rfl) rfl rfl rfl (QV.move rfl rfl) ?_
        obtain ⟨c65, hm66⟩ := ck_some hm64; clear hm64
        obtain ⟨p67, hp68⟩ := h_l_body.lenMap.ix (sz := 9) ln_len c65
        refine WD.q 7 rfl (by kernel_rfl) rfl rfl rfl (QV.indexSlice sl47 rfl rfl rfl rfl hp68) ?_
        refine WD.q 8 rfl (by kernel_rfl) rfl rfl rfl (QV.fieldAddr fd59_0 rfl rfl) ?_
        refine WD.q 9 rfl (by kernel_rfl) rfl rfl rfl (QV.load pl3 rfl rfl (fun w hw => CellsAt.one 0 (((Own.karr 0 rfl hk h_l_body) w hw).ele hp68 c65) rfl)) ?_
        obtain ⟨x69, hx70, hm71⟩ := bd_some hm66; clear hm66
        refine WD.q 10 rfl (by kernel_rfl) rfl rfl rfl (QV.call en48 (EvAll.cons rfl rfl EvAll.nil) (fun w hw => have h := num_Class_w w hx70 ; h)) ?_
        refine WD.q 11 rfl (by kernel_rfl) rfl rfl rfl (QV.build (ps := [(0, .tmp 33), (1, .tmp 40)]) (cells := [.int .i64 (Int.tmod (ele p.times x19_1) p.pace), .int .i64 x69]) (EvAll.cons rfl rfl (EvAll.cons rfl rfl EvAll.nil)) (by kernel_rfl)) ?_
        refine WD.o 12 rfl (by kernel_rfl) rfl ?_
        refine (EV.alloc (by decide) ze90 (fun b72 => ?_))
        refine WD.b (H' := [kn noM w.heap.size w w, blk b72 [.int .i64 0, .int .i64 0] 90, mapR b4 kP i64v m4n_1, blk b3 [.int .i64 p.pace, v_p_times] 63, blk b2 [.int .i64 t.u0, .int .i64 t.u1, .int .i64 t.u2, .int .i64 t.w0, .int .i64 t.w1, .int .i64 t.w2, .int .i64 t.regs] 24, blk b1 [v_l_logs, v_l_body, v_l_outs] 49]) (fun w hw => hw.pick [5, 0, 1, 2, 3, 4] (by decide)) (fun w hw => hw.pick [0, 2, 3, 4, 5] (by decide)) ?_
        refine WD.l 13 rfl (by kernel_rfl) rfl ?_
        refine (EV.store 0 rfl rfl rfl rfl rfl rfl (vs := [.int .i64 (Int.tmod (ele p.times x19_1) p.pace), .int .i64 x69]) (show Value.cells _ = List.toArray _ from rfl) sz90 (Nat.le_of_ble_eq_true rfl) (one_cons rfl (one_cons rfl one_nil)) ?_)
        refine WQ.then ?_
        refine WC.seq ?_
        refine WC.dr (m := 7) (S := Own noM w [kn noM w.heap.size w w, blk b72 [.int .i64 (Int.tmod (ele p.times x19_1) p.pace), .int .i64 x69] 90, mapW b4 kP i64v 0 m4n_1, blk b3 [.int .i64 p.pace, v_p_times] 63, blk b2 [.int .i64 t.u0, .int .i64 t.u1, .int .i64 t.u2, .int .i64 t.w0, .int .i64 t.w1, .int .i64 t.w2, .int .i64 t.regs] 24, blk b1 [v_l_logs, v_l_body, v_l_outs] 49]) (by kernel_rfl) (by kernel_rfl) (fun w hw => Own.mapWeak 2 0 rfl (hw.pick [5, 0, 1, 2, 3, 4] (by decide))) ?_
        refine WD.q 0 rfl (by kernel_rfl) rfl rfl rfl (QV.move rfl rfl) ?_
        refine WD.q 1 rfl (by kernel_rfl) rfl rfl rfl (QV.loadAgg ag90 rfl rfl rfl (Own.cellsBlk 1 rfl)) ?_
        refine WD.q 2 rfl (by kernel_rfl) rfl rfl rfl (QV.lookupW (k := ((Int.tmod (ele p.times x19_1) p.pace), x69)) 2 0 mt88 kt90 zv3i64v rfl rfl rfl rfl rfl) ?_
        obtain ⟨c73, hm74⟩ := ck_some hm71; clear hm71
        refine WD.q 3 rfl (by kernel_rfl) rfl rfl rfl (QV.add rfl rfl rfl rfl c73) ?_
        refine WD.o 4 rfl (by kernel_rfl) rfl ?_
        refine (EV.mapEntry (by decide) ((Int.tmod (ele p.times x19_1) p.pace), x69) 1 0 mt88 kt90 zv3i64v rfl rfl rfl rfl rfl (fun s75 => ?_))
        refine WD.b (H' := [kn noM w.heap.size w w, blk b72 [.int .i64 (Int.tmod (ele p.times x19_1) p.pace), .int .i64 x69] 90, mapW b4 kP i64v 0 m4n_1, blk b3 [.int .i64 p.pace, v_p_times] 63, blk b2 [.int .i64 t.u0, .int .i64 t.u1, .int .i64 t.u2, .int .i64 t.w0, .int .i64 t.w1, .int .i64 t.w2, .int .i64 t.regs] 24, blk b1 [v_l_logs, v_l_body, v_l_outs] 49]) (fun w hw => Own.midWeak 2 rfl (hw.pick [5, 0, 1, 2, 3, 4] (by decide))) (fun w hw => hw.pick [0, 1, 2, 3, 4, 5] (by decide)) ?_
        refine WD.q 5 rfl (by kernel_rfl) rfl rfl rfl (QV.extract rfl rfl rfl) ?_
        refine WD.l 6 rfl (by kernel_rfl) rfl ?_
        refine (EV.entryStore (ke := kP) (ve := i64v) ((Int.tmod (ele p.times x19_1) p.pace), x69) 1 ((mget m4n_1 ((Int.tmod (ele p.times x19_1) p.pace), x69) 0) + 1) s75 rfl rfl rfl rfl rfl rfl rfl ?_)
        refine WQ.then ?_
        refine WC.seq ?_
        refine WC.dr (m := 9) (S := Own noM w [kn noM w.heap.size w w, blk b72 [.int .i64 (Int.tmod (ele p.times x19_1) p.pace), .int .i64 x69] 90, mapR b4 kP i64v (mput m4n_1 ((Int.tmod (ele p.times x19_1) p.pace), x69) ((mget m4n_1 ((Int.tmod (ele p.times x19_1) p.pace), x69) 0) + 1)), blk b3 [.int .i64 p.pace, v_p_times] 63, blk b2 [.int .i64 t.u0, .int .i64 t.u1, .int .i64 t.u2, .int .i64 t.w0, .int .i64 t.w1, .int .i64 t.w2, .int .i64 t.regs] 24, blk b1 [v_l_logs, v_l_body, v_l_outs] 49]) (by kernel_rfl) (by kernel_rfl) (fun w hw => hw.pick [5, 0, 1, 2, 3, 4] (by decide)) ?_
        refine WD.q 0 rfl (by kernel_rfl) rfl rfl rfl (QV.move rfl rfl) ?_
        refine WD.q 1 rfl (by kernel_rfl) rfl rfl rfl (QV.loadAgg ag90 rfl rfl rfl (Own.cellsBlk 1 rfl)) ?_
        refine WD.q 2 rfl (by kernel_rfl) rfl rfl rfl (QV.lookup (k := ((Int.tmod (ele p.times x19_1) p.pace), x69)) 2 0 mt88 kt90 zv3i64v rfl rfl rfl rfl rfl) ?_
        refine WD.q 3 rfl (by kernel_rfl) rfl rfl rfl (QV.indexArray ar90 rfl rfl rfl rfl (by decide) (by decide)) ?_
        refine WD.q 4 rfl (by kernel_rfl) rfl rfl rfl (QV.load pl3 rfl rfl (Own.cell 1 rfl rfl)) ?_
        refine WD.q 5 rfl (by kernel_rfl) rfl rfl rfl (QV.fieldAddr fd24_0 rfl rfl) ?_
        obtain ⟨c76, hm77⟩ := ck_some hm74; clear hm74
        refine WD.q 6 rfl (by kernel_rfl) rfl rfl rfl (QV.indexArray ar22 rfl rfl rfl rfl c76.1 c76.2) ?_
        refine WD.q 7 rfl (by kernel_rfl) rfl rfl rfl (QV.load pl3 rfl rfl (Own.cellSym 4 rfl (sel3_get (off := 0) (i := x69) c76.1 c76.2 rfl rfl rfl) (addr_sym _ _ _))) ?_
        refine WD.q 8 rfl (by kernel_rfl) rfl rfl rfl (QV.gtr rfl rfl rfl rfl) ?_
        refine WD.e (by kernel_rfl) ?_
        refine WQ.then ?_
        refine WC.cond rfl (fun h78 => ?_) (fun h78 => ?_)
        · skip
          have hm79 := br_t h78 hm77; clear hm77
          refine WC.seq ?_
          refine WC.region ?_
          refine WL.q rfl rfl rfl (QV.assign rfl rfl) ?_
          refine WL.nil ?_
          refine WQ.then ?_
          refine WC.ret ?_
          refine WQ.block_ret ?_
          refine WQ.then_ret ?_
          refine WQ.then_ret ?_
          refine WQ.block_ret ?_
          refine WQ.then_ret ?_
          refine WQ.then_ret ?_
          obtain rfl := up_ret hm79 hn53
          obtain rfl := (eq_of_some hm7).symm
          refine WQ.ret1 rfl rfl (fun w hw => ?_)
          exact ⟨rfl, Own.kgrow (fun _ x => x) hw⟩
        · skip
          have hm80 := br_f h78 hm77; clear hm77
          refine WC.skip ?_
          refine WQ.block ?_
          refine WQ.then ?_
          refine WC.region ?_
          obtain ⟨c81, hm82⟩ := ck_some hm80; clear hm80
          refine WL.q rfl rfl rfl (QV.add rfl rfl rfl rfl c81) ?_
          refine WL.q rfl rfl rfl (QV.move rfl rfl) ?_
          refine WL.nil ?_
          exact WQ.again2 (mput m4n_1 ((Int.tmod (ele p.times x19_1) p.pace), x69) ((mget m4n_1 ((Int.tmod (ele p.times x19_1) p.pace), x69) 0) + 1)) (x19_1 + 1) m50 (up_next hm82 hn53) (Nat.lt_succ_self _) ⟨rfl, rfl, rfl, rfl, rfl, rfl, rfl, rfl, trivial⟩ (fun w hw => hw.pick [1, 2, 3, 4, 5] (by decide))
    · skip
      have hm83 := br_f h54 hm52; clear hm52
      refine WC.exit ?_
      refine WQ.then_exit ?_
      refine WQ.then_exit ?_
      refine WQ.block_exit ?_
      exact WQ.out2 m4n_1 x19_1 (up_brk hm83 hn53) ⟨rfl, rfl, rfl, rfl, rfl, rfl, rfl, rfl, trivial⟩ (fun w hw => hw.pick [0, 1, 2, 3, 4] (by decide))

set_option maxRecDepth 8000 in
theorem sched_Legal_w {v_l_logs : Value} {v_l_body : Value} {v_l_outs : Value} {v_p_times : Value} {l : Lp} {t : Tgt} {p : Pln} {r : Bool} (w : World) (hm : sched_Legal_m l t p = some r) (h_l_logs : Arr w v_l_logs 1 (l.logs.map icell)) (h_l_body : Arr w v_l_body 9 (l.body.map Stm.cells)) (h_l_outs : Arr w v_l_outs 1 (l.outs.map icell)) (h_p_times : Arr w v_p_times 1 (p.times.map icell)) : Calls Try.prog 27 #[.agg #[v_l_logs, v_l_body, v_l_outs], .agg #[.int .i64 t.u0, .int .i64 t.u1, .int .i64 t.u2, .int .i64 t.w0, .int .i64 t.w1, .int .i64 t.w2, .int .i64 t.regs], .agg #[.int .i64 p.pace, v_p_times]] w (fun e w' => e = .returned (.bool r) ∧ Grow w w') := by
  unfold sched_Legal_m at hm
  have hk := Base.rfl (w := w)
  refine calls_of_WC (n := 43) (args := [.agg #[v_l_logs, v_l_body, v_l_outs], .agg #[.int .i64 t.u0, .int .i64 t.u1, .int .i64 t.u2, .int .i64 t.w0, .int .i64 t.w1, .int .i64 t.w2, .int .i64 t.regs], .agg #[.int .i64 p.pace, v_p_times]]) Try.func27 rfl rfl (Nat.le_of_ble_eq_true rfl) ?_ (Own.startK hk (Own.start w))
  refine WC.seq ?_
  refine WC.region ?_
  refine WL.effect rfl ?_
  refine (EV.boxAgg (by decide) rfl rfl (fun b1 => ?_))
  refine WL.effect rfl ?_
  refine (EV.boxAgg (by decide) rfl rfl (fun b2 => ?_))
  refine WL.effect rfl ?_
  refine (EV.boxAgg (by decide) rfl rfl (fun b3 => ?_))
  refine WL.q rfl rfl rfl (QV.assign rfl rfl) ?_
  refine WL.nil ?_
  refine WQ.then ?_
  refine WC.seq ?_
  refine WC.region ?_
  refine WL.q rfl rfl rfl (QV.loadAgg ag49 rfl rfl rfl (Own.cellsBlk 2 rfl)) ?_
  refine WL.q rfl rfl rfl (QV.loadAgg ag24 rfl rfl rfl (Own.cellsBlk 1 rfl)) ?_
  refine WL.effect rfl ?_
  obtain ⟨x4, hx5, hm6⟩ := bd_some hm; clear hm
  refine EV.of (C' := Own noM w [kn noM w.heap.size w w, blk b3 [.int .i64 p.pace, v_p_times] 63, blk b2 [.int .i64 t.u0, .int .i64 t.u1, .int .i64 t.u2, .int .i64 t.w0, .int .i64 t.w1, .int .i64 t.w2, .int .i64 t.regs] 24, blk b1 [v_l_logs, v_l_body, v_l_outs] 49]) (fun w hw => hw.pick [3, 0, 1, 2] (by decide)) ?_
  refine (EV.callR (X := Value × World) (R := []) (fun X => .tuple #[X.1, .int .i64 x4.2]) (fun X => []) (fun X => X.2) (fun X => Arr X.2 X.1 4 (x4.1.map Edg.cells)) hk (fun _ h => by cases h; decide) en23 (EvAll.cons rfl rfl (EvAll.cons rfl rfl EvAll.nil)) (fun M w h1 h2 => have h := dep_Edges_w hx5 h_l_logs h_l_body h_l_outs M w h1 h2; h) (fun X7 hF7 hle7 => ?_))
  refine WL.q rfl rfl rfl (QV.move rfl rfl) ?_
  refine WL.q rfl rfl rfl (QV.extract rfl rfl rfl) ?_
  refine WL.q rfl rfl rfl (QV.extract rfl rfl rfl) ?_
  refine WL.q rfl rfl rfl (QV.assign rfl rfl) ?_
  refine WL.q rfl rfl rfl (QV.assign rfl rfl) ?_
  refine WL.nil ?_
  refine WQ.then ?_
  refine WC.seq ?_
  refine WC.region ?_
  refine WL.q rfl rfl rfl (QV.move rfl rfl) ?_
  refine WL.q rfl rfl rfl (QV.eql rfl rfl rfl rfl) ?_
  refine WL.q rfl rfl rfl (QV.move rfl rfl) ?_
  refine WL.g rfl rfl (GuardIs.pos rfl rfl) (fun hG => QV.fieldAddr fd63_0 rfl rfl) ?_
  refine WL.g rfl rfl (GuardIs.pos rfl rfl) (fun hG => QV.load pl3 rfl hG (Own.cell 1 rfl rfl)) ?_
  refine WL.g rfl rfl (GuardIs.pos rfl rfl) (fun hG => QV.geq rfl hG rfl rfl) ?_
  refine WL.q rfl rfl rfl (QV.pickAnd rfl rfl rfl (fun h => h)) ?_
  refine WL.q rfl rfl rfl (QV.move rfl rfl) ?_
  refine WL.g rfl rfl (GuardIs.pos rfl rfl) (fun hG => QV.fieldAddr fd63_0 rfl rfl) ?_
  refine WL.g rfl rfl (GuardIs.pos rfl rfl) (fun hG => QV.load pl3 rfl hG (Own.cell 1 rfl rfl)) ?_
  refine WL.g rfl rfl (GuardIs.pos rfl rfl) (fun hG => QV.leq rfl hG rfl rfl) ?_
  refine WL.q rfl rfl rfl (QV.pickAnd rfl rfl rfl (fun h => h)) ?_
  refine WL.q rfl rfl rfl (QV.move rfl rfl) ?_
  refine WL.g rfl rfl (GuardIs.pos rfl rfl) (fun hG => QV.fieldAddr fd63_1 rfl rfl) ?_
  refine WL.g rfl rfl (GuardIs.pos rfl rfl) (fun hG => QV.load pl30 rfl hG (Own.cell 1 rfl rfl)) ?_
  refine WL.g rfl rfl (GuardIs.pos rfl rfl) (fun hG => QV.lenS Try.underlying30 rfl hG (h_p_times.le hle7).lenMap) ?_
  refine WL.g rfl rfl (GuardIs.pos rfl rfl) (fun hG => QV.fieldAddr fd49_1 rfl rfl) ?_
  refine WL.g rfl rfl (GuardIs.pos rfl rfl) (fun hG => QV.load pl47 rfl hG (Own.cell 3 rfl rfl)) ?_
  refine WL.g rfl rfl (GuardIs.pos rfl rfl) (fun hG => QV.lenS Try.underlying47 rfl hG (h_l_body.le hle7).lenMap) ?_
  refine WL.g rfl rfl (GuardIs.pos rfl rfl) (fun hG => QV.eql rfl hG rfl hG) ?_
  refine WL.q rfl rfl rfl (QV.pickAnd rfl rfl rfl (fun h => h)) ?_
  refine WL.q rfl rfl rfl (QV.move rfl rfl) ?_
  refine WL.g rfl rfl (GuardIs.pos rfl rfl) (fun hG => QV.loadAgg ag49 rfl rfl rfl (Own.cellsBlk 3 rfl)) ?_
  refine WL.g rfl rfl (GuardIs.pos rfl rfl) (fun hG => QV.loadAgg ag24 rfl rfl rfl (Own.cellsBlk 2 rfl)) ?_
  refine WL.g rfl rfl (GuardIs.pos rfl rfl) (fun hG => QV.loadAgg ag63 rfl rfl rfl (Own.cellsBlk 1 rfl)) ?_
  refine WL.g rfl rfl (GuardIs.pos rfl rfl) (fun hG => QV.move rfl rfl) ?_
  obtain ⟨x8, hx9, hm10⟩ := bdG_some hm6; clear hm6
  refine WL.g rfl rfl (GuardIs.pos rfl rfl) (fun hG => QV.call en70 (EvAll.cons rfl hG (EvAll.cons rfl hG (EvAll.cons rfl hG (EvAll.cons rfl hG EvAll.nil)))) (fun w hw => have h := sched_fits_w w (hx9 hG) ((Own.karr 0 rfl hk (h_l_logs.le hle7)) w hw) ((Own.karr 0 rfl hk (h_l_body.le hle7)) w hw) ((Own.karr 0 rfl hk (h_l_outs.le hle7)) w hw) ((Own.karr 0 rfl hk (h_p_times.le hle7)) w hw) ((Own.karr 0 rfl hk hF7) w hw); h)) ?_
  refine WL.q rfl rfl rfl (QV.pickAnd rfl rfl rfl (fun h => h)) ?_
  refine WL.q rfl rfl rfl (QV.assign rfl rfl) ?_
  refine WL.nil ?_
  refine WQ.then ?_
  refine WC.ret ?_
  obtain rfl := (eq_of_some hm10).symm
  refine WQ.ret1 rfl rfl (fun w hw => ?_)
  exact ⟨rfl, Own.kgrow (fun _ x => x) hw⟩
end Go.Proofs.Ytaimbkndebaaiab
end

section
namespace Go.Proofs.Ytaimbkndebaaiab
open Go.Rd
set_option linter.unusedVariables false
namespace TEmit
theorem ag24 : AggT Try.prog 24 7 := ⟨_, Try.underlying24, rfl, by kernel_rfl⟩
theorem ag27 : AggT Try.prog 27 3 := ⟨_, Try.underlying27, rfl, by kernel_rfl⟩
theorem ag45 : AggT Try.prog 45 10 := ⟨_, Try.underlying45, rfl, by kernel_rfl⟩
theorem ag49 : AggT Try.prog 49 3 := ⟨_, Try.underlying49, rfl, by kernel_rfl⟩
theorem ag57 : AggT Try.prog 57 2 := ⟨_, Try.underlying57, rfl, by kernel_rfl⟩
theorem ag59 : AggT Try.prog 59 9 := ⟨_, Try.underlying59, rfl, by kernel_rfl⟩
theorem ag63 : AggT Try.prog 63 2 := ⟨_, Try.underlying63, rfl, by kernel_rfl⟩
theorem en27 : Go.Rd.Enters Try.prog 27 := ⟨Try.f27, Try.func27, by kernel_rfl, by kernel_rfl⟩
theorem en62 : Go.Rd.Enters Try.prog 62 := ⟨Try.f62, Try.func62, by kernel_rfl, by kernel_rfl⟩
theorem en73 : Go.Rd.Enters Try.prog 73 := ⟨Try.f73, Try.func73, by kernel_rfl, by kernel_rfl⟩
theorem fd24_2 : FieldT Try.prog 24 2 6 := ⟨_, _, 0, Try.underlying24, rfl, rfl, by kernel_rfl⟩
theorem fd27_1 : FieldT Try.prog 27 1 1 := ⟨_, _, 0, Try.underlying27, rfl, rfl, by kernel_rfl⟩
theorem fd27_2 : FieldT Try.prog 27 2 2 := ⟨_, _, 0, Try.underlying27, rfl, rfl, by kernel_rfl⟩
theorem fd45_1 : FieldT Try.prog 45 1 1 := ⟨_, _, 0, Try.underlying45, rfl, rfl, by kernel_rfl⟩
theorem fd45_4 : FieldT Try.prog 45 4 4 := ⟨_, _, 0, Try.underlying45, rfl, rfl, by kernel_rfl⟩
theorem fd45_5 : FieldT Try.prog 45 5 5 := ⟨_, _, 0, Try.underlying45, rfl, rfl, by kernel_rfl⟩
theorem fd49_1 : FieldT Try.prog 49 1 1 := ⟨_, _, 0, Try.underlying49, rfl, rfl, by kernel_rfl⟩
theorem fd57_0 : FieldT Try.prog 57 0 0 := ⟨_, _, 0, Try.underlying57, rfl, rfl, by kernel_rfl⟩
theorem fd57_1 : FieldT Try.prog 57 1 1 := ⟨_, _, 0, Try.underlying57, rfl, rfl, by kernel_rfl⟩
theorem fd59_0 : FieldT Try.prog 59 0 0 := ⟨_, _, 0, Try.underlying59, rfl, rfl, by kernel_rfl⟩
theorem fd59_3 : FieldT Try.prog 59 3 5 := ⟨_, _, 0, Try.underlying59, rfl, rfl, by kernel_rfl⟩
theorem fd59_4 : FieldT Try.prog 59 4 6 := ⟨_, _, 0, Try.underlying59, rfl, rfl, by kernel_rfl⟩
theorem fd59_5 : FieldT Try.prog 59 5 7 := ⟨_, _, 0, Try.underlying59, rfl, rfl, by kernel_rfl⟩
theorem fd59_6 : FieldT Try.prog 59 6 8 := ⟨_, _, 0, Try.underlying59, rfl, rfl, by kernel_rfl⟩
theorem fd63_0 : FieldT Try.prog 63 0 0 := ⟨_, _, 0, Try.underlying63, rfl, rfl, by kernel_rfl⟩
theorem fd63_1 : FieldT Try.prog 63 1 1 := ⟨_, _, 0, Try.underlying63, rfl, rfl, by kernel_rfl⟩
theorem pl2 : Plain Try.prog 2 := ⟨_, Try.underlying2, rfl⟩
theorem pl25 : Plain Try.prog 25 := ⟨_, Try.underlying25, rfl⟩
theorem pl3 : Plain Try.prog 3 := ⟨_, Try.underlying3, rfl⟩
theorem pl30 : Plain Try.prog 30 := ⟨_, Try.underlying30, rfl⟩
theorem pl47 : Plain Try.prog 47 := ⟨_, Try.underlying47, rfl⟩
theorem sl106 : SliceT Try.prog 106 57 2 := ⟨Try.underlying106, by kernel_rfl⟩
theorem sl30 : SliceT Try.prog 30 3 1 := ⟨Try.underlying30, by kernel_rfl⟩
theorem sl47 : SliceT Try.prog 47 59 9 := ⟨Try.underlying47, by kernel_rfl⟩
theorem sz25 : SizeT Try.prog 25 1 := by unfold SizeT; kernel_rfl
theorem sz27 : SizeT Try.prog 27 3 := by unfold SizeT; kernel_rfl
theorem sz3 : SizeT Try.prog 3 1 := by unfold SizeT; kernel_rfl
theorem sz45 : SizeT Try.prog 45 10 := by unfold SizeT; kernel_rfl
theorem sz57 : SizeT Try.prog 57 2 := by unfold SizeT; kernel_rfl
theorem sz59 : SizeT Try.prog 59 9 := by unfold SizeT; kernel_rfl
theorem sz_25 : SliceZ Try.prog 25 45 10 [.int .i64 0, .int .i64 0, .int .i64 0, .int .i64 0, .int .i64 0, .int .i64 0, .int .i64 0, .int .i64 0, .int .i64 0, .int .i64 0] := ⟨Try.underlying25, by kernel_rfl⟩
theorem ve25 : VecT Try.prog 25 45 10 80 := ⟨Try.underlying25, by kernel_rfl, by decide⟩
theorem ze27 : ZeroT Try.prog 27 [.int .i64 0, .int .i64 0, .slice none 0 0] := by unfold ZeroT; kernel_rfl
theorem ze45 : ZeroT Try.prog 45 [.int .i64 0, .int .i64 0, .int .i64 0, .int .i64 0, .int .i64 0, .int .i64 0, .int .i64 0, .int .i64 0, .int .i64 0, .int .i64 0] := by unfold ZeroT; kernel_rfl
theorem ze57 : ZeroT Try.prog 57 [.int .i64 0, .int .i64 0] := by unfold ZeroT; kernel_rfl
theorem ze59 : ZeroT Try.prog 59 [.int .i64 0, .int .i64 0, .int .i64 0, .int .i64 0, .int .i64 0, .int .i64 0, .int .i64 0, .int .i64 0, .int .i64 0] := by unfold ZeroT; kernel_rfl
end TEmit
open TEmit
set_option maxRecDepth 8000 in
theorem emit_Rest_w {a : Int} {b : Int} {r : Int} (w : World) (hm : emit_Rest_m a b = some r)  : Calls Try.prog 73 #[.int .i64 a, .int .i64 b] w (fun e w' => e = .returned (.int .i64 r) ∧ Grow w w') := by
  unfold emit_Rest_m at hm
  have hk := Base.rfl (w := w)
  refine calls_of_WC (n := 12) (args := [.int .i64 a, .int .i64 b]) Try.func73 rfl rfl (Nat.le_of_ble_eq_true rfl) ?_ (Own.startK hk (Own.start w))
  refine WC.seq ?_
  refine WC.region ?_
  refine WL.q rfl rfl rfl (QV.assign rfl rfl) ?_
  refine WL.nil ?_
  refine WQ.then ?_
  refine WC.seq ?_
  refine WC.region ?_
  refine WL.q rfl rfl rfl (QV.move rfl rfl) ?_
  refine WL.q rfl rfl rfl (QV.move rfl rfl) ?_
  obtain ⟨c1, hm2⟩ := ck_some hm; clear hm
  refine WL.q rfl rfl rfl (QV.rem rfl rfl rfl rfl c1) ?_
  refine WL.q rfl rfl rfl (QV.move rfl rfl) ?_
  obtain ⟨c3, hm4⟩ := ck_some hm2; clear hm2
  refine WL.q rfl rfl rfl (QV.add rfl rfl rfl rfl c3) ?_
  refine WL.q rfl rfl rfl (QV.move rfl rfl) ?_
  obtain ⟨c5, hm6⟩ := ck_some hm4; clear hm4
  refine WL.q rfl rfl rfl (QV.rem rfl rfl rfl rfl c5) ?_
  refine WL.q rfl rfl rfl (QV.assign rfl rfl) ?_
  refine WL.nil ?_
  refine WQ.then ?_
  refine WC.ret ?_
  obtain rfl := (eq_of_some hm6).symm
  refine WQ.ret1 rfl rfl (fun w hw => ?_)
  exact ⟨rfl, Own.kgrow (fun _ x => x) hw⟩

end Go.Proofs.Ytaimbkndebaaiab
end

section
namespace Go.Proofs.Ytaimbkndebaaiab
open Go.Rd
set_option linter.unusedVariables false
namespace TRegs
theorem ag24 : AggT Try.prog 24 7 := ⟨_, Try.underlying24, rfl, by kernel_rfl⟩
theorem ag49 : AggT Try.prog 49 3 := ⟨_, Try.underlying49, rfl, by kernel_rfl⟩
theorem ag59 : AggT Try.prog 59 9 := ⟨_, Try.underlying59, rfl, by kernel_rfl⟩
theorem ag63 : AggT Try.prog 63 2 := ⟨_, Try.underlying63, rfl, by kernel_rfl⟩
theorem en112 : Go.Rd.Enters Try.prog 112 := ⟨Try.f112, Try.func112, by kernel_rfl, by kernel_rfl⟩
theorem en115 : Go.Rd.Enters Try.prog 115 := ⟨Try.f115, Try.func115, by kernel_rfl, by kernel_rfl⟩
theorem en116 : Go.Rd.Enters Try.prog 116 := ⟨Try.f116, Try.func116, by kernel_rfl, by kernel_rfl⟩
theorem en27 : Go.Rd.Enters Try.prog 27 := ⟨Try.f27, Try.func27, by kernel_rfl, by kernel_rfl⟩
theorem en63 : Go.Rd.Enters Try.prog 63 := ⟨Try.f63, Try.func63, by kernel_rfl, by kernel_rfl⟩
theorem en73 : Go.Rd.Enters Try.prog 73 := ⟨Try.f73, Try.func73, by kernel_rfl, by kernel_rfl⟩
theorem en79 : Go.Rd.Enters Try.prog 79 := ⟨Try.f79, Try.func79, by kernel_rfl, by kernel_rfl⟩
theorem en80 : Go.Rd.Enters Try.prog 80 := ⟨Try.f80, Try.func80, by kernel_rfl, by kernel_rfl⟩
theorem en81 : Go.Rd.Enters Try.prog 81 := ⟨Try.f81, Try.func81, by kernel_rfl, by kernel_rfl⟩
theorem en82 : Go.Rd.Enters Try.prog 82 := ⟨Try.f82, Try.func82, by kernel_rfl, by kernel_rfl⟩
theorem fd159_0 : FieldT Try.prog 159 0 0 := ⟨_, _, 2, Try.underlying159, rfl, rfl, by kernel_rfl⟩
theorem fd159_1 : FieldT Try.prog 159 1 3 := ⟨_, _, 0, Try.underlying159, rfl, rfl, by kernel_rfl⟩
theorem fd159_2 : FieldT Try.prog 159 2 4 := ⟨_, _, 0, Try.underlying159, rfl, rfl, by kernel_rfl⟩
theorem fd159_3 : FieldT Try.prog 159 3 5 := ⟨_, _, 0, Try.underlying159, rfl, rfl, by kernel_rfl⟩
theorem fd159_4 : FieldT Try.prog 159 4 6 := ⟨_, _, 0, Try.underlying159, rfl, rfl, by kernel_rfl⟩
theorem fd159_5 : FieldT Try.prog 159 5 7 := ⟨_, _, 0, Try.underlying159, rfl, rfl, by kernel_rfl⟩
theorem fd24_2 : FieldT Try.prog 24 2 6 := ⟨_, _, 0, Try.underlying24, rfl, rfl, by kernel_rfl⟩
theorem fd49_1 : FieldT Try.prog 49 1 1 := ⟨_, _, 0, Try.underlying49, rfl, rfl, by kernel_rfl⟩
theorem fd59_0 : FieldT Try.prog 59 0 0 := ⟨_, _, 0, Try.underlying59, rfl, rfl, by kernel_rfl⟩
theorem fd63_0 : FieldT Try.prog 63 0 0 := ⟨_, _, 0, Try.underlying63, rfl, rfl, by kernel_rfl⟩
theorem fd63_1 : FieldT Try.prog 63 1 1 := ⟨_, _, 0, Try.underlying63, rfl, rfl, by kernel_rfl⟩
theorem pl3 : Plain Try.prog 3 := ⟨_, Try.underlying3, rfl⟩
theorem pl30 : Plain Try.prog 30 := ⟨_, Try.underlying30, rfl⟩
theorem pl47 : Plain Try.prog 47 := ⟨_, Try.underlying47, rfl⟩
theorem sl30 : SliceT Try.prog 30 3 1 := ⟨Try.underlying30, by kernel_rfl⟩
theorem sl47 : SliceT Try.prog 47 59 9 := ⟨Try.underlying47, by kernel_rfl⟩
theorem sz3 : SizeT Try.prog 3 1 := by unfold SizeT; kernel_rfl
theorem sz30 : SizeT Try.prog 30 1 := by unfold SizeT; kernel_rfl
theorem sz59 : SizeT Try.prog 59 9 := by unfold SizeT; kernel_rfl
theorem sz_30 : SliceZ Try.prog 30 3 1 [.int .i64 0] := ⟨Try.underlying30, by kernel_rfl⟩
theorem ve30 : VecT Try.prog 30 3 1 8 := ⟨Try.underlying30, by kernel_rfl, by decide⟩
theorem ze3 : ZeroT Try.prog 3 [.int .i64 0] := by unfold ZeroT; kernel_rfl
theorem ze59 : ZeroT Try.prog 59 [.int .i64 0, .int .i64 0, .int .i64 0, .int .i64 0, .int .i64 0, .int .i64 0, .int .i64 0, .int .i64 0, .int .i64 0] := by unfold ZeroT; kernel_rfl
end TRegs
open TRegs
set_option maxRecDepth 8000 in
theorem regs_layout_w {v_l_logs : Value} {v_l_body : Value} {v_l_outs : Value} {v_p_times : Value} {l : Lp} {t : Tgt} {p : Pln} {r : (List Int × List Stm × List Int × Int × Int × List Int × List Int × List Int)} {K0 : World} (hm : regs_layout_m l t p = some r) (h_l_logs : Arr K0 v_l_logs 1 (l.logs.map icell)) (h_l_body : Arr K0 v_l_body 9 (l.body.map Stm.cells)) (h_l_outs : Arr K0 v_l_outs 1 (l.outs.map icell)) (h_p_times : Arr K0 v_p_times 1 (p.times.map icell)) (M : Nat → Prop) (w : World) (hk : Base M K0 w) (hw0 : Own M w [] w) : Calls Try.prog 79 #[.agg #[v_l_logs, v_l_body, v_l_outs], .agg #[.int .i64 t.u0, .int .i64 t.u1, .int .i64 t.u2, .int .i64 t.w0, .int .i64 t.w1, .int .i64 t.w2, .int .i64 t.regs], .agg #[.int .i64 p.pace, v_p_times]] w (fun e w' => ∃ X : Nat × Value × Value × Value × Value × Value × Value × World, e = .returned (.pointer (some (⟨X.1, 0, none⟩))) ∧ Own M w (kn M w.heap.size K0 X.2.2.2.2.2.2.2 :: [blk X.1 [X.2.1, X.2.2.1, X.2.2.2.1, .int .i64 r.2.2.2.1, .int .i64 r.2.2.2.2.1, X.2.2.2.2.1, X.2.2.2.2.2.1, X.2.2.2.2.2.2.1] 159, vec X.2.2.2.2.2.2.1 3 1 (List.map icell r.2.2.2.2.2.2.2)]) w' ∧ Arr X.2.2.2.2.2.2.2 X.2.1 1 (r.1.map icell) ∧ Arr X.2.2.2.2.2.2.2 X.2.2.1 9 (r.2.1.map Stm.cells) ∧ Arr X.2.2.2.2.2.2.2 X.2.2.2.1 1 (r.2.2.1.map icell) ∧ Arr X.2.2.2.2.2.2.2 X.2.2.2.2.1 1 (r.2.2.2.2.2.1.map icell) ∧ Arr X.2.2.2.2.2.2.2 X.2.2.2.2.2.1 1 (r.2.2.2.2.2.2.1.map icell) ∧ SliceLen X.2.2.2.2.2.2.1 (r.2.2.2.2.2.2.2).length) := by
  unfold regs_layout_m at hm
  refine calls_of_WC (n := 52) (args := [.agg #[v_l_logs, v_l_body, v_l_outs], .agg #[.int .i64 t.u0, .int .i64 t.u1, .int .i64 t.u2, .int .i64 t.w0, .int .i64 t.w1, .int .i64 t.w2, .int .i64 t.regs], .agg #[.int .i64 p.pace, v_p_times]]) Try.func79 rfl rfl (Nat.le_of_ble_eq_true rfl) ?_ (Own.startK hk hw0)
  refine WC.seq ?_
  refine WC.region ?_
  refine WL.effect rfl ?_
  refine (EV.boxAgg (by decide) rfl rfl (fun b1 => ?_))
  refine WL.effect rfl ?_
  refine (EV.boxAgg (by decide) rfl rfl (fun b2 => ?_))
  refine WL.effect rfl ?_
  refine (EV.boxAgg (by decide) rfl rfl (fun b3 => ?_))
  refine WL.q rfl rfl rfl (QV.assign rfl rfl) ?_
  refine WL.nil ?_
  refine WQ.then ?_
  refine WC.seq ?_
  refine WC.dr (m := 14) (S := Own M w [kn M w.heap.size K0 K0, blk b3 [.int .i64 p.pace, v_p_times] 63, blk b2 [.int .i64 t.u0, .int .i64 t.u1, .int .i64 t.u2, .int .i64 t.w0, .int .i64 t.w1, .int .i64 t.w2, .int .i64 t.regs] 24, blk b1 [v_l_logs, v_l_body, v_l_outs] 49]) (by kernel_rfl) (by kernel_rfl) (fun w hw => hw.pick [3, 0, 1, 2] (by decide)) ?_
  refine WD.q 0 rfl (by kernel_rfl) rfl rfl rfl (QV.loadAgg ag49 rfl rfl rfl (Own.cellsBlk 3 rfl)) ?_
  refine WD.q 1 rfl (by kernel_rfl) rfl rfl rfl (QV.fieldAddr fd63_0 rfl rfl) ?_
  refine WD.q 2 rfl (by kernel_rfl) rfl rfl rfl (QV.load pl3 rfl rfl (Own.cell 1 rfl rfl)) ?_
  refine WD.q 3 rfl (by kernel_rfl) rfl rfl rfl (QV.fieldAddr fd24_2 rfl rfl) ?_
  refine WD.q 4 rfl (by kernel_rfl) rfl rfl rfl (QV.load pl3 rfl rfl (Own.cell 2 rfl rfl)) ?_
  refine WD.q 5 rfl (by kernel_rfl) rfl rfl rfl (QV.fieldAddr fd63_1 rfl rfl) ?_
  refine WD.q 6 rfl (by kernel_rfl) rfl rfl rfl (QV.load pl30 rfl rfl (Own.cell 1 rfl rfl)) ?_
  refine WD.q 7 rfl (by kernel_rfl) rfl rfl rfl (QV.fieldAddr fd49_1 rfl rfl) ?_
  refine WD.q 8 rfl (by kernel_rfl) rfl rfl rfl (QV.load pl47 rfl rfl (Own.cell 3 rfl rfl)) ?_
  refine WD.q 9 rfl (by kernel_rfl) rfl rfl rfl (QV.lenS Try.underlying47 rfl rfl h_l_body.lenMap) ?_
  refine WD.o 10 rfl (by kernel_rfl) rfl ?_
  obtain ⟨c4, hm5⟩ := ck_some hm; clear hm
  obtain ⟨c6, hm7⟩ := ck_some hm5; clear hm5
  refine (EV.makeSlice (enc := icell) (0 : Int) (by decide) ve30 ze3 rfl rfl c4 rfl c6 (fun u8 hu9 => ?_))
  refine WD.b (H' := [kn M w.heap.size K0 K0, vec u8 3 1 (List.map icell (List.replicate (ln l.body).toNat (0 : Int))), blk b3 [.int .i64 p.pace, v_p_times] 63, blk b2 [.int .i64 t.u0, .int .i64 t.u1, .int .i64 t.u2, .int .i64 t.w0, .int .i64 t.w1, .int .i64 t.w2, .int .i64 t.regs] 24, blk b1 [v_l_logs, v_l_body, v_l_outs] 49]) (fun w hw => hw.pick [4, 0, 1, 2, 3] (by decide)) (fun w hw => hw.pick [0, 2, 3, 4] (by decide)) ?_
  refine WD.q 11 rfl (by kernel_rfl) rfl rfl rfl (QV.buildS (ps := [(0, .tmp 10), (1, .tmp 12), (2, .tmp 14), (3, .tmp 16), (5, .tmp 20)]) (cells := [v_l_logs, v_l_body, v_l_outs, .int .i64 p.pace, .int .i64 t.regs, v_p_times, .slice none 0 0, u8]) (css := [[v_l_logs, v_l_body, v_l_outs], [.int .i64 p.pace], [.int .i64 t.regs], [v_p_times], [u8]]) (EvAll.cons rfl rfl (EvAll.cons rfl rfl (EvAll.cons rfl rfl (EvAll.cons rfl rfl (EvAll.cons rfl rfl EvAll.nil))))) (CellsAll.cons rfl (CellsAll.cons rfl (CellsAll.cons rfl (CellsAll.cons (SliceLen.cells h_p_times.lenMap) (CellsAll.cons (SliceLen.cells hu9) CellsAll.nil))))) (by kernel_rfl)) ?_
  refine WD.o 12 rfl (by kernel_rfl) rfl ?_
  refine (EV.boxAgg (by decide) rfl rfl (fun b11 => ?_))
  refine WD.b (H' := [kn M w.heap.size K0 K0, blk b11 [v_l_logs, v_l_body, v_l_outs, .int .i64 p.pace, .int .i64 t.regs, v_p_times, .slice none 0 0, u8] 159, vec u8 3 1 (List.map icell (List.replicate (ln l.body).toNat (0 : Int))), blk b3 [.int .i64 p.pace, v_p_times] 63, blk b2 [.int .i64 t.u0, .int .i64 t.u1, .int .i64 t.u2, .int .i64 t.w0, .int .i64 t.w1, .int .i64 t.w2, .int .i64 t.regs] 24, blk b1 [v_l_logs, v_l_body, v_l_outs] 49]) (fun w hw => hw.pick [5, 0, 1, 2, 3, 4] (by decide)) (fun w hw => hw.pick [0, 2, 3, 4, 5] (by decide)) ?_
  refine WD.q 13 rfl (by kernel_rfl) rfl rfl rfl (QV.assign rfl rfl) ?_
  refine WD.e (by kernel_rfl) ?_
  refine WQ.then ?_
  refine WC.seq ?_
  refine WC.seq ?_
  refine WC.region ?_
  refine WL.q rfl rfl rfl (QV.fieldAddr fd49_1 rfl rfl) ?_
  refine WL.q rfl rfl rfl (QV.load pl47 rfl rfl (Own.cell 4 rfl rfl)) ?_
  refine WL.q rfl rfl rfl (QV.lenS Try.underlying47 rfl rfl h_l_body.lenMap) ?_
  refine WL.q rfl rfl rfl (QV.move rfl rfl) ?_
  refine WL.nil ?_
  refine WQ.then ?_
  refine WK.of (fun w hw => hw.vecNil (E := 3) (sz := 1) (enc := icell)) ?_
  obtain ⟨o13, ho14, hm15⟩ := bd_some hm7; clear hm7; obtain ⟨n16, ho17⟩ := lp_some ho14
  refine WC.bloop3 (H2 := [vec u8 3 1 (List.map icell (List.replicate (ln l.body).toNat (0 : Int))), blk b3 [.int .i64 p.pace, v_p_times] 63, blk b2 [.int .i64 t.u0, .int .i64 t.u1, .int .i64 t.u2, .int .i64 t.w0, .int .i64 t.w1, .int .i64 t.w2, .int .i64 t.regs] 24, blk b1 [v_l_logs, v_l_body, v_l_outs] 49, kn M w.heap.size K0 K0]) (τ := [(4, (true, _)), (5, (true, _)), (7, (true, _)), (24, (true, _)), (25, (true, _))]) (fun (v12_1 : List Int) (x26_1 : Int) (uv12_1 : Value) => [(26, (true, .int .i64 x26_1))]) (fun (v12_1 : List Int) (x26_1 : Int) (uv12_1 : Value) => [vec uv12_1 3 1 (List.map icell v12_1), blk b11 [v_l_logs, v_l_body, v_l_outs, .int .i64 p.pace, .int .i64 t.regs, v_p_times, uv12_1, u8] 159]) (fun (v12_1 : List Int) (x26_1 : Int) (uv12_1 : Value) (m : Nat) => iter (regs_layout_L0 l t p) m (v12_1, x26_1) = some o13 ∧ SliceLen uv12_1 v12_1.length) (fun (v12_1 : List Int) (x26_1 : Int) (uv12_1 : Value) => o13 = .go (v12_1, x26_1) ∧ SliceLen uv12_1 v12_1.length) [] 0 (.slice none 0 0) n16 ⟨ho17, SliceLen.nil⟩ ⟨rfl, rfl, rfl, rfl, rfl, rfl, trivial⟩ (fun w hw => hw.pick [0, 1, 2, 3, 4, 5, 6] (by decide)) ?_ ?_
  · skip
    rintro v12_1 x26_1 uv12_1 ⟨rfl, hlv12_1⟩
    refine WQ.then ?_
    refine WC.seq ?_
    refine WC.region ?_
    refine WL.q rfl rfl rfl (QV.move rfl rfl) ?_
    refine WL.q rfl rfl rfl (QV.assign rfl rfl) ?_
    refine WL.nil ?_
    refine WQ.then ?_
    refine WC.ret ?_
    obtain rfl := (eq_of_some hm15).symm
    refine WK.of (C' := Own M w [kn M w.heap.size K0 K0, vec uv12_1 3 1 (List.map icell v12_1), blk b11 [v_l_logs, v_l_body, v_l_outs, .int .i64 p.pace, .int .i64 t.regs, v_p_times, uv12_1, u8] 159, vec u8 3 1 (List.map icell (List.replicate (ln l.body).toNat (0 : Int))), blk b3 [.int .i64 p.pace, v_p_times] 63, blk b2 [.int .i64 t.u0, .int .i64 t.u1, .int .i64 t.u2, .int .i64 t.w0, .int .i64 t.w1, .int .i64 t.w2, .int .i64 t.regs] 24, blk b1 [v_l_logs, v_l_body, v_l_outs] 49]) (fun w hw => hw.pick [6, 0, 1, 2, 3, 4, 5] (by decide)) ?_
    refine WK.freeze hk (fun k18 hle18 hr18 => ?_)
    have hA18 := vec_arr hr18
    refine WQ.ret1 rfl rfl (fun w hw => ?_)
    exact ⟨(b11, v_l_logs, v_l_body, v_l_outs, v_p_times, uv12_1, u8, k18), rfl, hw.pick [0, 1, 2] (by decide), (h_l_logs.le hle18), (h_l_body.le hle18), (h_l_outs.le hle18), (h_p_times.le hle18), hA18, hu9⟩
  · skip
    rintro v12_1 x26_1 uv12_1 m19 ⟨hI20, hlv12_1⟩
    obtain ⟨m21, s22, rfl, hm23, hn24⟩ := iter_step hI20; clear hI20; unfold regs_layout_L0 at hm23; simp only at hm23
    refine WC.seq ?_
    refine WC.region ?_
    refine WL.q rfl rfl rfl (QV.lss rfl rfl rfl rfl) ?_
    refine WL.nil ?_
    refine WQ.then ?_
    refine WC.seq ?_
    refine WC.cond rfl (fun h25 => ?_) (fun h25 => ?_)
    · skip
      have hm26 := br_t h25 hm23; clear hm23
      refine WC.skip ?_
      refine WQ.then ?_
      refine WC.seq ?_
      refine WC.block ?_
      refine WC.seq ?_
      refine WC.region ?_
      refine WL.q rfl rfl rfl (QV.move rfl rfl) ?_
      obtain ⟨c27, hm28⟩ := ck_some hm26; clear hm26
      obtain ⟨p29, hp30⟩ := h_l_body.lenMap.ix (sz := 9) ln_len c27
      refine WL.q rfl rfl rfl (QV.indexSlice sl47 rfl rfl rfl rfl hp30) ?_
      refine WL.q rfl rfl rfl (QV.loadAgg ag59 rfl rfl rfl (fun w hw => ((Own.karr 6 rfl hk h_l_body) w hw).ele hp30 c27)) ?_
      refine WL.effect rfl ?_
      refine (EV.alloc (by decide) ze59 (fun b31 => ?_))
      refine WL.q rfl rfl rfl (QV.assign rfl rfl) ?_
      refine WL.effect rfl ?_
      refine (EV.store 0 rfl rfl rfl rfl rfl rfl (vs := [.int .i64 ((ele l.body x26_1).op), .int .i64 (((ele l.body x26_1).a).st), .int .i64 (((ele l.body x26_1).a).bk), .int .i64 (((ele l.body x26_1).b).st), .int .i64 (((ele l.body x26_1).b).bk), .int .i64 ((ele l.body x26_1).ar), .int .i64 ((ele l.body x26_1).sp), .int .i64 ((ele l.body x26_1).pl), .int .i64 ((ele l.body x26_1).n)]) (show Value.cells _ = List.toArray _ from rfl) sz59 (Nat.le_of_ble_eq_true rfl) (one_cons rfl (one_cons rfl (one_cons rfl (one_cons rfl (one_cons rfl (one_cons rfl (one_cons rfl (one_cons rfl (one_cons rfl one_nil))))))))) ?_)
      refine WL.nil ?_
      refine WQ.then ?_
      refine WC.dr (m := 20) (S := Own M w [kn M w.heap.size K0 K0, blk b31 [.int .i64 ((ele l.body x26_1).op), .int .i64 (((ele l.body x26_1).a).st), .int .i64 (((ele l.body x26_1).a).bk), .int .i64 (((ele l.body x26_1).b).st), .int .i64 (((ele l.body x26_1).b).bk), .int .i64 ((ele l.body x26_1).ar), .int .i64 ((ele l.body x26_1).sp), .int .i64 ((ele l.body x26_1).pl), .int .i64 ((ele l.body x26_1).n)] 59, blk b11 [v_l_logs, v_l_body, v_l_outs, .int .i64 p.pace, .int .i64 t.regs, v_p_times, uv12_1, u8] 159, vec u8 3 1 (List.map icell (List.replicate (ln l.body).toNat (0 : Int))), blk b3 [.int .i64 p.pace, v_p_times] 63, blk b2 [.int .i64 t.u0, .int .i64 t.u1, .int .i64 t.u2, .int .i64 t.w0, .int .i64 t.w1, .int .i64 t.w2, .int .i64 t.regs] 24, blk b1 [v_l_logs, v_l_body, v_l_outs] 49]) (by kernel_rfl) (by kernel_rfl) (fun w hw => hw.pick [7, 0, 2, 3, 4, 5, 6] (by decide)) ?_
      refine WD.q 0 rfl (by kernel_rfl) rfl rfl rfl (QV.move rfl rfl) ?_
      refine WD.q 1 rfl (by kernel_rfl) rfl rfl rfl (QV.move rfl rfl) ?_
      refine WD.q 2 rfl (by kernel_rfl) rfl rfl rfl (QV.nilCheck rfl rfl) ?_
      refine WD.q 3 rfl (by kernel_rfl) rfl rfl rfl (QV.fieldAddr fd159_4 rfl rfl) ?_
      refine WD.q 4 rfl (by kernel_rfl) rfl rfl rfl (QV.load pl30 rfl rfl (Own.cell 2 rfl rfl)) ?_
      refine WD.q 5 rfl (by kernel_rfl) rfl rfl rfl (QV.fieldAddr fd63_1 rfl rfl) ?_
      refine WD.q 6 rfl (by kernel_rfl) rfl rfl rfl (QV.load pl30 rfl rfl (Own.cell 4 rfl rfl)) ?_
      refine WD.q 7 rfl (by kernel_rfl) rfl rfl rfl (QV.move rfl rfl) ?_
      obtain ⟨c32, hm33⟩ := ck_some hm28; clear hm28
      obtain ⟨p34, hp35⟩ := h_p_times.lenMap.ix (sz := 1) ln_len c32
      refine WD.q 8 rfl (by kernel_rfl) rfl rfl rfl (QV.indexSlice sl30 rfl rfl rfl rfl hp35) ?_
      refine WD.q 9 rfl (by kernel_rfl) rfl rfl rfl (QV.load pl3 rfl rfl (fun w hw => CellsAt.one 0 (((Own.karr 0 rfl hk h_p_times) w hw).ele hp35 c32) rfl)) ?_
      refine WD.q 10 rfl (by kernel_rfl) rfl rfl rfl (QV.loadAgg ag24 rfl rfl rfl (Own.cellsBlk 5 rfl)) ?_
      refine WD.q 11 rfl (by kernel_rfl) rfl rfl rfl (QV.fieldAddr fd59_0 rfl rfl) ?_
      refine WD.q 12 rfl (by kernel_rfl) rfl rfl rfl (QV.load pl3 rfl rfl (Own.cell 1 rfl rfl)) ?_
      obtain ⟨x36, hx37, hm38⟩ := bd_some hm33; clear hm33
      refine WD.q 13 rfl (by kernel_rfl) rfl rfl rfl (QV.call en63 (EvAll.cons rfl rfl (EvAll.cons rfl rfl EvAll.nil)) (fun w hw => have h := target_Wait_w w hx37 ; h)) ?_
      obtain ⟨c39, hm40⟩ := ck_some hm38; clear hm38
      refine WD.q 14 rfl (by kernel_rfl) rfl rfl rfl (QV.add rfl rfl rfl rfl c39) ?_
      refine WD.o 15 rfl (by kernel_rfl) rfl ?_
      refine (EV.buildSlice (by decide) sz_30 (by decide) (by decide) (ps := [(0, .tmp 45)]) (cells := [.int .i64 ((ele p.times x26_1) + x36)]) (EvAll.cons rfl rfl EvAll.nil) (by kernel_rfl) (fun b41 => ?_))
      refine WD.b (H' := [kn M w.heap.size K0 K0, blk b41 [.int .i64 ((ele p.times x26_1) + x36)] 3, blk b31 [.int .i64 ((ele l.body x26_1).op), .int .i64 (((ele l.body x26_1).a).st), .int .i64 (((ele l.body x26_1).a).bk), .int .i64 (((ele l.body x26_1).b).st), .int .i64 (((ele l.body x26_1).b).bk), .int .i64 ((ele l.body x26_1).ar), .int .i64 ((ele l.body x26_1).sp), .int .i64 ((ele l.body x26_1).pl), .int .i64 ((ele l.body x26_1).n)] 59, blk b11 [v_l_logs, v_l_body, v_l_outs, .int .i64 p.pace, .int .i64 t.regs, v_p_times, uv12_1, u8] 159, vec u8 3 1 (List.map icell (List.replicate (ln l.body).toNat (0 : Int))), blk b3 [.int .i64 p.pace, v_p_times] 63, blk b2 [.int .i64 t.u0, .int .i64 t.u1, .int .i64 t.u2, .int .i64 t.w0, .int .i64 t.w1, .int .i64 t.w2, .int .i64 t.regs] 24, blk b1 [v_l_logs, v_l_body, v_l_outs] 49]) (fun w hw => hw.pick [8, 0, 1, 3, 4, 5, 6, 7] (by decide)) (fun w hw => hw.pick [0, 2, 3, 4, 5, 6, 7] (by decide)) ?_
      refine WD.o 16 rfl (by kernel_rfl) rfl ?_
      obtain ⟨c42, hm43⟩ := ck_some hm40; clear hm40
      refine (EV.appendL (enc := icell) (xs := v12_1) (ys := [((ele p.times x26_1) + x36)]) ((v12_1 ++ [((ele p.times x26_1) + x36)])) 2 (by decide) ve30 rfl rfl rfl rfl rfl (Own.blkArr 0 (rows := [((ele p.times x26_1) + x36)].map icell) rfl rfl (rows_len icell_len)) icell_len (icell_one _) rfl c42.1 c42.2 (fun u44 hu45 => ?_))
      refine WD.b (H' := [kn M w.heap.size K0 K0, blk b41 [.int .i64 ((ele p.times x26_1) + x36)] 3, blk b31 [.int .i64 ((ele l.body x26_1).op), .int .i64 (((ele l.body x26_1).a).st), .int .i64 (((ele l.body x26_1).a).bk), .int .i64 (((ele l.body x26_1).b).st), .int .i64 (((ele l.body x26_1).b).bk), .int .i64 ((ele l.body x26_1).ar), .int .i64 ((ele l.body x26_1).sp), .int .i64 ((ele l.body x26_1).pl), .int .i64 ((ele l.body x26_1).n)] 59, vec u44 3 1 (List.map icell (v12_1 ++ [((ele p.times x26_1) + x36)])), blk b11 [v_l_logs, v_l_body, v_l_outs, .int .i64 p.pace, .int .i64 t.regs, v_p_times, uv12_1, u8] 159, vec u8 3 1 (List.map icell (List.replicate (ln l.body).toNat (0 : Int))), blk b3 [.int .i64 p.pace, v_p_times] 63, blk b2 [.int .i64 t.u0, .int .i64 t.u1, .int .i64 t.u2, .int .i64 t.w0, .int .i64 t.w1, .int .i64 t.w2, .int .i64 t.regs] 24, blk b1 [v_l_logs, v_l_body, v_l_outs] 49]) (fun w hw => hw.pick [8, 0, 1, 2, 3, 4, 5, 6, 7] (by decide)) (fun w hw => hw.pick [0, 1, 2, 4, 5, 6, 7, 8] (by decide)) ?_
      refine WD.q 17 rfl (by kernel_rfl) rfl rfl rfl (QV.nilCheck rfl rfl) ?_
      refine WD.q 18 rfl (by kernel_rfl) rfl rfl rfl (QV.fieldAddr fd159_4 rfl rfl) ?_
      refine WD.l 19 rfl (by kernel_rfl) rfl ?_
      refine (EV.store 3 rfl rfl rfl rfl rfl rfl (vs := [u44]) (SliceLen.cells hu45) sz30 (Nat.le_of_ble_eq_true rfl) (one_cons (SliceLen.one hu45) one_nil) ?_)
      refine WQ.block ?_
      refine WQ.then ?_
      refine WC.region ?_
      obtain ⟨c46, hm47⟩ := ck_some hm43; clear hm43
      refine WL.q rfl rfl rfl (QV.add rfl rfl rfl rfl c46) ?_
      refine WL.q rfl rfl rfl (QV.move rfl rfl) ?_
      refine WL.nil ?_
      exact WQ.again3 (v12_1 ++ [((ele p.times x26_1) + x36)]) (x26_1 + 1) u44 m21 ⟨up_next hm47 hn24, hu45⟩ (Nat.lt_succ_self _) ⟨rfl, rfl, rfl, rfl, rfl, rfl, trivial⟩ (fun w hw => hw.pick [2, 3, 4, 5, 6, 7, 8] (by decide))
    · skip
      have hm48 := br_f h25 hm23; clear hm23
      refine WC.exit ?_
      refine WQ.then_exit ?_
      refine WQ.then_exit ?_
      refine WQ.block_exit ?_
      exact WQ.out3 v12_1 x26_1 uv12_1 ⟨up_brk hm48 hn24, hlv12_1⟩ ⟨rfl, rfl, rfl, rfl, rfl, rfl, trivial⟩ (fun w hw => hw.pick [0, 1, 2, 3, 4, 5, 6] (by decide))

set_option maxRecDepth 8000 in
theorem regs_fine_w {p_y : Addr} {v_y_Loop_Logs : Value} {v_y_Loop_Body : Value} {v_y_Loop_Outs : Value} {v_y_Time : Value} {v_y_Ready : Value} {v_y_Places : Value} {y_Loop_Logs : List Int} {y_Loop_Body : List Stm} {y_Loop_Outs : List Int} {y_Pace : Int} {y_Regs : Int} {y_Time : List Int} {y_Ready : List Int} {y_Places : List Int} {k_ : Int} {r : Bool} (w : World) (hm : regs_fine_m y_Loop_Logs y_Loop_Body y_Loop_Outs y_Pace y_Regs y_Time y_Ready y_Places k_ = some r) (h_y_Loop_Logs : Arr w v_y_Loop_Logs 1 (y_Loop_Logs.map icell)) (h_y_Loop_Body : Arr w v_y_Loop_Body 9 (y_Loop_Body.map Stm.cells)) (h_y_Loop_Outs : Arr w v_y_Loop_Outs 1 (y_Loop_Outs.map icell)) (h_y_Time : Arr w v_y_Time 1 (y_Time.map icell)) (h_y_Ready : Arr w v_y_Ready 1 (y_Ready.map icell)) (h_y_Places : Arr w v_y_Places 1 (y_Places.map icell)) (hp_y : CellsAt w p_y [v_y_Loop_Logs, v_y_Loop_Body, v_y_Loop_Outs, .int .i64 y_Pace, .int .i64 y_Regs, v_y_Time, v_y_Ready, v_y_Places] 0) : Calls Try.prog 112 #[.pointer (some p_y), .int .i64 k_] w (fun e w' => e = .returned (.bool r) ∧ Grow w w') := by
  unfold regs_fine_m at hm
  have hk := Base.rfl (w := w)
  refine calls_of_WC (n := 32) (args := [.pointer (some p_y), .int .i64 k_]) Try.func112 rfl rfl (Nat.le_of_ble_eq_true rfl) ?_ (Own.startK hk (Own.start w))
  refine WC.seq ?_
  refine WC.region ?_
  refine WL.q rfl rfl rfl (QV.assign rfl rfl) ?_
  refine WL.nil ?_
  refine WQ.then ?_
  refine WC.seq ?_
  refine WC.region ?_
  refine WL.q rfl rfl rfl (QV.assign rfl rfl) ?_
  refine WL.nil ?_
  refine WQ.then ?_
  refine WC.seq ?_
  refine WC.seq ?_
  refine WC.region ?_
  refine WL.q rfl rfl rfl (QV.move rfl rfl) ?_
  obtain ⟨c1, hm2⟩ := ck_some hm; clear hm
  refine WL.q rfl rfl rfl (QV.add rfl rfl rfl rfl c1) ?_
  refine WL.q rfl rfl rfl (QV.move rfl rfl) ?_
  refine WL.nil ?_
  refine WQ.then ?_
  refine WK.of (fun w hw => hw.vecNil (E := 3) (sz := 1) (enc := icell)) ?_
  obtain ⟨o4, ho5, hm6⟩ := bd_some hm2; clear hm2; obtain ⟨n7, ho8⟩ := lp_some ho5
  refine WC.bloop3 (H2 := [kn noM w.heap.size w w]) (τ := [(0, (true, _)), (1, (true, _)), (8, (true, _))]) (fun (v3_1 : List Int) (x9_1 : Int) (uv3_1 : Value) => [(5, (true, uv3_1)), (9, (true, .int .i64 x9_1))]) (fun (v3_1 : List Int) (x9_1 : Int) (uv3_1 : Value) => [vec uv3_1 3 1 (List.map icell v3_1)]) (fun (v3_1 : List Int) (x9_1 : Int) (uv3_1 : Value) (m : Nat) => iter (regs_fine_L0 y_Loop_Body y_Loop_Outs y_Pace y_Regs y_Time y_Ready y_Places k_) m (v3_1, x9_1) = some o4 ∧ SliceLen uv3_1 v3_1.length) (fun (v3_1 : List Int) (x9_1 : Int) (uv3_1 : Value) => o4 = .go (v3_1, x9_1) ∧ SliceLen uv3_1 v3_1.length) [] 0 (.slice none 0 0) n7 ⟨ho8, SliceLen.nil⟩ ⟨rfl, rfl, rfl, rfl, rfl, trivial⟩ (fun w hw => hw.pick [0, 1] (by decide)) ?_ ?_
  · skip
    rintro v3_1 x9_1 uv3_1 ⟨rfl, hlv3_1⟩
    refine WQ.then ?_
    refine WC.seq ?_
    refine WC.region ?_
    refine WL.q rfl rfl rfl (QV.move rfl rfl) ?_
    refine WL.q rfl rfl rfl (QV.move rfl rfl) ?_
    obtain ⟨x9, hx10, hm11⟩ := bd_some hm6; clear hm6
    refine WL.q rfl rfl rfl (QV.call en116 (EvAll.cons rfl rfl (EvAll.cons rfl rfl EvAll.nil)) (fun w hw => have h := keep_Layout_Firsts_w w hx10 ((Own.karr 1 rfl hk h_y_Loop_Logs) w hw) ((Own.karr 1 rfl hk h_y_Loop_Body) w hw) ((Own.karr 1 rfl hk h_y_Loop_Outs) w hw) ((Own.karr 1 rfl hk h_y_Places) w hw) (Own.kcells 1 rfl hk hp_y w hw) ((Own.vecArr 0 rfl) w hw); h)) ?_
    refine WL.q rfl rfl rfl (QV.assign rfl rfl) ?_
    refine WL.nil ?_
    refine WQ.then ?_
    refine WC.ret ?_
    obtain rfl := (eq_of_some hm11).symm
    refine WQ.ret1 rfl rfl (fun w hw => ?_)
    exact ⟨rfl, Own.kgrow (fun _ x => x) hw⟩
  · skip
    rintro v3_1 x9_1 uv3_1 m12 ⟨hI13, hlv3_1⟩
    obtain ⟨m14, s15, rfl, hm16, hn17⟩ := iter_step hI13; clear hI13; unfold regs_fine_L0 at hm16; simp only at hm16
    refine WC.seq ?_
    refine WC.region ?_
    refine WL.q rfl rfl rfl (QV.lss rfl rfl rfl rfl) ?_
    refine WL.nil ?_
    refine WQ.then ?_
    refine WC.seq ?_
    refine WC.cond rfl (fun h18 => ?_) (fun h18 => ?_)
    · skip
      have hm19 := br_t h18 hm16; clear hm16
      refine WC.skip ?_
      refine WQ.then ?_
      refine WC.seq ?_
      refine WC.block ?_
      refine WC.seq ?_
      refine WC.region ?_
      refine WL.q rfl rfl rfl (QV.move rfl rfl) ?_
      refine WL.q rfl rfl rfl (QV.assign rfl rfl) ?_
      refine WL.nil ?_
      refine WQ.then ?_
      refine WC.seq ?_
      refine WC.region ?_
      refine WL.q rfl rfl rfl (QV.move rfl rfl) ?_
      refine WL.q rfl rfl rfl (QV.move rfl rfl) ?_
      refine WL.effect rfl ?_
      refine (EV.buildSlice (by decide) sz_30 (by decide) (by decide) (ps := [(0, .tmp 13)]) (cells := [.int .i64 x9_1]) (EvAll.cons rfl rfl EvAll.nil) (by kernel_rfl) (fun b20 => ?_))
      refine WL.effect rfl ?_
      obtain ⟨c21, hm22⟩ := ck_some hm19; clear hm19
      refine (EV.appendL (enc := icell) (xs := v3_1) (ys := [x9_1]) ((v3_1 ++ [x9_1])) 1 (by decide) ve30 rfl rfl rfl rfl rfl (Own.blkArr 0 (rows := [x9_1].map icell) rfl rfl (rows_len icell_len)) icell_len (icell_one _) rfl c21.1 c21.2 (fun u23 hu24 => ?_))
      refine WL.q rfl rfl rfl (QV.assign rfl rfl) ?_
      refine WL.nil ?_
      refine WQ.then ?_
      refine WC.seq ?_
      refine WC.region ?_
      refine WL.q rfl rfl rfl (QV.move rfl rfl) ?_
      refine WL.q rfl rfl rfl (QV.move rfl rfl) ?_
      refine WL.q rfl rfl rfl (QV.move rfl rfl) ?_
      obtain ⟨x25, hx26, hm27⟩ := bd_some hm22; clear hm22
      refine WL.q rfl rfl rfl (QV.call en115 (EvAll.cons rfl rfl (EvAll.cons rfl rfl (EvAll.cons rfl rfl EvAll.nil))) (fun w hw => have h := keep_Layout_Apart_w w hx26 ((Own.karr 2 rfl hk h_y_Loop_Body) w hw) ((Own.karr 2 rfl hk h_y_Loop_Outs) w hw) ((Own.karr 2 rfl hk h_y_Time) w hw) ((Own.karr 2 rfl hk h_y_Ready) w hw) ((Own.karr 2 rfl hk h_y_Places) w hw) (Own.kcells 2 rfl hk hp_y w hw); h)) ?_
      refine WL.q rfl rfl rfl (QV.not rfl rfl) ?_
      refine WL.q rfl rfl rfl (QV.move rfl rfl) ?_
      refine WL.g rfl rfl (GuardIs.neg rfl rfl) (fun hG => QV.move rfl rfl) ?_
      refine WL.g rfl rfl (GuardIs.neg rfl rfl) (fun hG => QV.move rfl rfl) ?_
      refine WL.g rfl rfl (GuardIs.neg rfl rfl) (fun hG => QV.move rfl rfl) ?_
      obtain ⟨x28, hx29, hm30⟩ := bdG_some hm27; clear hm27
      refine WL.g rfl rfl (GuardIs.neg rfl rfl) (fun hG => QV.call en115 (EvAll.cons rfl hG (EvAll.cons rfl hG (EvAll.cons rfl hG EvAll.nil))) (fun w hw => have h := keep_Layout_Apart_w w (hx29 hG) ((Own.karr 2 rfl hk h_y_Loop_Body) w hw) ((Own.karr 2 rfl hk h_y_Loop_Outs) w hw) ((Own.karr 2 rfl hk h_y_Time) w hw) ((Own.karr 2 rfl hk h_y_Ready) w hw) ((Own.karr 2 rfl hk h_y_Places) w hw) (Own.kcells 2 rfl hk hp_y w hw); h)) ?_
      refine WL.g rfl rfl (GuardIs.neg rfl rfl) (fun hG => QV.not rfl hG) ?_
      refine WL.q rfl rfl rfl (QV.pickOr rfl rfl rfl (fun h => notF h)) ?_
      refine WL.nil ?_
      refine WQ.then ?_
      refine WC.cond rfl (fun h31 => ?_) (fun h31 => ?_)
      · skip
        have hm32 := br_t h31 hm30; clear hm30
        refine WC.seq ?_
        refine WC.region ?_
        refine WL.q rfl rfl rfl (QV.assign rfl rfl) ?_
        refine WL.nil ?_
        refine WQ.then ?_
        refine WC.ret ?_
        refine WQ.block_ret ?_
        refine WQ.then_ret ?_
        refine WQ.then_ret ?_
        refine WQ.block_ret ?_
        refine WQ.then_ret ?_
        refine WQ.then_ret ?_
        obtain rfl := up_ret hm32 hn17
        obtain rfl := (eq_of_some hm6).symm
        refine WQ.ret1 rfl rfl (fun w hw => ?_)
        exact ⟨rfl, Own.kgrow (fun _ x => x) hw⟩
      · skip
        have hm33 := br_f h31 hm30; clear hm30
        refine WC.skip ?_
        refine WQ.block ?_
        refine WQ.then ?_
        refine WC.region ?_
        obtain ⟨c34, hm35⟩ := ck_some hm33; clear hm33
        refine WL.q rfl rfl rfl (QV.add rfl rfl rfl rfl c34) ?_
        refine WL.q rfl rfl rfl (QV.move rfl rfl) ?_
        refine WL.nil ?_
        exact WQ.again3 (v3_1 ++ [x9_1]) (x9_1 + 1) u23 m14 ⟨up_next hm35 hn17, hu24⟩ (Nat.lt_succ_self _) ⟨rfl, rfl, rfl, rfl, rfl, trivial⟩ (fun w hw => hw.pick [1, 2] (by decide))
    · skip
      have hm36 := br_f h18 hm16; clear hm16
      refine WC.exit ?_
      refine WQ.then_exit ?_
      refine WQ.then_exit ?_
      refine WQ.block_exit ?_
      exact WQ.out3 v3_1 x9_1 uv3_1 ⟨up_brk hm36 hn17, hlv3_1⟩ ⟨rfl, rfl, rfl, rfl, rfl, trivial⟩ (fun w hw => hw.pick [0, 1] (by decide))

set_option maxRecDepth 8000 in
theorem regs_dests_w {p_y : Addr} {v_y_Loop_Logs : Value} {v_y_Loop_Body : Value} {v_y_Loop_Outs : Value} {v_y_Time : Value} {v_y_Ready : Value} {v_y_Places : Value} {y_Pace : Int} {y_Regs : Int} {y_Time : List Int} {y_Places : List Int} {r : List Int} {K0 : World} (hm : regs_dests_m y_Pace y_Regs y_Time y_Places = some r) (h_y_Time : Arr K0 v_y_Time 1 (y_Time.map icell)) (h_y_Places : Arr K0 v_y_Places 1 (y_Places.map icell)) (hp_y : CellsAt K0 p_y [v_y_Loop_Logs, v_y_Loop_Body, v_y_Loop_Outs, .int .i64 y_Pace, .int .i64 y_Regs, v_y_Time, v_y_Ready, v_y_Places] 0) (M : Nat → Prop) (w : World) (hk : Base M K0 w) (hw0 : Own M w [] w) : Calls Try.prog 82 #[.pointer (some p_y)] w (fun e w' => ∃ X : Value × World, e = .returned (X.1) ∧ Own M w (kn M w.heap.size K0 X.2 :: []) w' ∧ Arr X.2 X.1 1 (r.map icell)) := by
  unfold regs_dests_m at hm
  refine calls_of_WC (n := 40) (args := [.pointer (some p_y)]) Try.func82 rfl rfl (Nat.le_of_ble_eq_true rfl) ?_ (Own.startK hk hw0)
  refine WC.seq ?_
  refine WC.region ?_
  refine WL.q rfl rfl rfl (QV.assign rfl rfl) ?_
  refine WL.nil ?_
  refine WQ.then ?_
  refine WC.seq ?_
  refine WC.region ?_
  refine WL.q rfl rfl rfl (QV.assign rfl rfl) ?_
  refine WL.nil ?_
  refine WQ.then ?_
  refine WC.seq ?_
  refine WC.seq ?_
  refine WC.region ?_
  refine WL.q rfl rfl rfl (QV.move rfl rfl) ?_
  refine WL.q rfl rfl rfl (QV.nilCheck rfl rfl) ?_
  refine WL.q rfl rfl rfl (QV.fieldAddr fd159_5 rfl rfl) ?_
  refine WL.q rfl rfl rfl (QV.load pl30 rfl rfl (fun w hw => CellsAt.one 7 ((Own.kcells 0 rfl hk hp_y) w hw) rfl)) ?_
  refine WL.q rfl rfl rfl (QV.lenS Try.underlying30 rfl rfl h_y_Places.lenMap) ?_
  refine WL.q rfl rfl rfl (QV.move rfl rfl) ?_
  refine WL.nil ?_
  refine WQ.then ?_
  refine WK.of (fun w hw => hw.vecNil (E := 3) (sz := 1) (enc := icell)) ?_
  obtain ⟨o2, ho3, hm4⟩ := bd_some hm; clear hm; obtain ⟨n5, ho6⟩ := lp_some ho3
  refine WC.bloop3 (H2 := [kn M w.heap.size K0 K0]) (τ := [(0, (true, _)), (9, (true, _)), (10, (true, _))]) (fun (v1_1 : List Int) (x11_1 : Int) (uv1_1 : Value) => [(3, (true, uv1_1)), (11, (true, .int .i64 x11_1))]) (fun (v1_1 : List Int) (x11_1 : Int) (uv1_1 : Value) => [vec uv1_1 3 1 (List.map icell v1_1)]) (fun (v1_1 : List Int) (x11_1 : Int) (uv1_1 : Value) (m : Nat) => iter (regs_dests_L0 y_Pace y_Regs y_Time y_Places) m (v1_1, x11_1) = some o2 ∧ SliceLen uv1_1 v1_1.length) (fun (v1_1 : List Int) (x11_1 : Int) (uv1_1 : Value) => o2 = .go (v1_1, x11_1) ∧ SliceLen uv1_1 v1_1.length) [] 0 (.slice none 0 0) n5 ⟨ho6, SliceLen.nil⟩ ⟨rfl, rfl, rfl, rfl, rfl, trivial⟩ (fun w hw => hw.pick [0, 1] (by decide)) ?_ ?_
  · skip
    rintro v1_1 x11_1 uv1_1 ⟨rfl, hlv1_1⟩
    refine WQ.then ?_
    refine WC.seq ?_
    refine WC.region ?_
    refine WL.q rfl rfl rfl (QV.move rfl rfl) ?_
    refine WL.q rfl rfl rfl (QV.assign rfl rfl) ?_
    refine WL.nil ?_
    refine WQ.then ?_
    refine WC.ret ?_
    obtain rfl := (eq_of_some hm4).symm
    refine WK.of (C' := Own M w [kn M w.heap.size K0 K0, vec uv1_1 3 1 (List.map icell v1_1)]) (fun w hw => hw.pick [1, 0] (by decide)) ?_
    refine WK.freeze hk (fun k7 hle7 hr7 => ?_)
    have hA7 := vec_arr hr7
    refine WQ.ret1 rfl rfl (fun w hw => ?_)
    exact ⟨(uv1_1, k7), rfl, hw.pick [0] (by decide), hA7⟩
  · skip
    rintro v1_1 x11_1 uv1_1 m8 ⟨hI9, hlv1_1⟩
    obtain ⟨m10, s11, rfl, hm12, hn13⟩ := iter_step hI9; clear hI9; unfold regs_dests_L0 at hm12; simp only at hm12
    refine WC.seq ?_
    refine WC.region ?_
    refine WL.q rfl rfl rfl (QV.lss rfl rfl rfl rfl) ?_
    refine WL.nil ?_
    refine WQ.then ?_
    refine WC.seq ?_
    refine WC.cond rfl (fun h14 => ?_) (fun h14 => ?_)
    · skip
      have hm15 := br_t h14 hm12; clear hm12
      refine WC.skip ?_
      refine WQ.then ?_
      refine WC.seq ?_
      refine WC.block ?_
      refine WC.seq ?_
      refine WC.region ?_
      refine WL.q rfl rfl rfl (QV.move rfl rfl) ?_
      obtain ⟨c16, hm17⟩ := ck_some hm15; clear hm15
      obtain ⟨p18, hp19⟩ := h_y_Places.lenMap.ix (sz := 1) ln_len c16
      refine WL.q rfl rfl rfl (QV.indexSlice sl30 rfl rfl rfl rfl hp19) ?_
      refine WL.q rfl rfl rfl (QV.load pl3 rfl rfl (fun w hw => CellsAt.one 0 (((Own.karr 1 rfl hk h_y_Places) w hw).ele hp19 c16) rfl)) ?_
      refine WL.q rfl rfl rfl (QV.assign rfl rfl) ?_
      refine WL.q rfl rfl rfl (QV.assign rfl rfl) ?_
      refine WL.nil ?_
      refine WQ.then ?_
      refine WC.dr (m := 23) (S := Own M w [kn M w.heap.size K0 K0]) (by kernel_rfl) (by kernel_rfl) (fun w hw => hw.pick [1] (by decide)) ?_
      refine WD.q 0 rfl (by kernel_rfl) rfl rfl rfl (QV.move rfl rfl) ?_
      refine WD.q 1 rfl (by kernel_rfl) rfl rfl rfl (QV.move rfl rfl) ?_
      refine WD.q 2 rfl (by kernel_rfl) rfl rfl rfl (QV.move rfl rfl) ?_
      refine WD.q 3 rfl (by kernel_rfl) rfl rfl rfl (QV.nilCheck rfl rfl) ?_
      refine WD.q 4 rfl (by kernel_rfl) rfl rfl rfl (QV.fieldAddr fd159_3 rfl rfl) ?_
      refine WD.q 5 rfl (by kernel_rfl) rfl rfl rfl (QV.load pl30 rfl rfl (fun w hw => CellsAt.one 5 ((Own.kcells 0 rfl hk hp_y) w hw) rfl)) ?_
      refine WD.q 6 rfl (by kernel_rfl) rfl rfl rfl (QV.move rfl rfl) ?_
      obtain ⟨c20, hm21⟩ := ck_some hm17; clear hm17
      obtain ⟨p22, hp23⟩ := h_y_Time.lenMap.ix (sz := 1) ln_len c20
      refine WD.q 7 rfl (by kernel_rfl) rfl rfl rfl (QV.indexSlice sl30 rfl rfl rfl rfl hp23) ?_
      refine WD.q 8 rfl (by kernel_rfl) rfl rfl rfl (QV.load pl3 rfl rfl (fun w hw => CellsAt.one 0 (((Own.karr 0 rfl hk h_y_Time) w hw).ele hp23 c20) rfl)) ?_
      refine WD.q 9 rfl (by kernel_rfl) rfl rfl rfl (QV.move rfl rfl) ?_
      refine WD.q 10 rfl (by kernel_rfl) rfl rfl rfl (QV.nilCheck rfl rfl) ?_
      refine WD.q 11 rfl (by kernel_rfl) rfl rfl rfl (QV.fieldAddr fd159_1 rfl rfl) ?_
      refine WD.q 12 rfl (by kernel_rfl) rfl rfl rfl (QV.load pl3 rfl rfl (fun w hw => CellsAt.one 3 ((Own.kcells 0 rfl hk hp_y) w hw) rfl)) ?_
      obtain ⟨c24, hm25⟩ := ck_some hm21; clear hm21
      obtain ⟨c26, hm27⟩ := ck_some hm25; clear hm25
      refine WD.q 13 rfl (by kernel_rfl) rfl rfl rfl (QV.quo rfl rfl rfl rfl c24 c26) ?_
      obtain ⟨c28, hm29⟩ := ck_some hm27; clear hm27
      refine WD.q 14 rfl (by kernel_rfl) rfl rfl rfl (QV.sub rfl rfl rfl rfl c28) ?_
      refine WD.q 15 rfl (by kernel_rfl) rfl rfl rfl (QV.move rfl rfl) ?_
      refine WD.q 16 rfl (by kernel_rfl) rfl rfl rfl (QV.nilCheck rfl rfl) ?_
      refine WD.q 17 rfl (by kernel_rfl) rfl rfl rfl (QV.fieldAddr fd159_2 rfl rfl) ?_
      refine WD.q 18 rfl (by kernel_rfl) rfl rfl rfl (QV.load pl3 rfl rfl (fun w hw => CellsAt.one 4 ((Own.kcells 0 rfl hk hp_y) w hw) rfl)) ?_
      obtain ⟨x30, hx31, hm32⟩ := bd_some hm29; clear hm29
      refine WD.q 19 rfl (by kernel_rfl) rfl rfl rfl (QV.call en73 (EvAll.cons rfl rfl (EvAll.cons rfl rfl EvAll.nil)) (fun w hw => have h := emit_Rest_w w hx31 ; h)) ?_
      refine WD.o 20 rfl (by kernel_rfl) rfl ?_
      refine (EV.buildSlice (by decide) sz_30 (by decide) (by decide) (ps := [(0, .tmp 35)]) (cells := [.int .i64 x30]) (EvAll.cons rfl rfl EvAll.nil) (by kernel_rfl) (fun b33 => ?_))
      refine WD.b (H' := [kn M w.heap.size K0 K0, blk b33 [.int .i64 x30] 3]) (fun w hw => hw.pick [2, 0] (by decide)) (fun w hw => hw.pick [0] (by decide)) ?_
      refine WD.o 21 rfl (by kernel_rfl) rfl ?_
      obtain ⟨c34, hm35⟩ := ck_some hm32; clear hm32
      refine (EV.appendL (enc := icell) (xs := v1_1) (ys := [x30]) ((v1_1 ++ [x30])) 1 (by decide) ve30 rfl rfl rfl rfl rfl (Own.blkArr 0 (rows := [x30].map icell) rfl rfl (rows_len icell_len)) icell_len (icell_one _) rfl c34.1 c34.2 (fun u36 hu37 => ?_))
      refine WD.b (H' := [kn M w.heap.size K0 K0, blk b33 [.int .i64 x30] 3, vec u36 3 1 (List.map icell (v1_1 ++ [x30]))]) (fun w hw => hw.pick [2, 0, 1] (by decide)) (fun w hw => hw.pick [0, 1] (by decide)) ?_
      refine WD.q 22 rfl (by kernel_rfl) rfl rfl rfl (QV.assign rfl rfl) ?_
      refine WD.e (by kernel_rfl) ?_
      refine WQ.block ?_
      refine WQ.then ?_
      refine WC.region ?_
      obtain ⟨c38, hm39⟩ := ck_some hm35; clear hm35
      refine WL.q rfl rfl rfl (QV.add rfl rfl rfl rfl c38) ?_
      refine WL.q rfl rfl rfl (QV.move rfl rfl) ?_
      refine WL.nil ?_
      exact WQ.again3 (v1_1 ++ [x30]) (x11_1 + 1) u36 m10 ⟨up_next hm39 hn13, hu37⟩ (Nat.lt_succ_self _) ⟨rfl, rfl, rfl, rfl, rfl, trivial⟩ (fun w hw => hw.pick [1, 2] (by decide))
    · skip
      have hm40 := br_f h14 hm12; clear hm12
      refine WC.exit ?_
      refine WQ.then_exit ?_
      refine WQ.then_exit ?_
      refine WQ.block_exit ?_
      exact WQ.out3 v1_1 x11_1 uv1_1 ⟨up_brk hm40 hn13, hlv1_1⟩ ⟨rfl, rfl, rfl, rfl, rfl, trivial⟩ (fun w hw => hw.pick [0, 1] (by decide))

set_option maxRecDepth 8000 in
theorem regs_first_w {v_y_Loop_Logs : Value} {v_y_Loop_Body : Value} {v_y_Loop_Outs : Value} {v_y_Time : Value} {v_y_Ready : Value} {v_y_Places : Value} {b_y : Nat} {y_Loop_Logs : List Int} {y_Loop_Body : List Stm} {y_Loop_Outs : List Int} {y_Pace : Int} {y_Regs : Int} {y_Time : List Int} {y_Ready : List Int} {y_Places : List Int} {r : Bool × List Int} {K0 : World} (hm : regs_first_m y_Loop_Logs y_Loop_Body y_Loop_Outs y_Pace y_Regs y_Time y_Ready y_Places = some r) (h_y_Loop_Logs : Arr K0 v_y_Loop_Logs 1 (y_Loop_Logs.map icell)) (h_y_Loop_Body : Arr K0 v_y_Loop_Body 9 (y_Loop_Body.map Stm.cells)) (h_y_Loop_Outs : Arr K0 v_y_Loop_Outs 1 (y_Loop_Outs.map icell)) (h_y_Time : Arr K0 v_y_Time 1 (y_Time.map icell)) (h_y_Ready : Arr K0 v_y_Ready 1 (y_Ready.map icell)) (h_y_Places : SliceLen v_y_Places y_Places.length) (M : Nat → Prop) (w : World) (hk : Base M K0 w) (hw0 : Own M w [blk b_y [v_y_Loop_Logs, v_y_Loop_Body, v_y_Loop_Outs, .int .i64 y_Pace, .int .i64 y_Regs, v_y_Time, v_y_Ready, v_y_Places] 159, vec v_y_Places 3 1 (List.map icell y_Places)] w) : Calls Try.prog 80 #[.pointer (some (⟨b_y, 0, none⟩))] w (fun e w' => ∃ X : Value × World, e = .returned (.bool r.1) ∧ Own M w (kn M w.heap.size K0 X.2 :: [blk b_y [v_y_Loop_Logs, v_y_Loop_Body, v_y_Loop_Outs, .int .i64 y_Pace, .int .i64 y_Regs, v_y_Time, v_y_Ready, X.1] 159, vec X.1 3 1 (List.map icell r.2)]) w' ∧ SliceLen X.1 (r.2).length) := by
  unfold regs_first_m at hm
  refine calls_of_WC (n := 46) (args := [.pointer (some (⟨b_y, 0, none⟩))]) Try.func80 rfl rfl (Nat.le_of_ble_eq_true rfl) ?_ (Own.startK hk hw0)
  refine WC.seq ?_
  refine WC.region ?_
  refine WL.q rfl rfl rfl (QV.assign rfl rfl) ?_
  refine WL.nil ?_
  refine WQ.then ?_
  refine WC.seq ?_
  refine WC.seq ?_
  refine WC.region ?_
  refine WL.q rfl rfl rfl (QV.move rfl rfl) ?_
  refine WL.q rfl rfl rfl (QV.nilCheck rfl rfl) ?_
  refine WL.q rfl rfl rfl (QV.fieldAddr fd159_0 rfl rfl) ?_
  refine WL.q rfl rfl rfl (QV.fieldAddr fd49_1 rfl rfl) ?_
  refine WL.q rfl rfl rfl (QV.load pl47 rfl rfl (Own.cell 1 rfl rfl)) ?_
  refine WL.q rfl rfl rfl (QV.lenS Try.underlying47 rfl rfl h_y_Loop_Body.lenMap) ?_
  refine WL.q rfl rfl rfl (QV.move rfl rfl) ?_
  refine WL.nil ?_
  refine WQ.then ?_
  obtain ⟨o1, ho2, hm3⟩ := bd_some hm; clear hm; obtain ⟨n4, ho5⟩ := lp_some ho2
  refine WC.bloop2 (H2 := [kn M w.heap.size K0 K0, blk b_y [v_y_Loop_Logs, v_y_Loop_Body, v_y_Loop_Outs, .int .i64 y_Pace, .int .i64 y_Regs, v_y_Time, v_y_Ready, v_y_Places] 159]) (τ := [(0, (true, _)), (9, (true, _))]) (fun (own0v7_3 : List Int) (x10_3 : Int) => [(10, (true, .int .i64 x10_3))]) (fun (own0v7_3 : List Int) (x10_3 : Int) => [vec v_y_Places 3 1 (List.map icell own0v7_3)]) (fun (own0v7_3 : List Int) (x10_3 : Int) (m : Nat) => iter (regs_first_L0 y_Loop_Logs y_Loop_Body y_Loop_Outs y_Pace y_Regs y_Time y_Ready) m (own0v7_3, x10_3) = some o1 ∧ SliceLen v_y_Places own0v7_3.length) (fun (own0v7_3 : List Int) (x10_3 : Int) => o1 = .go (own0v7_3, x10_3) ∧ SliceLen v_y_Places own0v7_3.length) y_Places 0 n4 ⟨ho5, h_y_Places⟩ ⟨rfl, rfl, rfl, trivial⟩ (fun w hw => hw.pick [2, 0, 1] (by decide)) ?_ ?_
  · skip
    rintro own0v7_3 x10_3 ⟨rfl, hlown0v7_3⟩
    refine WQ.then ?_
    refine WC.seq ?_
    refine WC.region ?_
    refine WL.q rfl rfl rfl (QV.assign rfl rfl) ?_
    refine WL.nil ?_
    refine WQ.then ?_
    refine WC.ret ?_
    obtain rfl := (eq_of_some hm3).symm
    refine WQ.ret1 rfl rfl (fun w hw => ?_)
    exact ⟨(v_y_Places, K0), rfl, hw.pick [1, 2, 0] (by decide), hlown0v7_3⟩
  · skip
    rintro own0v7_3 x10_3 m6 ⟨hI7, hlown0v7_3⟩
    obtain ⟨m8, s9, rfl, hm10, hn11⟩ := iter_step hI7; clear hI7; unfold regs_first_L0 at hm10; simp only at hm10
    refine WC.seq ?_
    refine WC.region ?_
    refine WL.q rfl rfl rfl (QV.lss rfl rfl rfl rfl) ?_
    refine WL.nil ?_
    refine WQ.then ?_
    refine WC.seq ?_
    refine WC.cond rfl (fun h12 => ?_) (fun h12 => ?_)
    · skip
      have hm13 := br_t h12 hm10; clear hm10
      refine WC.skip ?_
      refine WQ.then ?_
      refine WC.seq ?_
      refine WC.block ?_
      refine WC.seq ?_
      refine WC.region ?_
      refine WL.q rfl rfl rfl (QV.move rfl rfl) ?_
      refine WL.q rfl rfl rfl (QV.assign rfl rfl) ?_
      refine WL.nil ?_
      refine WQ.then ?_
      refine WC.seq ?_
      refine WC.region ?_
      refine WL.q rfl rfl rfl (QV.move rfl rfl) ?_
      refine WL.q rfl rfl rfl (QV.nilCheck rfl rfl) ?_
      refine WL.q rfl rfl rfl (QV.fieldAddr fd159_5 rfl rfl) ?_
      refine WL.q rfl rfl rfl (QV.load pl30 rfl rfl (Own.cell 2 rfl rfl)) ?_
      refine WL.q rfl rfl rfl (QV.move rfl rfl) ?_
      obtain ⟨c14, hm15⟩ := ck_some hm13; clear hm13
      obtain ⟨p16, hp17⟩ := hlown0v7_3.ix (sz := 1) ln_len c14
      refine WL.q rfl rfl rfl (QV.indexSlice sl30 rfl rfl rfl rfl hp17) ?_
      refine WL.effect rfl ?_
      refine (EV.storeV 0 0 icell_eq rfl rfl rfl rfl rfl hp17 rfl rfl sz3 ?_)
      have hl18 : SliceLen v_y_Places (upd own0v7_3 x10_3 0).length := slen_upd hlown0v7_3
      refine WL.nil ?_
      refine WQ.then ?_
      obtain ⟨o19, ho20, hm21⟩ := bd_some hm15; clear hm15; obtain ⟨n22, ho23⟩ := lp_some ho20
      refine WC.bloop1 (H2 := [kn M w.heap.size K0 K0, blk b_y [v_y_Loop_Logs, v_y_Loop_Body, v_y_Loop_Outs, .int .i64 y_Pace, .int .i64 y_Regs, v_y_Time, v_y_Ready, v_y_Places] 159]) (τ := [(0, (true, _)), (3, (true, _)), (9, (true, _)), (10, (true, _))]) (fun (own0v7_4 : List Int) => []) (fun (own0v7_4 : List Int) => [vec v_y_Places 3 1 (List.map icell own0v7_4)]) (fun (own0v7_4 : List Int) (m : Nat) => iter (regs_first_L2 y_Loop_Logs y_Loop_Body y_Loop_Outs y_Pace y_Regs y_Time y_Ready x10_3) m own0v7_4 = some o19 ∧ SliceLen v_y_Places own0v7_4.length) (fun (own0v7_4 : List Int) => o19 = .go own0v7_4 ∧ SliceLen v_y_Places own0v7_4.length) (upd own0v7_3 x10_3 0) n22 ⟨ho23, hl18⟩ ⟨rfl, rfl, rfl, rfl, trivial⟩ (fun w hw => hw.pick [0, 1, 2] (by decide)) ?_ ?_
      · skip
        rintro own0v7_4 ⟨rfl, hlown0v7_4⟩
        refine WQ.block ?_
        refine WQ.then ?_
        refine WC.region ?_
        obtain ⟨c24, hm25⟩ := ck_some hm21; clear hm21
        refine WL.q rfl rfl rfl (QV.add rfl rfl rfl rfl c24) ?_
        refine WL.q rfl rfl rfl (QV.move rfl rfl) ?_
        refine WL.nil ?_
        exact WQ.again2 own0v7_4 (x10_3 + 1) m8 ⟨up_next hm25 hn11, hlown0v7_4⟩ (Nat.lt_succ_self _) ⟨rfl, rfl, rfl, trivial⟩ (fun w hw => hw.pick [0, 1, 2] (by decide))
      · skip
        rintro own0v7_4 m26 ⟨hI27, hlown0v7_4⟩
        obtain ⟨m28, s29, rfl, hm30, hn31⟩ := iter_step hI27; clear hI27; unfold regs_first_L2 at hm30
        refine WC.seq ?_
        refine WC.seq ?_
        refine WC.region ?_
        refine WL.q rfl rfl rfl (QV.move rfl rfl) ?_
        refine WL.q rfl rfl rfl (QV.move rfl rfl) ?_
        obtain ⟨x32, hx33, hm34⟩ := bd_some hm30; clear hm30
        refine WL.q rfl rfl rfl (QV.call en112 (EvAll.cons rfl rfl (EvAll.cons rfl rfl EvAll.nil)) (fun w hw => have h := regs_fine_w w hx33 ((Own.karr 1 rfl hk h_y_Loop_Logs) w hw) ((Own.karr 1 rfl hk h_y_Loop_Body) w hw) ((Own.karr 1 rfl hk h_y_Loop_Outs) w hw) ((Own.karr 1 rfl hk h_y_Time) w hw) ((Own.karr 1 rfl hk h_y_Ready) w hw) ((Own.vecArr 0 rfl) w hw) (Own.cellsBlk 2 rfl w hw); h)) ?_
        refine WL.q rfl rfl rfl (QV.not rfl rfl) ?_
        refine WL.nil ?_
        refine WQ.then ?_
        refine WC.cond rfl (fun h35 => ?_) (fun h35 => ?_)
        · skip
          have hm36 := br_t h35 hm34; clear hm34
          refine WC.skip ?_
          refine WQ.then ?_
          refine WC.seq ?_
          refine WC.block ?_
          refine WC.seq ?_
          refine WC.dr (m := 13) (S := Own M w [kn M w.heap.size K0 K0, vec v_y_Places 3 1 (List.map icell own0v7_4), blk b_y [v_y_Loop_Logs, v_y_Loop_Body, v_y_Loop_Outs, .int .i64 y_Pace, .int .i64 y_Regs, v_y_Time, v_y_Ready, v_y_Places] 159]) (by kernel_rfl) (by kernel_rfl) (fun w hw => hw.pick [1, 0, 2] (by decide)) ?_
          refine WD.q 0 rfl (by kernel_rfl) rfl rfl rfl (QV.move rfl rfl) ?_
          refine WD.q 1 rfl (by kernel_rfl) rfl rfl rfl (QV.nilCheck rfl rfl) ?_
          refine WD.q 2 rfl (by kernel_rfl) rfl rfl rfl (QV.fieldAddr fd159_5 rfl rfl) ?_
          refine WD.q 3 rfl (by kernel_rfl) rfl rfl rfl (QV.load pl30 rfl rfl (Own.cell 2 rfl rfl)) ?_
          refine WD.q 4 rfl (by kernel_rfl) rfl rfl rfl (QV.move rfl rfl) ?_
          obtain ⟨c37, hm38⟩ := ck_some hm36; clear hm36
          obtain ⟨p39, hp40⟩ := hlown0v7_4.ix (sz := 1) ln_len c37
          refine WD.q 5 rfl (by kernel_rfl) rfl rfl rfl (QV.indexSlice sl30 rfl rfl rfl rfl hp40) ?_
          refine WD.q 6 rfl (by kernel_rfl) rfl rfl rfl (QV.load pl3 rfl rfl (fun w hw => CellsAt.one 0 (((Own.vecArr 1 rfl) w hw).ele hp40 c37) rfl)) ?_
          obtain ⟨c41, hm42⟩ := ck_some hm38; clear hm38
          refine WD.q 7 rfl (by kernel_rfl) rfl rfl rfl (QV.add rfl rfl rfl rfl c41) ?_
          refine WD.q 8 rfl (by kernel_rfl) rfl rfl rfl (QV.move rfl rfl) ?_
          refine WD.q 9 rfl (by kernel_rfl) rfl rfl rfl (QV.nilCheck rfl rfl) ?_
          refine WD.q 10 rfl (by kernel_rfl) rfl rfl rfl (QV.fieldAddr fd159_2 rfl rfl) ?_
          refine WD.q 11 rfl (by kernel_rfl) rfl rfl rfl (QV.load pl3 rfl rfl (Own.cell 2 rfl rfl)) ?_
          refine WD.q 12 rfl (by kernel_rfl) rfl rfl rfl (QV.geq rfl rfl rfl rfl) ?_
          refine WD.e (by kernel_rfl) ?_
          refine WQ.then ?_
          refine WC.cond rfl (fun h43 => ?_) (fun h43 => ?_)
          · skip
            have hm44 := br_t h43 hm42; clear hm42
            refine WC.seq ?_
            refine WC.region ?_
            refine WL.q rfl rfl rfl (QV.assign rfl rfl) ?_
            refine WL.nil ?_
            refine WQ.then ?_
            refine WC.ret ?_
            refine WQ.block_ret ?_
            refine WQ.then_ret ?_
            refine WQ.then_ret ?_
            refine WQ.block_ret ?_
            refine WQ.then_ret ?_
            refine WQ.block_ret ?_
            refine WQ.then_ret ?_
            refine WQ.then_ret ?_
            refine WQ.block_ret ?_
            refine WQ.then_ret ?_
            refine WQ.then_ret ?_
            obtain rfl := up_ret hm44 hn31
            obtain rfl := up_ret hm21 hn11
            obtain rfl := (eq_of_some hm3).symm
            refine WQ.ret1 rfl rfl (fun w hw => ?_)
            exact ⟨(v_y_Places, K0), rfl, hw.pick [1, 2, 0] (by decide), hlown0v7_4⟩
          · skip
            have hm45 := br_f h43 hm42; clear hm42
            refine WC.skip ?_
            refine WQ.block ?_
            refine WQ.then ?_
            refine WC.region ?_
            refine WL.q rfl rfl rfl (QV.move rfl rfl) ?_
            refine WL.q rfl rfl rfl (QV.nilCheck rfl rfl) ?_
            refine WL.q rfl rfl rfl (QV.fieldAddr fd159_5 rfl rfl) ?_
            refine WL.q rfl rfl rfl (QV.load pl30 rfl rfl (Own.cell 2 rfl rfl)) ?_
            refine WL.q rfl rfl rfl (QV.move rfl rfl) ?_
            obtain ⟨c46, hm47⟩ := ck_some hm45; clear hm45
            obtain ⟨p48, hp49⟩ := hlown0v7_4.ix (sz := 1) ln_len c46
            refine WL.q rfl rfl rfl (QV.indexSlice sl30 rfl rfl rfl rfl hp49) ?_
            refine WL.q rfl rfl rfl (QV.load pl3 rfl rfl (fun w hw => CellsAt.one 0 (((Own.vecArr 0 rfl) w hw).ele hp49 c46) rfl)) ?_
            obtain ⟨c50, hm51⟩ := ck_some hm47; clear hm47
            refine WL.q rfl rfl rfl (QV.add rfl rfl rfl rfl c50) ?_
            obtain ⟨c52, hm53⟩ := ck_some hm51; clear hm51
            obtain ⟨p54, hp55⟩ := hlown0v7_4.ix (sz := 1) ln_len c52
            refine WL.q rfl rfl rfl (QV.indexSlice sl30 rfl rfl rfl rfl hp55) ?_
            refine WL.effect rfl ?_
            refine (EV.storeV 0 ((ele own0v7_4 x10_3) + 1) icell_eq rfl rfl rfl rfl rfl hp55 rfl rfl sz3 ?_)
            have hl56 : SliceLen v_y_Places (upd own0v7_4 x10_3 ((ele own0v7_4 x10_3) + 1)).length := slen_upd hlown0v7_4
            refine WL.nil ?_
            exact WQ.again1 (upd own0v7_4 x10_3 ((ele own0v7_4 x10_3) + 1)) m28 ⟨up_next hm53 hn31, hl56⟩ (Nat.lt_succ_self _) ⟨rfl, rfl, rfl, rfl, trivial⟩ (fun w hw => hw.pick [0, 1, 2] (by decide))
        · skip
          have hm57 := br_f h35 hm34; clear hm34
          refine WC.exit ?_
          refine WQ.then_exit ?_
          refine WQ.then_exit ?_
          refine WQ.block_exit ?_
          exact WQ.out1 own0v7_4 ⟨up_brk hm57 hn31, hlown0v7_4⟩ ⟨rfl, rfl, rfl, rfl, trivial⟩ (fun w hw => hw.pick [0, 1, 2] (by decide))
    · skip
      have hm58 := br_f h12 hm10; clear hm10
      refine WC.exit ?_
      refine WQ.then_exit ?_
      refine WQ.then_exit ?_
      refine WQ.block_exit ?_
      exact WQ.out2 own0v7_3 x10_3 ⟨up_brk hm58 hn11, hlown0v7_3⟩ ⟨rfl, rfl, rfl, trivial⟩ (fun w hw => hw.pick [0, 1, 2] (by decide))

set_option maxRecDepth 8000 in
theorem regs_spaced_w {v_y_Loop_Logs : Value} {v_y_Loop_Body : Value} {v_y_Loop_Outs : Value} {v_y_Time : Value} {v_y_Ready : Value} {v_y_Places : Value} {b_y : Nat} {y_Loop_Logs : List Int} {y_Loop_Body : List Stm} {y_Loop_Outs : List Int} {y_Pace : Int} {y_Regs : Int} {y_Time : List Int} {y_Ready : List Int} {y_Places : List Int} {r : Bool × List Int} {K0 : World} (hm : regs_spaced_m y_Loop_Logs y_Loop_Body y_Loop_Outs y_Pace y_Regs y_Time y_Ready y_Places = some r) (h_y_Loop_Logs : Arr K0 v_y_Loop_Logs 1 (y_Loop_Logs.map icell)) (h_y_Loop_Body : Arr K0 v_y_Loop_Body 9 (y_Loop_Body.map Stm.cells)) (h_y_Loop_Outs : Arr K0 v_y_Loop_Outs 1 (y_Loop_Outs.map icell)) (h_y_Time : Arr K0 v_y_Time 1 (y_Time.map icell)) (h_y_Ready : Arr K0 v_y_Ready 1 (y_Ready.map icell)) (h_y_Places : SliceLen v_y_Places y_Places.length) (M : Nat → Prop) (w : World) (hk : Base M K0 w) (hw0 : Own M w [blk b_y [v_y_Loop_Logs, v_y_Loop_Body, v_y_Loop_Outs, .int .i64 y_Pace, .int .i64 y_Regs, v_y_Time, v_y_Ready, v_y_Places] 159, vec v_y_Places 3 1 (List.map icell y_Places)] w) : Calls Try.prog 81 #[.pointer (some (⟨b_y, 0, none⟩))] w (fun e w' => ∃ X : Value × World, e = .returned (.bool r.1) ∧ Own M w (kn M w.heap.size K0 X.2 :: [blk b_y [v_y_Loop_Logs, v_y_Loop_Body, v_y_Loop_Outs, .int .i64 y_Pace, .int .i64 y_Regs, v_y_Time, v_y_Ready, X.1] 159, vec X.1 3 1 (List.map icell r.2)]) w' ∧ SliceLen X.1 (r.2).length) := by
  unfold regs_spaced_m at hm
  refine calls_of_WC (n := 37) (args := [.pointer (some (⟨b_y, 0, none⟩))]) Try.func81 rfl rfl (Nat.le_of_ble_eq_true rfl) ?_ (Own.startK hk hw0)
  refine WC.seq ?_
  refine WC.region ?_
  refine WL.q rfl rfl rfl (QV.assign rfl rfl) ?_
  refine WL.nil ?_
  refine WQ.then ?_
  refine WC.seq ?_
  refine WC.seq ?_
  refine WC.region ?_
  refine WL.q rfl rfl rfl (QV.move rfl rfl) ?_
  refine WL.q rfl rfl rfl (QV.nilCheck rfl rfl) ?_
  refine WL.q rfl rfl rfl (QV.fieldAddr fd159_0 rfl rfl) ?_
  refine WL.q rfl rfl rfl (QV.fieldAddr fd49_1 rfl rfl) ?_
  refine WL.q rfl rfl rfl (QV.load pl47 rfl rfl (Own.cell 1 rfl rfl)) ?_
  refine WL.q rfl rfl rfl (QV.lenS Try.underlying47 rfl rfl h_y_Loop_Body.lenMap) ?_
  refine WL.q rfl rfl rfl (QV.move rfl rfl) ?_
  refine WL.nil ?_
  refine WQ.then ?_
  obtain ⟨o1, ho2, hm3⟩ := bd_some hm; clear hm; obtain ⟨n4, ho5⟩ := lp_some ho2
  refine WC.bloop2 (H2 := [kn M w.heap.size K0 K0, blk b_y [v_y_Loop_Logs, v_y_Loop_Body, v_y_Loop_Outs, .int .i64 y_Pace, .int .i64 y_Regs, v_y_Time, v_y_Ready, v_y_Places] 159]) (τ := [(0, (true, _)), (10, (true, _))]) (fun (own0v7_1 : List Int) (x11_1 : Int) => [(11, (true, .int .i64 x11_1))]) (fun (own0v7_1 : List Int) (x11_1 : Int) => [vec v_y_Places 3 1 (List.map icell own0v7_1)]) (fun (own0v7_1 : List Int) (x11_1 : Int) (m : Nat) => iter (regs_spaced_L0 y_Loop_Body) m (own0v7_1, x11_1) = some o1 ∧ SliceLen v_y_Places own0v7_1.length) (fun (own0v7_1 : List Int) (x11_1 : Int) => o1 = .go (own0v7_1, x11_1) ∧ SliceLen v_y_Places own0v7_1.length) y_Places 0 n4 ⟨ho5, h_y_Places⟩ ⟨rfl, rfl, rfl, trivial⟩ (fun w hw => hw.pick [2, 0, 1] (by decide)) ?_ ?_
  · skip
    rintro own0v7_1 x11_1 ⟨rfl, hlown0v7_1⟩
    refine WQ.then ?_
    refine WC.seq ?_
    refine WC.seq ?_
    refine WC.region ?_
    refine WL.q rfl rfl rfl (QV.move rfl rfl) ?_
    refine WL.q rfl rfl rfl (QV.nilCheck rfl rfl) ?_
    refine WL.q rfl rfl rfl (QV.fieldAddr fd159_0 rfl rfl) ?_
    refine WL.q rfl rfl rfl (QV.fieldAddr fd49_1 rfl rfl) ?_
    refine WL.q rfl rfl rfl (QV.load pl47 rfl rfl (Own.cell 2 rfl rfl)) ?_
    refine WL.q rfl rfl rfl (QV.lenS Try.underlying47 rfl rfl h_y_Loop_Body.lenMap) ?_
    refine WL.q rfl rfl rfl (QV.move rfl rfl) ?_
    refine WL.nil ?_
    refine WQ.then ?_
    obtain ⟨o6, ho7, hm8⟩ := bd_some hm3; clear hm3; obtain ⟨n9, ho10⟩ := lp_some ho7
    refine WC.bloop1 (H2 := [vec v_y_Places 3 1 (List.map icell own0v7_1), kn M w.heap.size K0 K0, blk b_y [v_y_Loop_Logs, v_y_Loop_Body, v_y_Loop_Outs, .int .i64 y_Pace, .int .i64 y_Regs, v_y_Time, v_y_Ready, v_y_Places] 159]) (τ := [(0, (true, _)), (28, (true, _))]) (fun (x29_2 : Int) => [(29, (true, .int .i64 x29_2))]) (fun (x29_2 : Int) => []) (fun (x29_2 : Int) (m : Nat) => iter (regs_spaced_L2 y_Loop_Logs y_Loop_Body y_Loop_Outs y_Pace y_Regs y_Time y_Ready own0v7_1) m x29_2 = some o6) (fun (x29_2 : Int) => o6 = .go x29_2) 0 n9 ho10 ⟨rfl, rfl, rfl, trivial⟩ (fun w hw => hw.pick [0, 1, 2] (by decide)) ?_ ?_
    · skip
      rintro x29_2 rfl
      refine WQ.then ?_
      refine WC.seq ?_
      refine WC.region ?_
      refine WL.q rfl rfl rfl (QV.assign rfl rfl) ?_
      refine WL.nil ?_
      refine WQ.then ?_
      refine WC.ret ?_
      obtain rfl := (eq_of_some hm8).symm
      refine WQ.ret1 rfl rfl (fun w hw => ?_)
      exact ⟨(v_y_Places, K0), rfl, hw.pick [1, 2, 0] (by decide), hlown0v7_1⟩
    · skip
      rintro x29_2 m11 hI12
      obtain ⟨m13, s14, rfl, hm15, hn16⟩ := iter_step hI12; clear hI12; unfold regs_spaced_L2 at hm15
      refine WC.seq ?_
      refine WC.region ?_
      refine WL.q rfl rfl rfl (QV.lss rfl rfl rfl rfl) ?_
      refine WL.nil ?_
      refine WQ.then ?_
      refine WC.seq ?_
      refine WC.cond rfl (fun h17 => ?_) (fun h17 => ?_)
      · skip
        have hm18 := br_t h17 hm15; clear hm15
        refine WC.skip ?_
        refine WQ.then ?_
        refine WC.seq ?_
        refine WC.block ?_
        refine WC.seq ?_
        refine WC.region ?_
        refine WL.q rfl rfl rfl (QV.move rfl rfl) ?_
        refine WL.q rfl rfl rfl (QV.assign rfl rfl) ?_
        refine WL.nil ?_
        refine WQ.then ?_
        refine WC.seq ?_
        refine WC.region ?_
        refine WL.q rfl rfl rfl (QV.move rfl rfl) ?_
        refine WL.q rfl rfl rfl (QV.move rfl rfl) ?_
        obtain ⟨x19, hx20, hm21⟩ := bd_some hm18; clear hm18
        refine WL.q rfl rfl rfl (QV.call en112 (EvAll.cons rfl rfl (EvAll.cons rfl rfl EvAll.nil)) (fun w hw => have h := regs_fine_w w hx20 ((Own.karr 1 rfl hk h_y_Loop_Logs) w hw) ((Own.karr 1 rfl hk h_y_Loop_Body) w hw) ((Own.karr 1 rfl hk h_y_Loop_Outs) w hw) ((Own.karr 1 rfl hk h_y_Time) w hw) ((Own.karr 1 rfl hk h_y_Ready) w hw) ((Own.vecArr 0 rfl) w hw) (Own.cellsBlk 2 rfl w hw); h)) ?_
        refine WL.q rfl rfl rfl (QV.not rfl rfl) ?_
        refine WL.nil ?_
        refine WQ.then ?_
        refine WC.cond rfl (fun h22 => ?_) (fun h22 => ?_)
        · skip
          have hm23 := br_t h22 hm21; clear hm21
          refine WC.seq ?_
          refine WC.region ?_
          refine WL.q rfl rfl rfl (QV.assign rfl rfl) ?_
          refine WL.nil ?_
          refine WQ.then ?_
          refine WC.ret ?_
          refine WQ.block_ret ?_
          refine WQ.then_ret ?_
          refine WQ.then_ret ?_
          refine WQ.block_ret ?_
          refine WQ.then_ret ?_
          refine WQ.then_ret ?_
          obtain rfl := up_ret hm23 hn16
          obtain rfl := (eq_of_some hm8).symm
          refine WQ.ret1 rfl rfl (fun w hw => ?_)
          exact ⟨(v_y_Places, K0), rfl, hw.pick [1, 2, 0] (by decide), hlown0v7_1⟩
        · skip
          have hm24 := br_f h22 hm21; clear hm21
          refine WC.skip ?_
          refine WQ.block ?_
          refine WQ.then ?_
          refine WC.region ?_
          obtain ⟨c25, hm26⟩ := ck_some hm24; clear hm24
          refine WL.q rfl rfl rfl (QV.add rfl rfl rfl rfl c25) ?_
          refine WL.q rfl rfl rfl (QV.move rfl rfl) ?_
          refine WL.nil ?_
          exact WQ.again1 (x29_2 + 1) m13 (up_next hm26 hn16) (Nat.lt_succ_self _) ⟨rfl, rfl, rfl, trivial⟩ (fun w hw => hw.pick [0, 1, 2] (by decide))
      · skip
        have hm27 := br_f h17 hm15; clear hm15
        refine WC.exit ?_
        refine WQ.then_exit ?_
        refine WQ.then_exit ?_
        refine WQ.block_exit ?_
        exact WQ.out1 x29_2 (up_brk hm27 hn16) ⟨rfl, rfl, rfl, trivial⟩ (fun w hw => hw.pick [0, 1, 2] (by decide))
  · skip
    rintro own0v7_1 x11_1 m28 ⟨hI29, hlown0v7_1⟩
    obtain ⟨m30, s31, rfl, hm32, hn33⟩ := iter_step hI29; clear hI29; unfold regs_spaced_L0 at hm32; simp only at hm32
    refine WC.seq ?_
    refine WC.region ?_
    refine WL.q rfl rfl rfl (QV.lss rfl rfl rfl rfl) ?_
    refine WL.nil ?_
    refine WQ.then ?_
    refine WC.seq ?_
    refine WC.cond rfl (fun h34 => ?_) (fun h34 => ?_)
    · skip
      have hm35 := br_t h34 hm32; clear hm32
      refine WC.skip ?_
      refine WQ.then ?_
      refine WC.seq ?_
      refine WC.block ?_
      refine WC.seq ?_
      refine WC.region ?_
      refine WL.q rfl rfl rfl (QV.move rfl rfl) ?_
      refine WL.q rfl rfl rfl (QV.assign rfl rfl) ?_
      refine WL.nil ?_
      refine WQ.then ?_
      refine WC.region ?_
      refine WL.q rfl rfl rfl (QV.move rfl rfl) ?_
      refine WL.q rfl rfl rfl (QV.nilCheck rfl rfl) ?_
      refine WL.q rfl rfl rfl (QV.fieldAddr fd159_5 rfl rfl) ?_
      refine WL.q rfl rfl rfl (QV.load pl30 rfl rfl (Own.cell 2 rfl rfl)) ?_
      refine WL.q rfl rfl rfl (QV.move rfl rfl) ?_
      refine WL.q rfl rfl rfl (QV.move rfl rfl) ?_
      obtain ⟨c36, hm37⟩ := ck_some hm35; clear hm35
      refine WL.q rfl rfl rfl (QV.mul rfl rfl rfl rfl c36) ?_
      obtain ⟨c38, hm39⟩ := ck_some hm37; clear hm37
      obtain ⟨p40, hp41⟩ := hlown0v7_1.ix (sz := 1) ln_len c38
      refine WL.q rfl rfl rfl (QV.indexSlice sl30 rfl rfl rfl rfl hp41) ?_
      refine WL.effect rfl ?_
      refine (EV.storeV 0 (5 * x11_1) icell_eq rfl rfl rfl rfl rfl hp41 rfl rfl sz3 ?_)
      have hl42 : SliceLen v_y_Places (upd own0v7_1 x11_1 (5 * x11_1)).length := slen_upd hlown0v7_1
      refine WL.nil ?_
      refine WQ.block ?_
      refine WQ.then ?_
      refine WC.region ?_
      obtain ⟨c43, hm44⟩ := ck_some hm39; clear hm39
      refine WL.q rfl rfl rfl (QV.add rfl rfl rfl rfl c43) ?_
      refine WL.q rfl rfl rfl (QV.move rfl rfl) ?_
      refine WL.nil ?_
      exact WQ.again2 (upd own0v7_1 x11_1 (5 * x11_1)) (x11_1 + 1) m30 ⟨up_next hm44 hn33, hl42⟩ (Nat.lt_succ_self _) ⟨rfl, rfl, rfl, trivial⟩ (fun w hw => hw.pick [0, 1, 2] (by decide))
    · skip
      have hm45 := br_f h34 hm32; clear hm32
      refine WC.exit ?_
      refine WQ.then_exit ?_
      refine WQ.then_exit ?_
      refine WQ.block_exit ?_
      exact WQ.out2 own0v7_1 x11_1 ⟨up_brk hm45 hn33, hlown0v7_1⟩ ⟨rfl, rfl, rfl, trivial⟩ (fun w hw => hw.pick [0, 1, 2] (by decide))

set_option maxRecDepth 8000 in
theorem regs_Make_w {v_l_logs : Value} {v_l_body : Value} {v_l_outs : Value} {v_p_times : Value} {l : Lp} {t : Tgt} {p : Pln} {r : List Int × Int} {K0 : World} (hm : regs_Make_m l t p = some r) (h_l_logs : Arr K0 v_l_logs 1 (l.logs.map icell)) (h_l_body : Arr K0 v_l_body 9 (l.body.map Stm.cells)) (h_l_outs : Arr K0 v_l_outs 1 (l.outs.map icell)) (h_p_times : Arr K0 v_p_times 1 (p.times.map icell)) (M : Nat → Prop) (w : World) (hk : Base M K0 w) (hw0 : Own M w [] w) : Calls Try.prog 37 #[.agg #[v_l_logs, v_l_body, v_l_outs], .agg #[.int .i64 t.u0, .int .i64 t.u1, .int .i64 t.u2, .int .i64 t.w0, .int .i64 t.w1, .int .i64 t.w2, .int .i64 t.regs], .agg #[.int .i64 p.pace, v_p_times]] w (fun e w' => ∃ X : Value × World, e = .returned (.tuple #[X.1, .int .i64 r.2]) ∧ Own M w (kn M w.heap.size K0 X.2 :: []) w' ∧ Arr X.2 X.1 1 (r.1.map icell)) := by
  unfold regs_Make_m at hm
  refine calls_of_WC (n := 26) (args := [.agg #[v_l_logs, v_l_body, v_l_outs], .agg #[.int .i64 t.u0, .int .i64 t.u1, .int .i64 t.u2, .int .i64 t.w0, .int .i64 t.w1, .int .i64 t.w2, .int .i64 t.regs], .agg #[.int .i64 p.pace, v_p_times]]) Try.func37 rfl rfl (Nat.le_of_ble_eq_true rfl) ?_ (Own.startK hk hw0)
  refine WC.seq ?_
  refine WC.region ?_
  refine WL.effect rfl ?_
  refine (EV.boxAgg (by decide) rfl rfl (fun b1 => ?_))
  refine WL.effect rfl ?_
  refine (EV.boxAgg (by decide) rfl rfl (fun b2 => ?_))
  refine WL.effect rfl ?_
  refine (EV.boxAgg (by decide) rfl rfl (fun b3 => ?_))
  refine WL.q rfl rfl rfl (QV.assign rfl rfl) ?_
  refine WL.q rfl rfl rfl (QV.assign rfl rfl) ?_
  refine WL.nil ?_
  refine WQ.then ?_
  refine WC.seq ?_
  refine WC.seq ?_
  refine WC.region ?_
  refine WL.q rfl rfl rfl (QV.loadAgg ag49 rfl rfl rfl (Own.cellsBlk 2 rfl)) ?_
  refine WL.q rfl rfl rfl (QV.loadAgg ag24 rfl rfl rfl (Own.cellsBlk 1 rfl)) ?_
  refine WL.q rfl rfl rfl (QV.loadAgg ag63 rfl rfl rfl (Own.cellsBlk 0 rfl)) ?_
  obtain ⟨x4, hx5, hm6⟩ := bd_some hm; clear hm
  refine WL.q rfl rfl rfl (QV.call en27 (EvAll.cons rfl rfl (EvAll.cons rfl rfl (EvAll.cons rfl rfl EvAll.nil))) (fun w hw => have h := sched_Legal_w w hx5 ((Own.karr 3 rfl hk h_l_logs) w hw) ((Own.karr 3 rfl hk h_l_body) w hw) ((Own.karr 3 rfl hk h_l_outs) w hw) ((Own.karr 3 rfl hk h_p_times) w hw); h)) ?_
  refine WL.q rfl rfl rfl (QV.not rfl rfl) ?_
  refine WL.nil ?_
  refine WQ.then ?_
  refine WC.cond rfl (fun h7 => ?_) (fun h7 => ?_)
  · skip
    have hm8 := br_t h7 hm6; clear hm6
    refine WC.seq ?_
    refine WC.region ?_
    refine WL.q rfl rfl rfl (QV.assign rfl rfl) ?_
    refine WL.q rfl rfl rfl (QV.assign rfl rfl) ?_
    refine WL.nil ?_
    refine WQ.then ?_
    refine WC.ret ?_
    refine WQ.then_ret ?_
    obtain rfl := (eq_of_some hm8).symm
    refine WQ.ret2 rfl rfl rfl (fun w hw => ?_)
    exact ⟨(.slice none 0 0, K0), rfl, hw.pick [3] (by decide), Arr.nil⟩
  · skip
    have hm9 := br_f h7 hm6; clear hm6
    refine WC.skip ?_
    refine WQ.then ?_
    refine WC.seq ?_
    refine WC.region ?_
    refine WL.q rfl rfl rfl (QV.loadAgg ag49 rfl rfl rfl (Own.cellsBlk 2 rfl)) ?_
    refine WL.q rfl rfl rfl (QV.loadAgg ag24 rfl rfl rfl (Own.cellsBlk 1 rfl)) ?_
    refine WL.q rfl rfl rfl (QV.loadAgg ag63 rfl rfl rfl (Own.cellsBlk 0 rfl)) ?_
    refine WL.effect rfl ?_
    obtain ⟨x10, hx11, hm12⟩ := bd_some hm9; clear hm9
    refine EV.of (C' := Own M w [kn M w.heap.size K0 K0, blk b3 [.int .i64 p.pace, v_p_times] 63, blk b2 [.int .i64 t.u0, .int .i64 t.u1, .int .i64 t.u2, .int .i64 t.w0, .int .i64 t.w1, .int .i64 t.w2, .int .i64 t.regs] 24, blk b1 [v_l_logs, v_l_body, v_l_outs] 49]) (fun w hw => hw.pick [3, 0, 1, 2] (by decide)) ?_
    refine (EV.callR (X := Nat × Value × Value × Value × Value × Value × Value × World) (R := []) (fun X => .pointer (some (⟨X.1, 0, none⟩))) (fun X => [blk X.1 [X.2.1, X.2.2.1, X.2.2.2.1, .int .i64 x10.2.2.2.1, .int .i64 x10.2.2.2.2.1, X.2.2.2.2.1, X.2.2.2.2.2.1, X.2.2.2.2.2.2.1] 159, vec X.2.2.2.2.2.2.1 3 1 (List.map icell x10.2.2.2.2.2.2.2)]) (fun X => X.2.2.2.2.2.2.2) (fun X => Arr X.2.2.2.2.2.2.2 X.2.1 1 (x10.1.map icell) ∧ Arr X.2.2.2.2.2.2.2 X.2.2.1 9 (x10.2.1.map Stm.cells) ∧ Arr X.2.2.2.2.2.2.2 X.2.2.2.1 1 (x10.2.2.1.map icell) ∧ Arr X.2.2.2.2.2.2.2 X.2.2.2.2.1 1 (x10.2.2.2.2.2.1.map icell) ∧ Arr X.2.2.2.2.2.2.2 X.2.2.2.2.2.1 1 (x10.2.2.2.2.2.2.1.map icell) ∧ SliceLen X.2.2.2.2.2.2.1 (x10.2.2.2.2.2.2.2).length) hk (fun _ h => by cases h; decide) en79 (EvAll.cons rfl rfl (EvAll.cons rfl rfl (EvAll.cons rfl rfl EvAll.nil))) (fun M w h1 h2 => have h := regs_layout_w hx11 h_l_logs h_l_body h_l_outs h_p_times M w h1 h2; h) (fun X13 hF13 hle13 => ?_))
    refine WL.q rfl rfl rfl (QV.assign rfl rfl) ?_
    refine WL.nil ?_
    refine WQ.then ?_
    refine WC.seq ?_
    refine WC.seq ?_
    refine WC.region ?_
    refine WL.q rfl rfl rfl (QV.move rfl rfl) ?_
    refine WL.effect rfl ?_
    obtain ⟨x16, hx17, hm18⟩ := bd_some hm12; clear hm12
    refine (EV.callR (X := Value × World) (R := [blk X13.1 [X13.2.1, X13.2.2.1, X13.2.2.2.1, .int .i64 x10.2.2.2.1, .int .i64 x10.2.2.2.2.1, X13.2.2.2.2.1, X13.2.2.2.2.2.1, X13.2.2.2.2.2.2.1] 159, vec X13.2.2.2.2.2.2.1 3 1 (List.map icell x10.2.2.2.2.2.2.2)]) (fun X => .bool x16.1) (fun X => [blk X13.1 [X13.2.1, X13.2.2.1, X13.2.2.2.1, .int .i64 x10.2.2.2.1, .int .i64 x10.2.2.2.2.1, X13.2.2.2.2.1, X13.2.2.2.2.2.1, X.1] 159, vec X.1 3 1 (List.map icell x16.2)]) (fun X => X.2) (fun X => SliceLen X.1 (x16.2).length) hk (fun _ h => by cases h; decide) en80 (EvAll.cons rfl rfl EvAll.nil) (fun M w h1 h2 => have h := regs_first_w hx17 hF13.1 hF13.2.1 hF13.2.2.1 hF13.2.2.2.1 hF13.2.2.2.2.1 hF13.2.2.2.2.2 M w h1 h2; h) (fun X19 hF19 hle19 => ?_))
    refine WL.q rfl rfl rfl (QV.move rfl rfl) ?_
    refine WL.g rfl rfl (GuardIs.neg rfl rfl) (fun hG => QV.move rfl rfl) ?_
    refine bothWays (!x16.1) (fun hb20 => ?_) (fun hb20 => ?_)
    · skip
      have hm21 := br_t hb20 hm18; clear hm18
      refine WL.effectG (GuardIs.neg rfl rfl) hb20 ?_
      obtain ⟨x22, hx23, hm24⟩ := bd_some hm21; clear hm21
      refine (EV.callR (X := Value × World) (R := [blk X13.1 [X13.2.1, X13.2.2.1, X13.2.2.2.1, .int .i64 x10.2.2.2.1, .int .i64 x10.2.2.2.2.1, X13.2.2.2.2.1, X13.2.2.2.2.2.1, X19.1] 159, vec X19.1 3 1 (List.map icell x16.2)]) (fun X => .bool x22.1) (fun X => [blk X13.1 [X13.2.1, X13.2.2.1, X13.2.2.2.1, .int .i64 x10.2.2.2.1, .int .i64 x10.2.2.2.2.1, X13.2.2.2.2.1, X13.2.2.2.2.2.1, X.1] 159, vec X.1 3 1 (List.map icell x22.2)]) (fun X => X.2) (fun X => SliceLen X.1 (x22.2).length) hk (fun _ h => by cases h; decide) en81 (EvAll.cons rfl hb20 EvAll.nil) (fun M w h1 h2 => have h := regs_spaced_w hx23 (hF13.1.le hle19) (hF13.2.1.le hle19) (hF13.2.2.1.le hle19) (hF13.2.2.2.1.le hle19) (hF13.2.2.2.2.1.le hle19) hF19 M w h1 h2; h) (fun X25 hF25 hle25 => ?_))
      refine WL.q rfl rfl rfl (QV.pickOr rfl rfl rfl (fun _ => rfl)) ?_
      refine WL.nil ?_
      refine WQ.then ?_
      refine WC.cond rfl (fun h26 => ?_) (fun h26 => ?_)
      · skip
        have hm27 := br_t h26 hm24; clear hm24
        refine WC.seq ?_
        refine WC.region ?_
        refine WL.q rfl rfl rfl (QV.move rfl rfl) ?_
        refine WL.effect rfl ?_
        refine EV.of (C' := Own M w [kn M w.heap.size K0 X25.2, vec X25.1 3 1 (List.map icell x22.2), blk X13.1 [X13.2.1, X13.2.2.1, X13.2.2.2.1, .int .i64 x10.2.2.2.1, .int .i64 x10.2.2.2.2.1, X13.2.2.2.2.1, X13.2.2.2.2.2.1, X25.1] 159, blk b3 [.int .i64 p.pace, v_p_times] 63, blk b2 [.int .i64 t.u0, .int .i64 t.u1, .int .i64 t.u2, .int .i64 t.w0, .int .i64 t.w1, .int .i64 t.w2, .int .i64 t.regs] 24, blk b1 [v_l_logs, v_l_body, v_l_outs] 49]) (fun w hw => hw.pick [0, 2, 1, 3, 4, 5] (by decide)) ?_
        refine EV.freeze hk (fun k28 hle28 hr28 => ?_)
        have hA28 := vec_arr hr28
        refine EV.freeze hk (fun k29 hle29 hr29 => ?_)
        have hc29 := blk_cells hr29
        obtain ⟨x30, hx31, hm32⟩ := bd_some hm27; clear hm27
        refine (EV.callR (X := Value × World) (R := []) (fun X => X.1) (fun X => []) (fun X => X.2) (fun X => Arr X.2 X.1 1 (x30.map icell)) hk (fun _ h => by cases h; decide) en82 (EvAll.cons rfl rfl EvAll.nil) (fun M w h1 h2 => have h := regs_dests_w hx31 (hF13.2.2.2.1.le (((hle19.trans hle25).trans hle28).trans hle29)) (hA28.le hle29) hc29 M w h1 h2; h) (fun X33 hF33 hle33 => ?_))
        refine WL.q rfl rfl rfl (QV.assign rfl rfl) ?_
        refine WL.q rfl rfl rfl (QV.assign rfl rfl) ?_
        refine WL.nil ?_
        refine WQ.then ?_
        refine WC.ret ?_
        refine WQ.then_ret ?_
        obtain rfl := (eq_of_some hm32).symm
        refine WQ.ret2 rfl rfl rfl (fun w hw => ?_)
        exact ⟨(X33.1, X33.2), rfl, hw.pick [0] (by decide), hF33⟩
      · skip
        have hm34 := br_f h26 hm24; clear hm24
        refine WC.skip ?_
        refine WQ.then ?_
        refine WC.seq ?_
        refine WC.region ?_
        refine WL.q rfl rfl rfl (QV.assign rfl rfl) ?_
        refine WL.q rfl rfl rfl (QV.assign rfl rfl) ?_
        refine WL.nil ?_
        refine WQ.then ?_
        refine WC.ret ?_
        obtain rfl := (eq_of_some hm34).symm
        refine WQ.ret2 rfl rfl rfl (fun w hw => ?_)
        exact ⟨(.slice none 0 0, X25.2), rfl, hw.pick [0] (by decide), Arr.nil⟩
    · skip
      have hm35 := br_f hb20 hm18; clear hm18
      refine WL.g (v := .bool false) rfl rfl (GuardIs.neg rfl rfl) (fun hG => absurd (hb20.symm.trans hG) (by decide)) ?_
      refine WL.q rfl rfl rfl (QV.pickOr rfl rfl rfl (fun h => notF h)) ?_
      refine WL.nil ?_
      refine WQ.then ?_
      refine WC.cond rfl (fun h36 => ?_) (fun h36 => ?_)
      · skip
        have hm37 := br_t h36 hm35; clear hm35
        refine WC.seq ?_
        refine WC.region ?_
        refine WL.q rfl rfl rfl (QV.move rfl rfl) ?_
        refine WL.effect rfl ?_
        refine EV.of (C' := Own M w [kn M w.heap.size K0 X19.2, vec X19.1 3 1 (List.map icell x16.2), blk X13.1 [X13.2.1, X13.2.2.1, X13.2.2.2.1, .int .i64 x10.2.2.2.1, .int .i64 x10.2.2.2.2.1, X13.2.2.2.2.1, X13.2.2.2.2.2.1, X19.1] 159, blk b3 [.int .i64 p.pace, v_p_times] 63, blk b2 [.int .i64 t.u0, .int .i64 t.u1, .int .i64 t.u2, .int .i64 t.w0, .int .i64 t.w1, .int .i64 t.w2, .int .i64 t.regs] 24, blk b1 [v_l_logs, v_l_body, v_l_outs] 49]) (fun w hw => hw.pick [0, 2, 1, 3, 4, 5] (by decide)) ?_
        refine EV.freeze hk (fun k38 hle38 hr38 => ?_)
        have hA38 := vec_arr hr38
        refine EV.freeze hk (fun k39 hle39 hr39 => ?_)
        have hc39 := blk_cells hr39
        obtain ⟨x40, hx41, hm42⟩ := bd_some hm37; clear hm37
        refine (EV.callR (X := Value × World) (R := []) (fun X => X.1) (fun X => []) (fun X => X.2) (fun X => Arr X.2 X.1 1 (x40.map icell)) hk (fun _ h => by cases h; decide) en82 (EvAll.cons rfl rfl EvAll.nil) (fun M w h1 h2 => have h := regs_dests_w hx41 (hF13.2.2.2.1.le ((hle19.trans hle38).trans hle39)) (hA38.le hle39) hc39 M w h1 h2; h) (fun X43 hF43 hle43 => ?_))
        refine WL.q rfl rfl rfl (QV.assign rfl rfl) ?_
        refine WL.q rfl rfl rfl (QV.assign rfl rfl) ?_
        refine WL.nil ?_
        refine WQ.then ?_
        refine WC.ret ?_
        refine WQ.then_ret ?_
        obtain rfl := (eq_of_some hm42).symm
        refine WQ.ret2 rfl rfl rfl (fun w hw => ?_)
        exact ⟨(X43.1, X43.2), rfl, hw.pick [0] (by decide), hF43⟩
      · skip
        have hm44 := br_f h36 hm35; clear hm35
        refine WC.skip ?_
        refine WQ.then ?_
        refine WC.seq ?_
        refine WC.region ?_
        refine WL.q rfl rfl rfl (QV.assign rfl rfl) ?_
        refine WL.q rfl rfl rfl (QV.assign rfl rfl) ?_
        refine WL.nil ?_
        refine WQ.then ?_
        refine WC.ret ?_
        obtain rfl := (eq_of_some hm44).symm
        refine WQ.ret2 rfl rfl rfl (fun w hw => ?_)
        exact ⟨(.slice none 0 0, X19.2), rfl, hw.pick [0] (by decide), Arr.nil⟩
end Go.Proofs.Ytaimbkndebaaiab
end
