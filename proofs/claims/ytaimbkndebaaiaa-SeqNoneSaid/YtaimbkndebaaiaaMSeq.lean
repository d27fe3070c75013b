/- Plain models of functions: what they reckon, in Option. -/
import Derived.Test.YtaimbkndebaaiaaDyn
import Derived.Test.YtaimbkndebaaiaaMNum
import Derived.Test.YtaimbkndebaaiaaMLoop
import Derived.Test.YtaimbkndebaaiaaMClone
namespace Go.Rd
set_option linter.unusedVariables false
set_option linter.unusedSimpArgs false
noncomputable def seq_Copy_L0 (l : List (List Int)) : ((List (List Int)) × Int) → Option (Stp ((List (List Int)) × Int) (Empty)) := fun (v1_1, x8_1) =>
 br (decide (x8_1 < (ln l))) (
 ck (IX x8_1 (ln l)) <|
 bd (Clone_m (ele l x8_1)) fun x16 =>
 ck (AL (v1_1 ++ [x16]).length 24) <|
 ck (IR (x8_1 + 1)) <|
 some (.next ((v1_1 ++ [x16]), (x8_1 + 1)))) (
 some (.brk (v1_1, x8_1)))
noncomputable def seq_Copy_m (l : List (List Int)) : Option (List (List Int)) :=
 bd (lp (seq_Copy_L0 l) ([], 0)) fun o2 => o2.on (fun (v1_1, x8_1) =>
 some v1_1) (fun r => r.elim)

noncomputable def seq_runner_ref_m (r_past : List (List Int)) (x : Rf) (now : List Int) : Option (Int) :=
 br (x.bk == 0) (
 ck (IX x.st (ln now)) <|
 some (ele now x.st)) (
 ck (IR (x.bk - 1)) <|
 ck (IX (x.bk - 1) (ln r_past)) <|
 ck (IX x.st (ln (ele r_past (x.bk - 1)))) <|
 some (ele (ele r_past (x.bk - 1)) x.st))

noncomputable def seq_runner_turn_L0 (r_Loop_Logs : List Int) (r_Loop_Body : List Stm) (r_past : List (List Int)) (t : Int) : ((List Int) × (List (List Int)) × Int) → Option (Stp ((List Int) × (List (List Int)) × Int) (Empty)) := fun (v1_1, own0v4_1, x14_1) =>
 br (decide (x14_1 < (ln r_Loop_Body))) (
 ck (IX x14_1 (ln r_Loop_Body)) <|
 br ((ele r_Loop_Body x14_1).op == 1) (
 ck (AL (v1_1 ++ [(ele r_Loop_Body x14_1).n]).length 8) <|
 ck (IR (x14_1 + 1)) <|
 some (.next ((v1_1 ++ [(ele r_Loop_Body x14_1).n]), own0v4_1, (x14_1 + 1)))) (
 br ((ele r_Loop_Body x14_1).op == 2) (
 ck (AL (v1_1 ++ [t]).length 8) <|
 ck (IR (x14_1 + 1)) <|
 some (.next ((v1_1 ++ [t]), own0v4_1, (x14_1 + 1)))) (
 br ((ele r_Loop_Body x14_1).op == 3) (
 ck (IX ((ele r_Loop_Body x14_1).ar) (ln own0v4_1)) <|
 ck (IX ((ele r_Loop_Body x14_1).ar) (ln r_Loop_Logs)) <|
 bd (num_Index_m ((ele r_Loop_Body x14_1).sp) ((ele r_Loop_Body x14_1).pl) t (ele r_Loop_Logs ((ele r_Loop_Body x14_1).ar))) fun x44 =>
 ck (IX x44 (ln (ele own0v4_1 ((ele r_Loop_Body x14_1).ar)))) <|
 ck (AL (v1_1 ++ [(ele (ele own0v4_1 ((ele r_Loop_Body x14_1).ar)) x44)]).length 8) <|
 ck (IR (x14_1 + 1)) <|
 some (.next ((v1_1 ++ [(ele (ele own0v4_1 ((ele r_Loop_Body x14_1).ar)) x44)]), own0v4_1, (x14_1 + 1)))) (
 br ((ele r_Loop_Body x14_1).op == 4) (
 bd (seq_runner_ref_m r_past ((ele r_Loop_Body x14_1).a) v1_1) fun x61 =>
 ck (IX ((ele r_Loop_Body x14_1).ar) (ln own0v4_1)) <|
 ck (IX ((ele r_Loop_Body x14_1).ar) (ln r_Loop_Logs)) <|
 bd (num_Index_m ((ele r_Loop_Body x14_1).sp) ((ele r_Loop_Body x14_1).pl) t (ele r_Loop_Logs ((ele r_Loop_Body x14_1).ar))) fun x72 =>
 ck (IX x72 (ln (ele own0v4_1 ((ele r_Loop_Body x14_1).ar)))) <|
 ck (AL (v1_1 ++ [x61]).length 8) <|
 ck (IR (x14_1 + 1)) <|
 some (.next ((v1_1 ++ [x61]), (updG own0v4_1 ((ele r_Loop_Body x14_1).ar) x72 x61), (x14_1 + 1)))) (
 ck (IR ((ele r_Loop_Body x14_1).op - 10)) <|
 bd (seq_runner_ref_m r_past ((ele r_Loop_Body x14_1).a) v1_1) fun x91 =>
 bd (seq_runner_ref_m r_past ((ele r_Loop_Body x14_1).b) v1_1) fun x94 =>
 bd (num_Op_m ((ele r_Loop_Body x14_1).op - 10) x91 x94) fun x97 =>
 ck (AL (v1_1 ++ [x97]).length 8) <|
 ck (IR (x14_1 + 1)) <|
 some (.next ((v1_1 ++ [x97]), own0v4_1, (x14_1 + 1)))))))) (
 some (.brk (v1_1, own0v4_1, x14_1)))
noncomputable def seq_runner_turn_m (r_Loop_Logs : List Int) (r_Loop_Body : List Stm) (r_Loop_Outs : List Int) (r_past : List (List Int)) (r_memory : List (List Int)) (t : Int) : Option (List (List Int) × List (List Int)) :=
 bd (lp (seq_runner_turn_L0 r_Loop_Logs r_Loop_Body r_past t) ([], r_memory, 0)) fun o2 => o2.on (fun (v1_1, own0v4_1, x14_1) =>
 ck (SX 0 2 (ln r_past)) <|
 ck (AL (([v1_1] : List (List Int)) ++ (sub r_past 0 2)).length 24) <|
 some ((([v1_1] : List (List Int)) ++ (sub r_past 0 2)), own0v4_1)) (fun r => r.elim)

noncomputable def seq_Run_L3 (s : Sta) (x37_4 : Int) : ((List Int) × Int) → Option (Stp ((List Int) × Int) (Empty)) := fun (v27_5, x43_5) =>
 br (decide (x43_5 < (ln s.bef))) (
 ck (IX x43_5 (ln s.bef)) <|
 ck (IX x37_4 (ln (ele s.bef x43_5))) <|
 ck (AL (v27_5 ++ [(ele (ele s.bef x43_5) x37_4)]).length 8) <|
 ck (IR (x43_5 + 1)) <|
 some (.next ((v27_5 ++ [(ele (ele s.bef x43_5) x37_4)]), (x43_5 + 1)))) (
 some (.brk (v27_5, x43_5)))
noncomputable def seq_Run_L1 (s : Sta) : ((List (List Int)) × Int) → Option (Stp ((List (List Int)) × Int) (Empty)) := fun (v19_4, x37_4) =>
 br (decide (x37_4 < 3)) (
 bd (lp (seq_Run_L3 s x37_4) ([], 0)) fun o28 => o28.on (fun (v27_5, x43_5) =>
 ck (AL (v19_4 ++ [v27_5]).length 24) <|
 ck (IR (x37_4 + 1)) <|
 some (.next ((v19_4 ++ [v27_5]), (x37_4 + 1)))) (fun r => r.elim)) (
 some (.brk (v19_4, x37_4)))
noncomputable def seq_Run_L5 (l : Lp) (turns : Int) : ((List (List Int)) × (List (List Int)) × Int) → Option (Stp ((List (List Int)) × (List (List Int)) × Int) (Empty)) := fun (r17_5, b18c3_5, x67_5) =>
 br (decide (x67_5 < turns)) (
 bd (seq_runner_turn_m l.logs l.body l.outs b18c3_5 r17_5 x67_5) fun x33 =>
 ck (IR (x67_5 + 1)) <|
 some (.next (x33.2, x33.1, (x67_5 + 1)))) (
 some (.brk (r17_5, b18c3_5, x67_5)))
noncomputable def seq_Run_L7 (l : Lp) (b18c3_5 : List (List Int)) : ((List Int) × Int) → Option (Stp ((List Int) × Int) (Empty)) := fun (v32_6, x82_6) =>
 br (decide (x82_6 < (ln l.outs))) (
 ck (IX x82_6 (ln l.outs)) <|
 ck (IX 0 (ln b18c3_5)) <|
 ck (IX (ele l.outs x82_6) (ln (ele b18c3_5 0))) <|
 ck (AL (v32_6 ++ [(ele (ele b18c3_5 0) (ele l.outs x82_6))]).length 8) <|
 ck (IR (x82_6 + 1)) <|
 some (.next ((v32_6 ++ [(ele (ele b18c3_5 0) (ele l.outs x82_6))]), (x82_6 + 1)))) (
 some (.brk (v32_6, x82_6)))
noncomputable def seq_Run_m (l : Lp) (s : Sta) (turns : Int) : Option (Rst × Int) :=
 bd (loop_Fits_m l s) fun x4 =>
 br (!x4) (
 some ((Rst.mk [] []), 2)) (
 br ((decide (turns < 0)) || (decide (turns > 200))) (
 some ((Rst.mk [] []), 3)) (
 bd (seq_Copy_m s.mem) fun x13 =>
 bd (lp (seq_Run_L1 s) ([], 0)) fun o20 => o20.on (fun (v19_4, x37_4) =>
 bd (lp (seq_Run_L5 l turns) (x13, v19_4, 0)) fun o26 => o26.on (fun (r17_5, b18c3_5, x67_5) =>
 bd (lp (seq_Run_L7 l b18c3_5) ([], 0)) fun o33 => o33.on (fun (v32_6, x82_6) =>
 some ((Rst.mk v32_6 r17_5), 0)) (fun r => r.elim)) (fun r => r.elim)) (fun r => r.elim)))

noncomputable def roundelayref3_Numbers_L0 (a : List Int) (b : List Int) : Int → Option (Stp (Int) (Bool)) := fun i5_1 =>
 br (decide (i5_1 < (ln a))) (
 ck (IX i5_1 (ln a)) <|
 ck (IX i5_1 (ln b)) <|
 br ((ele a i5_1) != (ele b i5_1)) (
 some (.ret false)) (
 ck (IR (i5_1 + 1)) <|
 some (.next (i5_1 + 1)))) (
 some (.brk i5_1))
noncomputable def roundelayref3_Numbers_m (a : List Int) (b : List Int) : Option (Bool) :=
 br ((ln a) != (ln b)) (
 some false) (
 bd (lp (roundelayref3_Numbers_L0 a b) 0) fun o4 => o4.on (fun i5_1 =>
 some true) (fun r => some r))

noncomputable def roundelayref3_Words_L0 (a : List (List Int)) (b : List (List Int)) : Int → Option (Stp (Int) (Bool)) := fun i5_1 =>
 br (decide (i5_1 < (ln a))) (
 ck (IX i5_1 (ln a)) <|
 ck (IX i5_1 (ln b)) <|
 bd (roundelayref3_Numbers_m (ele a i5_1) (ele b i5_1)) fun x25 =>
 br (!x25) (
 some (.ret false)) (
 ck (IR (i5_1 + 1)) <|
 some (.next (i5_1 + 1)))) (
 some (.brk i5_1))
noncomputable def roundelayref3_Words_m (a : List (List Int)) (b : List (List Int)) : Option (Bool) :=
 br ((ln a) != (ln b)) (
 some false) (
 bd (lp (roundelayref3_Words_L0 a b) 0) fun o4 => o4.on (fun i5_1 =>
 some true) (fun r => some r))

noncomputable def roundelayref3_Same_m (a : Rst) (b : Rst) : Option (Bool) :=
 bd (roundelayref3_Numbers_m a.outs b.outs) fun x3 =>
 bdG (x3) (roundelayref3_Words_m a.mem b.mem) fun x6 =>
 some (x3 && x6)

noncomputable def roundelayref3_Wrong_m (l : Lp) (s : Sta) (turns : Int) : Option (Int) :=
 bd (roundelayref2_Fits_m l s) fun x3 =>
 br (!x3) (
 some 2) (
 br ((decide (turns < 0)) || (decide (turns > 200))) (
 some 3) (
 some 0))

noncomputable def roundelayref3_is_m (s : Sta) (all : List (List Int)) (r_ : Rf) (turn : Int) : Option (Int) :=
 ck (IR (turn - r_.bk)) <|
 br (decide ((turn - r_.bk) ≥ 0)) (
 ck (IX (turn - r_.bk) (ln all)) <|
 ck (IX r_.st (ln (ele all (turn - r_.bk)))) <|
 some (ele (ele all (turn - r_.bk)) r_.st)) (
 ck (IX r_.st (ln s.bef)) <|
 ck (IR (-(turn - r_.bk))) <|
 ck (IR ((-(turn - r_.bk)) - 1)) <|
 ck (IX ((-(turn - r_.bk)) - 1) (ln (ele s.bef r_.st))) <|
 some (ele (ele s.bef r_.st) ((-(turn - r_.bk)) - 1)))

noncomputable def roundelayref3_Copy_L0 (l : List (List Int)) : ((List (List Int)) × Int) → Option (Stp ((List (List Int)) × Int) (Empty)) := fun (v1_1, i4_1) =>
 br (decide (i4_1 < (ln l))) (
 ck (IX i4_1 (ln l)) <|
 ck (AL ([] ++ (ele l i4_1)).length 8) <|
 ck (AL (v1_1 ++ [([] ++ (ele l i4_1))]).length 24) <|
 ck (IR (i4_1 + 1)) <|
 some (.next ((v1_1 ++ [([] ++ (ele l i4_1))]), (i4_1 + 1)))) (
 some (.brk (v1_1, i4_1)))
noncomputable def roundelayref3_Copy_m (l : List (List Int)) : Option (List (List Int)) :=
 bd (lp (roundelayref3_Copy_L0 l) ([], 0)) fun o2 => o2.on (fun (v1_1, i4_1) =>
 some v1_1) (fun r => r.elim)

noncomputable def roundelayref3_Play_L2 (l : Lp) (s : Sta) (t9_3 : Int) : ((List (List Int)) × (List (List Int)) × Int) → Option (Stp ((List (List Int)) × (List (List Int)) × Int) (Empty)) := fun (v15_4, r8_4, k10_4) =>
 br (decide (k10_4 < (ln l.body))) (
 ck (IX k10_4 (ln l.body)) <|
 br ((ele l.body k10_4).op == 1) (
 ck (IX t9_3 (ln v15_4)) <|
 ck (IX k10_4 (ln (ele v15_4 t9_3))) <|
 ck (IR (k10_4 + 1)) <|
 some (.next ((updG v15_4 t9_3 k10_4 ((ele l.body k10_4).n)), r8_4, (k10_4 + 1)))) (
 br ((ele l.body k10_4).op == 2) (
 ck (IX t9_3 (ln v15_4)) <|
 ck (IX k10_4 (ln (ele v15_4 t9_3))) <|
 ck (IR (k10_4 + 1)) <|
 some (.next ((updG v15_4 t9_3 k10_4 t9_3), r8_4, (k10_4 + 1)))) (
 br ((ele l.body k10_4).op == 3) (
 ck (IX ((ele l.body k10_4).ar) (ln l.logs)) <|
 bd (roundelayref1_Index_m ((ele l.body k10_4).sp) ((ele l.body k10_4).pl) t9_3 (ele l.logs ((ele l.body k10_4).ar))) fun x86 =>
 ck (IX t9_3 (ln v15_4)) <|
 ck (IX ((ele l.body k10_4).ar) (ln r8_4)) <|
 ck (IX x86 (ln (ele r8_4 ((ele l.body k10_4).ar)))) <|
 ck (IX k10_4 (ln (ele v15_4 t9_3))) <|
 ck (IR (k10_4 + 1)) <|
 some (.next ((updG v15_4 t9_3 k10_4 (ele (ele r8_4 ((ele l.body k10_4).ar)) x86)), r8_4, (k10_4 + 1)))) (
 br ((ele l.body k10_4).op == 4) (
 ck (IX ((ele l.body k10_4).ar) (ln l.logs)) <|
 bd (roundelayref1_Index_m ((ele l.body k10_4).sp) ((ele l.body k10_4).pl) t9_3 (ele l.logs ((ele l.body k10_4).ar))) fun x116 =>
 bd (roundelayref3_is_m s v15_4 ((ele l.body k10_4).a) t9_3) fun x119 =>
 ck (IX ((ele l.body k10_4).ar) (ln r8_4)) <|
 ck (IX x116 (ln (ele r8_4 ((ele l.body k10_4).ar)))) <|
 ck (IX t9_3 (ln v15_4)) <|
 ck (IX k10_4 (ln (ele v15_4 t9_3))) <|
 ck (IR (k10_4 + 1)) <|
 some (.next ((updG v15_4 t9_3 k10_4 x119), (updG r8_4 ((ele l.body k10_4).ar) x116 x119), (k10_4 + 1)))) (
 bd (roundelayref3_is_m s v15_4 ((ele l.body k10_4).a) t9_3) fun x145 =>
 bd (roundelayref3_is_m s v15_4 ((ele l.body k10_4).b) t9_3) fun x148 =>
 ck (IX t9_3 (ln v15_4)) <|
 ck (IR ((ele l.body k10_4).op - 10)) <|
 bd (roundelayref1_Op_m ((ele l.body k10_4).op - 10) x145 x148) fun x157 =>
 ck (IX k10_4 (ln (ele v15_4 t9_3))) <|
 ck (IR (k10_4 + 1)) <|
 some (.next ((updG v15_4 t9_3 k10_4 x157), r8_4, (k10_4 + 1)))))))) (
 some (.brk (v15_4, r8_4, k10_4)))
noncomputable def roundelayref3_Play_L0 (l : Lp) (s : Sta) (turns : Int) : ((List (List Int)) × (List (List Int)) × Int) → Option (Stp ((List (List Int)) × (List (List Int)) × Int) (Empty)) := fun (v15_3, r8_3, t9_3) =>
 br (decide (t9_3 < turns)) (
 ck (0 ≤ (ln l.body)) <|
 ck (AL (ln l.body).toNat 8) <|
 ck (IX t9_3 (ln v15_3)) <|
 bd (lp (roundelayref3_Play_L2 l s t9_3) ((upd v15_3 t9_3 (List.replicate (ln l.body).toNat (0 : Int))), r8_3, 0)) fun o38 => o38.on (fun (v15_4, r8_4, k10_4) =>
 ck (IR (t9_3 + 1)) <|
 some (.next (v15_4, r8_4, (t9_3 + 1)))) (fun r => r.elim)) (
 some (.brk (v15_3, r8_3, t9_3)))
noncomputable def roundelayref3_Play_L5 (l : Lp) (s : Sta) (turns : Int) (v15_3 : List (List Int)) : ((List Int) × Int) → Option (Stp ((List Int) × Int) (Empty)) := fun (v24_4, i18_4) =>
 br (decide (i18_4 < (ln l.outs))) (
 ck (IX i18_4 (ln l.outs)) <|
 ck (IX (ele l.outs i18_4) (ln s.bef)) <|
 ck (IX 0 (ln (ele s.bef (ele l.outs i18_4)))) <|
 br (decide (turns > 0)) (
 ck (IR (turns - 1)) <|
 ck (IX (turns - 1) (ln v15_3)) <|
 ck (IX i18_4 (ln l.outs)) <|
 ck (IX (ele l.outs i18_4) (ln (ele v15_3 (turns - 1)))) <|
 ck (AL (v24_4 ++ [(ele (ele v15_3 (turns - 1)) (ele l.outs i18_4))]).length 8) <|
 ck (IR (i18_4 + 1)) <|
 some (.next ((v24_4 ++ [(ele (ele v15_3 (turns - 1)) (ele l.outs i18_4))]), (i18_4 + 1)))) (
 ck (AL (v24_4 ++ [(ele (ele s.bef (ele l.outs i18_4)) 0)]).length 8) <|
 ck (IR (i18_4 + 1)) <|
 some (.next ((v24_4 ++ [(ele (ele s.bef (ele l.outs i18_4)) 0)]), (i18_4 + 1))))) (
 some (.brk (v24_4, i18_4)))
noncomputable def roundelayref3_Play_m (l : Lp) (s : Sta) (turns : Int) : Option (Rst) :=
 bd (roundelayref3_Copy_m s.mem) fun x4 =>
 ck (0 ≤ turns) <|
 ck (AL turns.toNat 24) <|
 bd (lp (roundelayref3_Play_L0 l s turns) ((List.replicate turns.toNat ([] : List Int)), x4, 0)) fun o18 => o18.on (fun (v15_3, r8_3, t9_3) =>
 bd (lp (roundelayref3_Play_L5 l s turns v15_3) ([], 0)) fun o25 => o25.on (fun (v24_4, i18_4) =>
 some (Rst.mk v24_4 r8_3)) (fun r => r.elim)) (fun r => r.elim)
end Go.Rd
