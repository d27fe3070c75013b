/- Plain models of functions: what they reckon, in Option. -/
import Derived.Test.YtaimbkndebaaiabSlc
import Derived.Test.YtaimbkndebaaiabMLoop
import Derived.Test.YtaimbkndebaaiabMCpt
namespace Go.Rd
set_option linter.unusedVariables false
set_option linter.unusedSimpArgs false
noncomputable def dep_meet_L0 (a : Stm) (b : Stm) (back : Int) (size : Int) : Int → Option (Stp (Int) (Bool)) := fun x11_1 =>
 br (decide (x11_1 < size)) (
 ck (IR (a.sp * x11_1)) <|
 ck (IR ((a.sp * x11_1) + a.pl)) <|
 ck (IR (x11_1 + back)) <|
 ck (IR (b.sp * (x11_1 + back))) <|
 ck (IR (((a.sp * x11_1) + a.pl) - (b.sp * (x11_1 + back)))) <|
 ck (IR ((((a.sp * x11_1) + a.pl) - (b.sp * (x11_1 + back))) - b.pl)) <|
 ck (IR (size - 1)) <|
 br ((bitAnd ((((a.sp * x11_1) + a.pl) - (b.sp * (x11_1 + back))) - b.pl) (size - 1)) == 0) (
 some (.ret true)) (
 ck (IR (x11_1 + 1)) <|
 some (.next (x11_1 + 1)))) (
 some (.brk x11_1))
noncomputable def dep_meet_m (a : Stm) (b : Stm) (back : Int) (size : Int) : Option (Bool) :=
 bd (lp (dep_meet_L0 a b back size) 0) fun o3 => o3.on (fun x11_1 =>
 some false) (fun r => some r)

noncomputable def dep_words_m (s : Stm) : Option (Bool) :=
 some ((s.op == 3) || (s.op == 4))

noncomputable def dep_memory_L0 (l : Lp) (from_ : Int) (to : Int) (wait11_2 : Int) : Int → Option (Stp (Int) (Edg × Bool)) := fun back13_3 =>
 br (decide (back13_3 ≤ (shlD 1 (ele l.logs ((ele l.body from_).ar))))) (
 bd (dep_meet_m (ele l.body from_) (ele l.body to) back13_3 (shlD 1 (ele l.logs ((ele l.body from_).ar)))) fun x41 =>
 br x41 (
 some (.ret ((Edg.mk from_ to back13_3 wait11_2), true))) (
 ck (IR (back13_3 + 1)) <|
 some (.next (back13_3 + 1)))) (
 some (.brk back13_3))
noncomputable def dep_memory_m (l : Lp) (from_ : Int) (to : Int) : Option (Edg × Bool) :=
 ck (IX from_ (ln l.body)) <|
 ck (IX to (ln l.body)) <|
 bd (dep_words_m (ele l.body from_)) fun x13 =>
 bdG (!(!x13)) (dep_words_m (ele l.body to)) fun x16 =>
 br ((((!x13) || (!x16)) || ((ele l.body from_).ar != (ele l.body to).ar)) || (((ele l.body from_).op == 3) && ((ele l.body to).op == 3))) (
 some ((Edg.mk 0 0 0 0), false)) (
 bd (show Option (Out (Int) (Empty)) from br (decide (from_ ≥ to)) (
 some (.go 1)) (
 some (.go 0))) fun o22 => o22.on (fun least10_1 =>
 bd (show Option (Out (Int) (Empty)) from br ((ele l.body from_).op == 4) (
 some (.go 1)) (
 some (.go 0))) fun o25 => o25.on (fun wait11_2 =>
 ck (IX ((ele l.body from_).ar) (ln l.logs)) <|
 ck (0 ≤ (ele l.logs ((ele l.body from_).ar))) <|
 bd (lp (dep_memory_L0 l from_ to wait11_2) least10_1) fun o34 => o34.on (fun back13_3 =>
 some ((Edg.mk 0 0 0 0), false)) (fun r => some r)) (fun r => r.elim)) (fun r => r.elim))

noncomputable def dep_Edges_L2 (l : Lp) (t : Tgt) (x25_7 : Int) (x25 : List Rf) : ((List Edg) × Int) → Option (Stp ((List Edg) × Int) (Empty)) := fun (v12_8, x33_8) =>
 br (decide (x33_8 < (ln x25))) (
 ck (IX x33_8 (ln x25)) <|
 ck (IX ((ele x25 x33_8).st) (ln l.body)) <|
 bd (target_Wait_m t ((ele l.body ((ele x25 x33_8).st)).op)) fun x45 =>
 ck (AL (v12_8 ++ [(Edg.mk ((ele x25 x33_8).st) x25_7 ((ele x25 x33_8).bk) x45)]).length 32) <|
 ck (IR (x33_8 + 1)) <|
 some (.next ((v12_8 ++ [(Edg.mk ((ele x25 x33_8).st) x25_7 ((ele x25 x33_8).bk) x45)]), (x33_8 + 1)))) (
 some (.brk (v12_8, x33_8)))
noncomputable def dep_Edges_L4 (l : Lp) (x25_7 : Int) : ((List Edg) × Int) → Option (Stp ((List Edg) × Int) (Empty)) := fun (v12_9, x59_9) =>
 br (decide (x59_9 < (ln l.body))) (
 bd (dep_memory_m l x59_9 x25_7) fun x41 =>
 br x41.2 (
 ck (AL (v12_9 ++ [x41.1]).length 32) <|
 ck (IR (x59_9 + 1)) <|
 some (.next ((v12_9 ++ [x41.1]), (x59_9 + 1)))) (
 ck (IR (x59_9 + 1)) <|
 some (.next (v12_9, (x59_9 + 1))))) (
 some (.brk (v12_9, x59_9)))
noncomputable def dep_Edges_L0 (l : Lp) (t : Tgt) : ((List Edg) × Int) → Option (Stp ((List Edg) × Int) (Empty)) := fun (v12_7, x25_7) =>
 br (decide (x25_7 < (ln l.body))) (
 ck (IX x25_7 (ln l.body)) <|
 bd (loop_Uses_m (ele l.body x25_7)) fun x25 =>
 bd (lp (dep_Edges_L2 l t x25_7 x25) (v12_7, 0)) fun o29 => o29.on (fun (v12_8, x33_8) =>
 bd (lp (dep_Edges_L4 l x25_7) (v12_8, 0)) fun o34 => o34.on (fun (v12_9, x59_9) =>
 ck (IR (x25_7 + 1)) <|
 some (.next (v12_9, (x25_7 + 1)))) (fun r => r.elim)) (fun r => r.elim)) (
 some (.brk (v12_7, x25_7)))
noncomputable def dep_Edges_m (l : Lp) (t : Tgt) : Option (List Edg × Int) :=
 bd (loop_May_m l) fun x3 =>
 bdG (!(!x3)) (target_May_m t) fun x6 =>
 br ((!x3) || (!x6)) (
 some ([], 2)) (
 bd (lp (dep_Edges_L0 l t) ([], 0)) fun o13 => o13.on (fun (v12_7, x25_7) =>
 bd (SortFunc_m v12_7) fun x18 =>
 bd (slices_Compact___api_Edge_api_Edge__m x18) fun x22 =>
 some (x22, 0)) (fun r => r.elim))
end Go.Rd
