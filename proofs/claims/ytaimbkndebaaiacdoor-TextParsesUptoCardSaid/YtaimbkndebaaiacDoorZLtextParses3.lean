/- Texts for the law, 3. -/
import Derived.Test.YtaimbkndebaaiacDoorZLtextParses2
import Derived.Test.YtaimbkndebaaiacDoorProg
import Derived.Shelf.LaysC
import Derived.KernelRfl
import Derived.LaidLaws
import Derived.Shelf.Vars
import Derived.LaidMore
set_option linter.unusedVariables false
set_option linter.unusedSimpArgs false
set_option maxRecDepth 8000
section
namespace Go.Proofs.YtaimbkndebaaiacDoor
open Go.Rd
open TLib
namespace TLibR
end TLibR
open TLibR
def rlren : Go.Shelf.Ren := ⟨fun n => match n with | 101 => 56 | 103 => 57 | 129 => 75 | 138 => 38 | 143 => 39 | 145 => 58 | 146 => 10 | 171 => 19 | 174 => 55 | 195 => 51 | 197 => 52 | 205 => 94 | 206 => 88 | 208 => 71 | 210 => 72 | 217 => 65 | 218 => 53 | 219 => 54 | 220 => 73 | 221 => 22 | 224 => 67 | 225 => 66 | 243 => 33 | 245 => 70 | 246 => 47 | 247 => 69 | 260 => 64 | 266 => 81 | 267 => 68 | 268 => 37 | 279 => 84 | 280 => 85 | 281 => 86 | 282 => 87 | 283 => 59 | 284 => 60 | 285 => 61 | 286 => 62 | 287 => 83 | 314 => 82 | 316 => 93 | 317 => 74 | 318 => 76 | 319 => 77 | 320 => 78 | 321 => 91 | 322 => 92 | 337 => 89 | 338 => 90 | n => n, fun n => match n with | 24 => 99 | 31 => 36 | 37 => 51 | 46 => 116 | 51 => 112 | 53 => 104 | 59 => 101 | 75 => 55 | 80 => 61 | 85 => 96 | 105 => 93 | 119 => 89 | 127 => 74 | 138 => 135 | 139 => 136 | 143 => 156 | 145 => 158 | 146 => 137 | 167 => 139 | 168 => 142 | 171 => 103 | 173 => 107 | 175 => 140 | 210 => 152 | 212 => 119 | 213 => 120 | 232 => 154 | 233 => 155 | n => n, fun n => match n with | 1 => 2 | 3 => 4 | 4 => 5 | 15 => 6 | 16 => 7 | 17 => 3 | 18 => 8 | 19 => 9 | n => n⟩
theorem rlay_146 : Go.Proofs.Lays.n146 Tryd.prog rlren where
  mixed := by kernel_rfl
  f138 := Tryd.func38.trans (congrArg some (by kernel_rfl))
  f143 := Tryd.func39.trans (congrArg some (by kernel_rfl))
  f146 := Tryd.func10.trans (congrArg some (by kernel_rfl))
  f195 := Tryd.func51.trans (congrArg some (by kernel_rfl))
  f197 := Tryd.func52.trans (congrArg some (by kernel_rfl))
  f217 := Tryd.func65.trans (congrArg some (by kernel_rfl))
  f218 := Tryd.func53.trans (congrArg some (by kernel_rfl))
  f219 := Tryd.func54.trans (congrArg some (by kernel_rfl))
  f221 := Tryd.func22.trans (congrArg some (by kernel_rfl))
  f224 := Tryd.func67.trans (congrArg some (by kernel_rfl))
  f225 := Tryd.func66.trans (congrArg some (by kernel_rfl))
  f260 := Tryd.func64.trans (congrArg some (by kernel_rfl))
  f266 := Tryd.func81.trans (congrArg some (by kernel_rfl))
  f267 := Tryd.func68.trans (congrArg some (by kernel_rfl))
  f268 := Tryd.func37.trans (congrArg some (by kernel_rfl))
  f314 := Tryd.func82.trans (congrArg some (by kernel_rfl))
  t0 := Tryd.underlying0
  a0 := Tryd.isAgg0
  z0 := Tryd.sizeOf0
  v0 := Tryd.zeroValue0
  t3 := Tryd.underlying3
  a3 := Tryd.isAgg3
  z3 := Tryd.sizeOf3
  v3 := Tryd.zeroValue3
  t4 := Tryd.underlying4
  a4 := Tryd.isAgg4
  z4 := Tryd.sizeOf4
  v4 := Tryd.zeroValue4
  t5 := Tryd.underlying5
  a5 := Tryd.isAgg5
  z5 := Tryd.sizeOf5
  v5 := Tryd.zeroValue5
  t9 := Tryd.underlying9
  a9 := Tryd.isAgg9
  z9 := Tryd.sizeOf9
  v9 := Tryd.zeroValue9
  t21 := Tryd.underlying21
  a21 := Tryd.isAgg21
  z21 := Tryd.sizeOf21
  v21 := Tryd.zeroValue21
  t31 := Tryd.underlying36
  a31 := Tryd.isAgg36
  z31 := Tryd.sizeOf36
  v31 := Tryd.zeroValue36
  t46 := Tryd.underlying116
  a46 := Tryd.isAgg116
  z46 := Tryd.sizeOf116
  v46 := Tryd.zeroValue116
  t51 := Tryd.underlying112
  a51 := Tryd.isAgg112
  z51 := Tryd.sizeOf112
  v51 := Tryd.zeroValue112
  t105 := Tryd.underlying93
  a105 := Tryd.isAgg93
  z105 := Tryd.sizeOf93
  v105 := Tryd.zeroValue93
  t119 := Tryd.underlying89
  a119 := Tryd.isAgg89
  z119 := Tryd.sizeOf89
  t138 := Tryd.underlying135
  a138 := Tryd.isAgg135
  z138 := Tryd.sizeOf135
  v138 := Tryd.zeroValue135
  t139 := Tryd.underlying136
  a139 := Tryd.isAgg136
  z139 := Tryd.sizeOf136
  v139 := Tryd.zeroValue136
  t146 := Tryd.underlying137
  a146 := Tryd.isAgg137
  z146 := Tryd.sizeOf137
  v146 := Tryd.zeroValue137
  g1 := by kernel_rfl
  g3 := by kernel_rfl
  g4 := by kernel_rfl
theorem rlay_145 : Go.Proofs.Lays.n145 Tryd.prog rlren where
  mixed := by kernel_rfl
  f145 := Tryd.func58.trans (congrArg some (by kernel_rfl))
  f217 := rlay_146.f217
  f219 := rlay_146.f219
  f220 := Tryd.func73.trans (congrArg some (by kernel_rfl))
  f224 := rlay_146.f224
  f225 := rlay_146.f225
  f266 := rlay_146.f266
  f267 := rlay_146.f267
  f314 := rlay_146.f314
  t3 := Tryd.underlying3
  a3 := Tryd.isAgg3
  z3 := Tryd.sizeOf3
  v3 := Tryd.zeroValue3
  t4 := Tryd.underlying4
  a4 := Tryd.isAgg4
  z4 := Tryd.sizeOf4
  v4 := Tryd.zeroValue4
  t5 := Tryd.underlying5
  a5 := Tryd.isAgg5
  z5 := Tryd.sizeOf5
  v5 := Tryd.zeroValue5
  t9 := Tryd.underlying9
  a9 := Tryd.isAgg9
  z9 := Tryd.sizeOf9
  v9 := Tryd.zeroValue9
  t46 := Tryd.underlying116
  a46 := Tryd.isAgg116
  z46 := Tryd.sizeOf116
  v46 := Tryd.zeroValue116
  t51 := Tryd.underlying112
  a51 := Tryd.isAgg112
  z51 := Tryd.sizeOf112
  v51 := Tryd.zeroValue112
  t59 := Tryd.underlying101
  a59 := Tryd.isAgg101
  z59 := Tryd.sizeOf101
  v59 := Tryd.zeroValue101
  t146 := Tryd.underlying137
  a146 := Tryd.isAgg137
  z146 := Tryd.sizeOf137
  v146 := Tryd.zeroValue137
  g1 := by kernel_rfl
theorem rlay_101 : Go.Proofs.Lays.n101 Tryd.prog rlren where
  mixed := by kernel_rfl
  f101 := Tryd.func56.trans (congrArg some (by kernel_rfl))
  f206 := Tryd.func88.trans (congrArg some (by kernel_rfl))
  f208 := Tryd.func71.trans (congrArg some (by kernel_rfl))
  t3 := Tryd.underlying3
  a3 := Tryd.isAgg3
  z3 := Tryd.sizeOf3
  v3 := Tryd.zeroValue3
  t4 := Tryd.underlying4
  a4 := Tryd.isAgg4
  z4 := Tryd.sizeOf4
  v4 := Tryd.zeroValue4
  t9 := Tryd.underlying9
  a9 := Tryd.isAgg9
  z9 := Tryd.sizeOf9
  v9 := Tryd.zeroValue9
theorem rlay_103 : Go.Proofs.Lays.n103 Tryd.prog rlren where
  mixed := by kernel_rfl
  f103 := Tryd.func57.trans (congrArg some (by kernel_rfl))
  f206 := rlay_101.f206
  f210 := Tryd.func72.trans (congrArg some (by kernel_rfl))
  t3 := Tryd.underlying3
  a3 := Tryd.isAgg3
  z3 := Tryd.sizeOf3
  v3 := Tryd.zeroValue3
  t4 := Tryd.underlying4
  a4 := Tryd.isAgg4
  z4 := Tryd.sizeOf4
  v4 := Tryd.zeroValue4
  t9 := Tryd.underlying9
  a9 := Tryd.isAgg9
  z9 := Tryd.sizeOf9
  v9 := Tryd.zeroValue9
  t24 := Tryd.underlying99
  a24 := Tryd.isAgg99
  z24 := Tryd.sizeOf99
  v24 := Tryd.zeroValue99
theorem rlay_174 : Go.Proofs.LaysC.n174 Tryd.prog rlren where
  mixed := by kernel_rfl
  f129 := Tryd.func75.trans (congrArg some (by kernel_rfl))
  f171 := Tryd.func19.trans (congrArg some (by kernel_rfl))
  f174 := Tryd.func55.trans (congrArg some (by kernel_rfl))
  f205 := Tryd.func94.trans (congrArg some (by kernel_rfl))
  f243 := Tryd.func33.trans (congrArg some (by kernel_rfl))
  f245 := Tryd.func70.trans (congrArg some (by kernel_rfl))
  f246 := Tryd.func47.trans (congrArg some (by kernel_rfl))
  f247 := Tryd.func69.trans (congrArg some (by kernel_rfl))
  f279 := Tryd.func84.trans (congrArg some (by kernel_rfl))
  f280 := Tryd.func85.trans (congrArg some (by kernel_rfl))
  f281 := Tryd.func86.trans (congrArg some (by kernel_rfl))
  f282 := Tryd.func87.trans (congrArg some (by kernel_rfl))
  f283 := Tryd.func59.trans (congrArg some (by kernel_rfl))
  f284 := Tryd.func60.trans (congrArg some (by kernel_rfl))
  f285 := Tryd.func61.trans (congrArg some (by kernel_rfl))
  f286 := Tryd.func62.trans (congrArg some (by kernel_rfl))
  f287 := Tryd.func83.trans (congrArg some (by kernel_rfl))
  f316 := Tryd.func93.trans (congrArg some (by kernel_rfl))
  f317 := Tryd.func74.trans (congrArg some (by kernel_rfl))
  f318 := Tryd.func76.trans (congrArg some (by kernel_rfl))
  f319 := Tryd.func77.trans (congrArg some (by kernel_rfl))
  f320 := Tryd.func78.trans (congrArg some (by kernel_rfl))
  f321 := Tryd.func91.trans (congrArg some (by kernel_rfl))
  f322 := Tryd.func92.trans (congrArg some (by kernel_rfl))
  f337 := Tryd.func89.trans (congrArg some (by kernel_rfl))
  f338 := Tryd.func90.trans (congrArg some (by kernel_rfl))
  t0 := Tryd.underlying0
  a0 := Tryd.isAgg0
  z0 := Tryd.sizeOf0
  v0 := Tryd.zeroValue0
  t2 := Tryd.underlying2
  a2 := Tryd.isAgg2
  z2 := Tryd.sizeOf2
  v2 := Tryd.zeroValue2
  t3 := Tryd.underlying3
  a3 := Tryd.isAgg3
  z3 := Tryd.sizeOf3
  v3 := Tryd.zeroValue3
  t4 := Tryd.underlying4
  a4 := Tryd.isAgg4
  z4 := Tryd.sizeOf4
  v4 := Tryd.zeroValue4
  t5 := Tryd.underlying5
  a5 := Tryd.isAgg5
  z5 := Tryd.sizeOf5
  v5 := Tryd.zeroValue5
  t9 := Tryd.underlying9
  a9 := Tryd.isAgg9
  z9 := Tryd.sizeOf9
  v9 := Tryd.zeroValue9
  t20 := Tryd.underlying20
  a20 := Tryd.isAgg20
  z20 := Tryd.sizeOf20
  v20 := Tryd.zeroValue20
  t21 := Tryd.underlying21
  a21 := Tryd.isAgg21
  z21 := Tryd.sizeOf21
  v21 := Tryd.zeroValue21
  t37 := Tryd.underlying51
  a37 := Tryd.isAgg51
  z37 := Tryd.sizeOf51
  v37 := Tryd.zeroValue51
  t46 := Tryd.underlying116
  a46 := Tryd.isAgg116
  z46 := Tryd.sizeOf116
  v46 := Tryd.zeroValue116
  t51 := Tryd.underlying112
  a51 := Tryd.isAgg112
  z51 := Tryd.sizeOf112
  v51 := Tryd.zeroValue112
  t53 := Tryd.underlying104
  a53 := Tryd.isAgg104
  z53 := Tryd.sizeOf104
  v53 := Tryd.zeroValue104
  t75 := Tryd.underlying55
  a75 := Tryd.isAgg55
  z75 := Tryd.sizeOf55
  v75 := Tryd.zeroValue55
  t85 := Tryd.underlying96
  a85 := Tryd.isAgg96
  z85 := Tryd.sizeOf96
  v85 := Tryd.zeroValue96
  t127 := Tryd.underlying74
  a127 := Tryd.isAgg74
  z127 := Tryd.sizeOf74
  v127 := Tryd.zeroValue74
  t143 := Tryd.underlying156
  a143 := Tryd.isAgg156
  z143 := Tryd.sizeOf156
  v143 := Tryd.zeroValue156
  t145 := Tryd.underlying158
  a145 := Tryd.isAgg158
  z145 := Tryd.sizeOf158
  v145 := Tryd.zeroValue158
  t167 := Tryd.underlying139
  a167 := Tryd.isAgg139
  z167 := Tryd.sizeOf139
  v167 := Tryd.zeroValue139
  t168 := Tryd.underlying142
  a168 := Tryd.isAgg142
  z168 := Tryd.sizeOf142
  v168 := Tryd.zeroValue142
  t171 := Tryd.underlying103
  a171 := Tryd.isAgg103
  z171 := Tryd.sizeOf103
  v171 := Tryd.zeroValue103
  t173 := Tryd.underlying107
  a173 := Tryd.isAgg107
  z173 := Tryd.sizeOf107
  v173 := Tryd.zeroValue107
  t175 := Tryd.underlying140
  a175 := Tryd.isAgg140
  z175 := Tryd.sizeOf140
  v175 := Tryd.zeroValue140
  t210 := Tryd.underlying152
  a210 := Tryd.isAgg152
  z210 := Tryd.sizeOf152
  v210 := Tryd.zeroValue152
  t212 := Tryd.underlying119
  a212 := Tryd.isAgg119
  z212 := Tryd.sizeOf119
  v212 := Tryd.zeroValue119
  t213 := Tryd.underlying120
  a213 := Tryd.isAgg120
  z213 := Tryd.sizeOf120
  t232 := Tryd.underlying154
  a232 := Tryd.isAgg154
  z232 := Tryd.sizeOf154
  v232 := Tryd.zeroValue154
  t233 := Tryd.underlying155
  a233 := Tryd.isAgg155
  z233 := Tryd.sizeOf155
  v233 := Tryd.zeroValue155
  g15 := by kernel_rfl
  g16 := by kernel_rfl
  g17 := by kernel_rfl
  g18 := by kernel_rfl
  g19 := by kernel_rfl
  t80 := Tryd.underlying61
  a80 := Tryd.isAgg61
  z80 := Tryd.sizeOf61
  v80 := Tryd.zeroValue61
  i0 := by kernel_rfl
  i2 := by kernel_rfl
  i3 := by kernel_rfl
  i4 := by kernel_rfl
  i5 := by kernel_rfl
  i9 := by kernel_rfl
  i20 := by kernel_rfl
  i21 := by kernel_rfl
  i37 := by kernel_rfl
  i46 := by kernel_rfl
  i51 := by kernel_rfl
  i53 := by kernel_rfl
  i75 := by kernel_rfl
  i80 := by kernel_rfl
  i85 := by kernel_rfl
  i127 := by kernel_rfl
  i143 := by kernel_rfl
  i145 := by kernel_rfl
  i167 := by kernel_rfl
  i168 := by kernel_rfl
  i171 := by kernel_rfl
  i173 := by kernel_rfl
  i175 := by kernel_rfl
  i210 := by kernel_rfl
  i212 := by kernel_rfl
  i232 := by kernel_rfl
  i233 := by kernel_rfl
  m15 := by kernel_rfl
  m16 := by kernel_rfl
  m17 := by kernel_rfl
  m18 := by kernel_rfl
  m19 := by kernel_rfl
  c0 := by kernel_rfl
  c2 := by kernel_rfl
  c3 := by kernel_rfl
  c4 := by kernel_rfl
  c5 := by kernel_rfl
  c9 := by kernel_rfl
  c20 := by kernel_rfl
  c21 := by kernel_rfl
  c37 := by kernel_rfl
  c46 := by kernel_rfl
  c51 := by kernel_rfl
  c53 := by kernel_rfl
  c75 := by kernel_rfl
  c80 := by kernel_rfl
  c85 := by kernel_rfl
  c127 := by kernel_rfl
  c143 := by kernel_rfl
  c145 := by kernel_rfl
  c167 := by kernel_rfl
  c168 := by kernel_rfl
  c171 := by kernel_rfl
  c173 := by kernel_rfl
  c175 := by kernel_rfl
  c210 := by kernel_rfl
  c212 := by kernel_rfl
  c213 := by kernel_rfl
  c232 := by kernel_rfl
  c233 := by kernel_rfl
theorem Split_w {s sep : List UInt8} {r : List (List UInt8)} {K0 : World} (hm : Split_m s sep = some r) (M : Nat → Prop) (w : World) (hG : GlbM Tryd.prog M w) (hk : Base M K0 w) (hw0 : Own M w [] w) : Calls Tryd.prog 10 #[strV s, strV sep] w (fun e w' => ∃ X : Value × World, e = .returned (X.1) ∧ Own M w (kn M w.heap.size K0 X.2 :: []) w' ∧ Arr X.2 X.1 1 (r.map scell)) := split_own rlay_146 (by kernel_rfl) (by kernel_rfl) hm M w hG hk hw0
theorem Cut_w {s sep : List UInt8} {r : List UInt8 × List UInt8 × Bool} (w : World) (hm : Cut_m s sep = some r) (hg : Glb Tryd.prog w) : Calls Tryd.prog 58 #[strV s, strV sep] w (fun e w' => e = .returned (.tuple #[strV r.1, strV r.2.1, .bool r.2.2]) ∧ Grow w w') := cut_own rlay_145 (by kernel_rfl) w hm hg
theorem TrimPrefix_w {s p r : List UInt8} (w : World) (hm : TrimPrefix_m s p = some r) : Calls Tryd.prog 56 #[strV s, strV p] w (fun e w' => e = .returned (strV r) ∧ Grow w w') := trim_own rlay_101 w hm
theorem CutPrefix_w {s p : List UInt8} {r : List UInt8 × Bool} (w : World) (hm : CutPrefix_m s p = some r) : Calls Tryd.prog 57 #[strV s, strV p] w (fun e w' => e = .returned (.tuple #[strV r.1, .bool r.2]) ∧ Grow w w') := cutp_own rlay_103 w hm
theorem ParseInt_w {s : List UInt8} {b z : Int} {r : Int × Bool} {K0 : World} (hm : ParseInt_m s b z = some r) (M : Nat → Prop) (w : World) (hG : GlbM Tryd.prog M w) (hk : Base M K0 w) (hw0 : Own M w [] w) : Calls Tryd.prog 55 #[strV s, .int .i64 b, .int .i64 z] w (fun e w' => ∃ X : Value × World, e = .returned (.tuple #[.int .i64 r.1, X.1]) ∧ Own M w (kn M w.heap.size K0 X.2 :: []) w' ∧ ErrV X.1 r.2) := parseInt_own rlay_174 hm M w hG hk hw0
end Go.Proofs.YtaimbkndebaaiacDoor
end
section
namespace Go.Proofs.YtaimbkndebaaiacDoor
open Go.Rd
open TLib TLibR
namespace TNum0
theorem en48 : Go.Rd.Enters Tryd.prog 48 := eT Tryd.func48
end TNum0
open TNum0
theorem text_number_w {n_ : Int} {r : List UInt8} (w : World) (hm : text_number_m n_ = some r) (hGl0 : Glb Tryd.prog w) : Calls Tryd.prog 34 #[.int .i64 n_] w (fun e w' => e = .returned (strV r) ∧ Grow w w') := by
 unfold text_number_m at hm
 have hk := Base.rfl (w := w)
 refine calls_of_WC (n := 5) (args := [i_ n_]) Tryd.func34 Z Z (nl Z) ?_ (Own.startK hk (Own.start w))
 have hGl := GlbM.of hGl0
 refine sr (wa Z (ns (wm Z ?_)))
 obtain ⟨x1, hx2, hm3⟩ := bd_some hm; clear hm
 refine wq Z (QV.call en48 (ec Z (ec Z eN)) (fun w hw => have h := FormatInt_w w hx2 (hGl.at hw); h)) (wa Z (nt (WC.ret ?_)))
 obtain rfl := (eq_of_some hm3).symm
 exact WQ.ret1 Z Z fun w hw => kg hw
end Go.Proofs.YtaimbkndebaaiacDoor
end
section
namespace Go.Proofs.YtaimbkndebaaiacDoor
open Go.Rd
open TLib TLibR TNum0
namespace TNum
end TNum
open TNum
end Go.Proofs.YtaimbkndebaaiacDoor
end
section
namespace Go.Proofs.YtaimbkndebaaiacDoor
open Go.Rd
open TLib TLibR TNum0 TNum
namespace TLoop
theorem ag25 : AggT Tryd.prog 25 3 := ⟨_, Tryd.underlying25, rfl, by kernel_rfl⟩
theorem ag45 : AggT Tryd.prog 45 2 := ⟨_, Tryd.underlying45, rfl, by kernel_rfl⟩
theorem ag47 : AggT Tryd.prog 47 9 := ⟨_, Tryd.underlying47, rfl, by kernel_rfl⟩
theorem en25 : Go.Rd.Enters Tryd.prog 25 := eT Tryd.func25
theorem en26 : Go.Rd.Enters Tryd.prog 26 := eT Tryd.func26
theorem en30 : Go.Rd.Enters Tryd.prog 30 := eT Tryd.func30
theorem en31 : Go.Rd.Enters Tryd.prog 31 := eT Tryd.func31
theorem en43 : Go.Rd.Enters Tryd.prog 43 := eT Tryd.func43
theorem en44 : Go.Rd.Enters Tryd.prog 44 := eT Tryd.func44
theorem en45 : Go.Rd.Enters Tryd.prog 45 := eT Tryd.func45
theorem eq45 : EqT Tryd.prog 45 2 := ⟨by kernel_rfl, ⟨_, Tryd.underlying45⟩, by kernel_rfl, by kernel_rfl⟩
theorem fd25_0 : FieldT Tryd.prog 25 0 0 := fT 0 Tryd.underlying25
theorem fd25_1 : FieldT Tryd.prog 25 1 1 := fT 0 Tryd.underlying25
theorem fd25_2 : FieldT Tryd.prog 25 2 2 := fT 0 Tryd.underlying25
theorem fd45_0 : FieldT Tryd.prog 45 0 0 := fT 0 Tryd.underlying45
theorem fd45_1 : FieldT Tryd.prog 45 1 1 := fT 0 Tryd.underlying45
theorem fd47_0 : FieldT Tryd.prog 47 0 0 := fT 0 Tryd.underlying47
theorem fd47_1 : FieldT Tryd.prog 47 1 1 := fT 1 Tryd.underlying47
theorem fd47_2 : FieldT Tryd.prog 47 2 3 := fT 1 Tryd.underlying47
theorem fd47_3 : FieldT Tryd.prog 47 3 5 := fT 0 Tryd.underlying47
theorem fd47_4 : FieldT Tryd.prog 47 4 6 := fT 0 Tryd.underlying47
theorem fd47_5 : FieldT Tryd.prog 47 5 7 := fT 0 Tryd.underlying47
theorem fd47_6 : FieldT Tryd.prog 47 6 8 := fT 0 Tryd.underlying47
theorem pl2 : Plain Tryd.prog 2 := ⟨_, Tryd.underlying2, rfl⟩
theorem pl22 : Plain Tryd.prog 22 := ⟨_, Tryd.underlying22, rfl⟩
theorem pl23 : Plain Tryd.prog 23 := ⟨_, Tryd.underlying23, rfl⟩
theorem pl3 : Plain Tryd.prog 3 := ⟨_, Tryd.underlying3, rfl⟩
theorem sl22 : SliceT Tryd.prog 22 3 1 := ⟨Tryd.underlying22, by kernel_rfl⟩
theorem sl23 : SliceT Tryd.prog 23 47 9 := ⟨Tryd.underlying23, by kernel_rfl⟩
theorem sl83 : SliceT Tryd.prog 83 45 2 := ⟨Tryd.underlying83, by kernel_rfl⟩
theorem sz45 : SizeT Tryd.prog 45 2 := by unfold SizeT; kernel_rfl
theorem sz47 : SizeT Tryd.prog 47 9 := by unfold SizeT; kernel_rfl
theorem sz_83 : SliceZ Tryd.prog 83 45 2 [.int .i64 0, .int .i64 0] := ⟨Tryd.underlying83, by kernel_rfl⟩
theorem ze45 : ZeroT Tryd.prog 45 [.int .i64 0, .int .i64 0] := by unfold ZeroT; kernel_rfl
theorem ze47 : ZeroT Tryd.prog 47 [.int .i64 0, .int .i64 0, .int .i64 0, .int .i64 0, .int .i64 0, .int .i64 0, .int .i64 0, .int .i64 0, .int .i64 0] := by unfold ZeroT; kernel_rfl
end TLoop
open TLoop
theorem loop_in_w {n_ from_ below : Int} {r : Bool} (w : World) (hm : loop_in_m n_ from_ below = some r)  : Calls Tryd.prog 25 #[.int .i64 n_, .int .i64 from_, .int .i64 below] w (fun e w' => e = .returned (.bool r) ∧ Grow w w') := by
 unfold loop_in_m at hm
 have hk := Base.rfl (w := w)
 refine calls_of_WC (n := 15) (args := [i_ n_, i_ from_, i_ below]) Tryd.func25 Z Z (nl Z) ?_ (Own.startK hk (Own.start w))
 refine sr (wa Z (ns (wm Z (wm Z (wq Z (QV.geq Z Z Z Z) (wm Z (gp Z (fun hG => QV.move Z Z) (gp Z (fun hG => QV.move Z Z) (gp Z (fun hG => QV.lss Z hG Z hG) ?_)))))))))
 refine wq Z (QV.pickAnd Z Z Z (fun h => h)) (wa Z (nt (WC.ret ?_)))
 obtain rfl := (eq_of_some hm).symm
 exact WQ.ret1 Z Z fun w hw => kg hw
theorem loop_Uses_w {s : Stm} {r : List Rf} {K0 : World} (hm : loop_Uses_m s = some r)  (M : Nat → Prop) (w : World) (hk : Base M K0 w) (hw0 : Own M w [] w) : Calls Tryd.prog 43 #[.agg #[.int .i64 s.op, .int .i64 s.a.st, .int .i64 s.a.bk, .int .i64 s.b.st, .int .i64 s.b.bk, .int .i64 s.ar, .int .i64 s.sp, .int .i64 s.pl, .int .i64 s.n]] w (fun e w' => ∃ X : Value × World, e = .returned (X.1) ∧ Own M w (kn M w.heap.size K0 X.2 :: []) w' ∧ Arr X.2 X.1 2 (r.map Rf.cells)) := by
 unfold loop_Uses_m at hm
 refine calls_of_WC (n := 19) (args := [.agg #[i_ s.op, i_ s.a.st, i_ s.a.bk, i_ s.b.st, i_ s.b.bk, i_ s.ar, i_ s.sp, i_ s.pl, i_ s.n]]) Tryd.func43 Z Z (nl Z) ?_ (Own.startK hk hw0)
 refine sr (WL.effect Z ?_)
 refine (EV.boxAgg (by decide) Z Z (fun b1 => ?_))
 refine wa Z (nt (WC.seq (WC.block (sr (wf fd47_0 Z (wl pl3 Z (Own.cell 0 Z Z) (wq Z (QV.eql Z Z Z Z) (wa Z (nt ?_)))))))))
 refine wc Z hm (fun h2 hm3 => ?_) (fun h2 hm6 => ?_) <;> clear hm
 ·skip
  refine sr (wf fd47_1 Z (wq Z (QV.loadAgg ag45 Z Z Z (fun w hw => (Own.cellsBlk 0 Z w hw).sub 1 2 Z)) (WL.effect Z ?_)))
  refine (EV.buildSlice (by decide) sz_83 (by decide) (by decide) (ps := [(0, .tmp 8)]) (cells := [i_ s.a.st, i_ s.a.bk]) (ec Z eN) (by kernel_rfl) (fun b4 => ?_))
  refine wa Z (nt (WC.ret (kr (tr ?_))))
  obtain rfl := (eq_of_some hm3).symm
  refine WK.of (fun w hw => hw.blkVec Rf.cells ([s.a] : List Rf) Z Rf.cells_len (nl Z)) ?_
  refine WK.of (C' := Own M w [kn M w.heap.size K0 K0, vec (blkSlice b4 1 1) 45 2 (List.map Rf.cells [s.a]), blk b1 s.cells 47]) (pk [2, 0, 1]) ?_
  refine WK.freeze hk (fun k5 hle5 hr5 => ?_)
  have hA5 := vec_arr hr5
  refine WQ.ret1 Z Z (fun w hw => ?_)
  exact ⟨((blkSlice b4 1 1), k5), Z, hw.pick [0] (by decide), hA5⟩
 refine sr (wf fd47_0 Z (wl pl3 Z (Own.cell 0 Z Z) (wq Z (QV.gtr Z Z Z Z) (wa Z (nt ?_)))))
 refine wc Z hm6 (fun h7 hm8 => ?_) (fun h7 hm11 => ?_) <;> clear hm6
 ·skip
  refine sr (wf fd47_1 Z (wq Z (QV.loadAgg ag45 Z Z Z (fun w hw => (Own.cellsBlk 0 Z w hw).sub 1 2 Z)) (wf fd47_2 Z (wq Z (QV.loadAgg ag45 Z Z Z (fun w hw => (Own.cellsBlk 0 Z w hw).sub 3 2 Z)) (WL.effect Z ?_)))))
  refine (EV.buildSlice (by decide) sz_83 (by decide) (by decide) (ps := [(0, .tmp 15), (1, .tmp 17)]) (cells := [i_ s.a.st, i_ s.a.bk, i_ s.b.st, i_ s.b.bk]) (ec Z (ec Z eN)) (by kernel_rfl) (fun b9 => ?_))
  refine wa Z (nt (WC.ret (kr (tr ?_))))
  obtain rfl := (eq_of_some hm8).symm
  refine WK.of (fun w hw => hw.blkVec Rf.cells ([s.a, s.b] : List Rf) Z Rf.cells_len (nl Z)) ?_
  refine WK.of (C' := Own M w [kn M w.heap.size K0 K0, vec (blkSlice b9 2 2) 45 2 (List.map Rf.cells [s.a, s.b]), blk b1 s.cells 47]) (pk [2, 0, 1]) ?_
  refine WK.freeze hk (fun k10 hle10 hr10 => ?_)
  have hA10 := vec_arr hr10
  refine WQ.ret1 Z Z (fun w hw => ?_)
  exact ⟨((blkSlice b9 2 2), k10), Z, hw.pick [0] (by decide), hA10⟩
 refine sk (WQ.block (WQ.then (sr (wa Z (nt (WC.ret ?_))))))
 obtain rfl := (eq_of_some hm11).symm
 refine WQ.ret1 Z Z (fun w hw => ?_)
 exact ⟨(.slice none 0 0, K0), Z, hw.pick [1] (by decide), Arr.nil⟩
theorem loop_ref_w {v_l_logs v_l_body v_l_outs : Value} {l : Lp} {k_ : Int} {r_ : Rf} {r : Bool} (w : World) (hm : loop_ref_m l k_ r_ = some r) (h_l_logs : Arr w v_l_logs 1 (l.logs.map icell)) (h_l_body : Arr w v_l_body 9 (l.body.map Stm.cells)) (h_l_outs : Arr w v_l_outs 1 (l.outs.map icell)) : Calls Tryd.prog 44 #[.agg #[v_l_logs, v_l_body, v_l_outs], .int .i64 k_, .agg #[.int .i64 r_.st, .int .i64 r_.bk]] w (fun e w' => e = .returned (.bool r) ∧ Grow w w') := by
 unfold loop_ref_m at hm
 have hk := Base.rfl (w := w)
 refine calls_of_WC (n := 24) (args := [.agg #[v_l_logs, v_l_body, v_l_outs], i_ k_, .agg #[i_ r_.st, i_ r_.bk]]) Tryd.func44 Z Z (nl Z) ?_ (Own.startK hk (Own.start w))
 refine sr (WL.effect Z ?_)
 refine (EV.boxAgg (by decide) Z Z (fun b1 => ?_))
 refine WL.effect Z ?_
 refine (EV.boxAgg (by decide) Z Z (fun b2 => ?_))
 refine wa Z (ns (wf fd25_1 Z (wl pl23 Z (Own.cell 1 Z Z) (wq Z (QV.lenS Tryd.underlying23 Z Z h_l_body.lenMap) (wa Z (nt (WC.seq (sr (wf fd45_1 Z (wl pl3 Z (Own.cell 0 Z Z) (wq Z (QV.eql Z Z Z Z) ?_)))))))))))
 refine nt ?_
 refine wc Z hm (fun h3 hm4 => ?_) (fun h3 hm11 => ?_) <;> clear hm
 ·skip
  refine WC.region (wm Z (wa Z (ns (wf fd45_1 Z (wl pl3 Z (Own.cell 0 Z Z) ?_)))))
  obtain ⟨x5, hx6, hm7⟩ := bd_some hm4; clear hm4
  refine wq Z (QV.call en25 (ec Z (ec Z (ec Z eN))) (fun w hw => have h := loop_in_w w hx6 ; h)) (wm Z (gp Z (fun hG => QV.fieldAddr fd45_0 Z Z) (gp Z (fun hG => QV.load pl3 Z hG (Own.cell 0 Z Z)) (gp Z (fun hG => QV.move Z Z) ?_))))
  obtain ⟨x8, hx9, hm10⟩ := bdG_some hm7; clear hm7
  refine gp Z (fun hG => QV.call en25 (EvAll.cons Z hG (ec Z (EvAll.cons Z hG eN))) (fun w hw => have h := loop_in_w w (hx9 hG) ; h)) (wq Z (QV.pickAnd Z Z Z (fun h => h)) (wa Z (nt (WC.ret ?_))))
  obtain rfl := (eq_of_some hm10).symm
  exact WQ.ret1 Z Z fun w hw => kg hw
 refine sk (WQ.then (sr (wf fd45_1 Z (wl pl3 Z (Own.cell 0 Z Z) ?_))))
 obtain ⟨x12, hx13, hm14⟩ := bd_some hm11; clear hm11
 refine wq Z (QV.call en25 (ec Z (ec Z (ec Z eN))) (fun w hw => have h := loop_in_w w hx13 ; h)) (wm Z (gp Z (fun hG => QV.fieldAddr fd45_0 Z Z) (gp Z (fun hG => QV.load pl3 Z hG (Own.cell 0 Z Z)) (gp Z (fun hG => QV.move Z Z) ?_))))
 obtain ⟨x15, hx16, hm17⟩ := bdG_some hm14; clear hm14
 refine gp Z (fun hG => QV.call en25 (EvAll.cons Z hG (ec Z (EvAll.cons Z hG eN))) (fun w hw => have h := loop_in_w w (hx16 hG) ; h)) (wq Z (QV.pickAnd Z Z Z (fun h => h)) (wa Z (nt (WC.ret ?_))))
 obtain rfl := (eq_of_some hm17).symm
 exact WQ.ret1 Z Z fun w hw => kg hw
theorem loop_stmt_w {v_l_logs v_l_body v_l_outs : Value} {l : Lp} {k_ : Int} {r : Bool} (w : World) (hm : loop_stmt_m l k_ = some r) (h_l_logs : Arr w v_l_logs 1 (l.logs.map icell)) (h_l_body : Arr w v_l_body 9 (l.body.map Stm.cells)) (h_l_outs : Arr w v_l_outs 1 (l.outs.map icell)) : Calls Tryd.prog 26 #[.agg #[v_l_logs, v_l_body, v_l_outs], .int .i64 k_] w (fun e w' => e = .returned (.bool r) ∧ Grow w w') := by
 unfold loop_stmt_m at hm
 have hk := Base.rfl (w := w)
 refine calls_of_WC (n := 132) (args := [.agg #[v_l_logs, v_l_body, v_l_outs], i_ k_]) Tryd.func26 Z Z (nl Z) ?_ (Own.startK hk (Own.start w))
 refine sr (WL.effect Z ?_)
 refine (EV.boxAgg (by decide) Z Z (fun b1 => ?_))
 refine wa Z (ns (wf fd25_1 Z (wl pl23 Z (Own.cell 0 Z Z) (wm Z ?_))))
 obtain ⟨c2, hm3⟩ := cs hm; clear hm
 obtain ⟨p4, hp5⟩ := h_l_body.lenMap.ix (sz := 9) ln_len c2
 refine wq Z (QV.indexSlice sl23 Z Z Z Z hp5) (wq Z (QV.loadAgg ag47 Z Z Z (fun w hw => ((Own.karr 1 Z hk h_l_body) w hw).ele hp5 c2)) (WL.effect Z ?_))
 refine (EV.alloc (by decide) ze47 (fun b6 => ?_))
 refine WL.effect Z ?_
 refine (EV.store 0 Z Z Z Z Z Z (vs := (Stm.cells (ele l.body k_))) (show Value.cells _ = List.toArray _ from Z) sz47 (nl Z) (oc Z (oc Z (oc Z (oc Z (oc Z (oc Z (oc Z (oc Z (oc Z one_nil))))))))) ?_)
 refine ns (wq Z (QV.build (ps := []) (cells := [i_ 0, i_ 0]) eN (by kernel_rfl)) (WL.effect Z ?_))
 refine (EV.alloc (by decide) ze45 (fun b7 => ?_))
 refine WL.effect Z ?_
 refine (EV.store 0 Z Z Z Z Z Z (vs := [i_ 0, i_ 0]) (show Value.cells _ = List.toArray _ from Z) sz45 (nl Z) (oc Z (oc Z one_nil)) ?_)
 refine ns (wf fd47_3 Z (wl pl3 Z (Own.cell 1 Z Z) (wf fd25_0 Z (wl pl22 Z (Own.cell 2 Z Z) (wq Z (QV.lenS Tryd.underlying22 Z Z h_l_logs.lenMap) ?_)))))
 obtain ⟨x8, hx9, hm10⟩ := bd_some hm3; clear hm3
 refine wq Z (QV.call en25 (ec Z (ec Z (ec Z eN))) (fun w hw => have h := loop_in_w w hx9 ; h)) (wm Z (gp Z (fun hG => QV.fieldAddr fd47_4 Z Z) (gp Z (fun hG => QV.load pl3 Z hG (Own.cell 1 Z Z)) ?_)))
 obtain ⟨x11, hx12, hm13⟩ := bdG_some hm10; clear hm10
 refine gp Z (fun hG => QV.call en25 (EvAll.cons Z hG (ec Z (ec Z eN))) (fun w hw => have h := loop_in_w w (hx12 hG) ; h)) (wq Z (QV.pickAnd Z Z Z (fun h => h)) (wm Z (gp Z (fun hG => QV.fieldAddr fd47_5 Z Z) (gp Z (fun hG => QV.load pl3 Z hG (Own.cell 1 Z Z)) ?_))))
 obtain ⟨x14, hx15, hm16⟩ := bdG_some hm13; clear hm13
 refine gp Z (fun hG => QV.call en25 (EvAll.cons Z hG (ec Z (ec Z eN))) (fun w hw => have h := loop_in_w w (hx15 hG) ; h)) (wq Z (QV.pickAnd Z Z Z (fun h => h)) (wa Z (ns (wf fd47_3 Z (wl pl3 Z (Own.cell 1 Z Z) (wq Z (QV.eql Z Z Z Z) (wm Z (gp Z (fun hG => QV.fieldAddr fd47_4 Z Z) (gp Z (fun hG => QV.load pl3 Z hG (Own.cell 1 Z Z)) ?_)))))))))
 refine gp Z (fun hG => QV.eql Z hG Z Z) (wq Z (QV.pickAnd Z Z Z (fun h => h)) (wm Z (gp Z (fun hG => QV.fieldAddr fd47_5 Z Z) (gp Z (fun hG => QV.load pl3 Z hG (Own.cell 1 Z Z)) (gp Z (fun hG => QV.eql Z hG Z Z) (wq Z (QV.pickAnd Z Z Z (fun h => h)) (wa Z (nt (WC.seq (sr (wq Z (QV.loadAgg ag47 Z Z Z (Own.cellsBlk 1 Z)) ?_)))))))))))
 refine WL.effect Z ?_
 obtain ⟨x17, hx18, hm19⟩ := bd_some hm16; clear hm16
 refine EV.of (C' := Own noM w [kn noM w.heap.size w w, blk b7 [i_ 0, i_ 0] 45, blk b6 (Stm.cells (ele l.body k_)) 47, blk b1 [v_l_logs, v_l_body, v_l_outs] 25]) (pk [3, 0, 1, 2]) ?_
 refine (EV.callR (X := Value × World) (R := []) (fun X => X.1) (fun X => []) (fun X => X.2) (fun X => Arr X.2 X.1 2 (x17.map Rf.cells)) hk (fun _ h => by cases h; decide) en43 (ec Z eN) (fun M w h1 h2 => have h := loop_Uses_w hx18  M w h1 h2; h) (fun X20 hF20 hle20 => ?_))
 refine wq Z (QV.lenS Tryd.underlying83 Z Z hF20.lenMap) (wm Z (nt ?_))
 obtain ⟨o21, ho22, hm23⟩ := bd_some hm19; clear hm19; obtain ⟨n24, ho25⟩ := lp_some ho22
 refine WC.bloop1 (H2 := [kn noM w.heap.size w X20.2, blk b7 [i_ 0, i_ 0] 45, blk b6 (Stm.cells (ele l.body k_)) 47, blk b1 [v_l_logs, v_l_body, v_l_outs] 25]) (τ := [u_ 1 _, u_ 2 _, u_ 5 _, u_ 6 _, u_ 7 _, u_ 8 _, u_ 47 _, u_ 48 _]) (fun (x49_1 : Int) => [(49, (true, i_ x49_1))]) (fun x49_1 => []) (fun x49_1 m => iter (loop_stmt_L0 l k_ x17) m x49_1 = some o21) (fun x49_1 => o21 = .go x49_1) 0 n24 ho25 ⟨Z, Z, Z, Z, Z, Z, Z, Z, Z, trivial⟩ (pk [0, 1, 2, 3]) ?_ ?_
 ·skip
  rintro x49_1 rfl
  refine WQ.then (WC.seq (WC.block (sr (wf fd47_0 Z (wl pl3 Z (Own.cell 2 Z Z) (wq Z (QV.eql Z Z Z Z) (wa Z (nt ?_))))))))
  refine wc Z hm23 (fun h26 hm27 => ?_) (fun h26 hm28 => ?_) <;> clear hm23
  ·skip
   refine sr (wm Z (wm Z (gp Z (fun hG => QV.fieldAddr fd47_1 Z Z) (gp Z (fun hG => QV.loadAgg ag45 Z Z hG (fun w hw => (Own.cellsBlk 2 Z w hw).sub 1 2 Z)) (gp Z (fun hG => QV.loadAgg ag45 Z Z Z (Own.cellsBlk 1 Z)) (gp Z (fun hG => QV.eqlF eq45 (ns := [((ele l.body k_).a).st, ((ele l.body k_).a).bk]) (ms := [0, 0]) Z hG Z hG Z Z) (wq Z (QV.pickAnd Z Z Z (fun h => h)) (wm Z (gp Z (fun hG => QV.fieldAddr fd47_2 Z Z) ?_)))))))))
   refine gp Z (fun hG => QV.loadAgg ag45 Z Z hG (fun w hw => (Own.cellsBlk 2 Z w hw).sub 3 2 Z)) (gp Z (fun hG => QV.loadAgg ag45 Z Z Z (Own.cellsBlk 1 Z)) (gp Z (fun hG => QV.eqlF eq45 (ns := [((ele l.body k_).b).st, ((ele l.body k_).b).bk]) (ms := [0, 0]) Z hG Z hG Z Z) (wq Z (QV.pickAnd Z Z Z (fun h => h)) (wa Z (nt (WC.ret (kr (tr ?_))))))))
   obtain rfl := (eq_of_some hm27).symm
   exact WQ.ret1 Z Z fun w hw => kg hw
  refine sr (wf fd47_6 Z (wl pl2 Z (Own.cell 2 Z Z) (wq Z (QV.neq Z Z Z Z) (wa Z (nt ?_)))))
  refine wc Z hm28 (fun h29 hm30 => ?_) (fun h29 hm31 => ?_) <;> clear hm28
  ·skip
   refine sr (wa Z (nt (WC.ret (kr (tr ?_)))))
   obtain rfl := (eq_of_some hm30).symm
   exact WQ.ret1 Z Z fun w hw => kg hw
  refine sr (wf fd47_0 Z (wl pl3 Z (Own.cell 2 Z Z) (wq Z (QV.eql Z Z Z Z) (wa Z (nt ?_)))))
  refine wc Z hm31 (fun h32 hm33 => ?_) (fun h32 hm34 => ?_) <;> clear hm31
  ·skip
   refine sr (wm Z (wm Z (gp Z (fun hG => QV.fieldAddr fd47_1 Z Z) (gp Z (fun hG => QV.loadAgg ag45 Z Z hG (fun w hw => (Own.cellsBlk 2 Z w hw).sub 1 2 Z)) (gp Z (fun hG => QV.loadAgg ag45 Z Z Z (Own.cellsBlk 1 Z)) (gp Z (fun hG => QV.eqlF eq45 (ns := [((ele l.body k_).a).st, ((ele l.body k_).a).bk]) (ms := [0, 0]) Z hG Z hG Z Z) (wq Z (QV.pickAnd Z Z Z (fun h => h)) (wm Z (gp Z (fun hG => QV.fieldAddr fd47_2 Z Z) ?_)))))))))
   refine gp Z (fun hG => QV.loadAgg ag45 Z Z hG (fun w hw => (Own.cellsBlk 2 Z w hw).sub 3 2 Z)) (gp Z (fun hG => QV.loadAgg ag45 Z Z Z (Own.cellsBlk 1 Z)) (gp Z (fun hG => QV.eqlF eq45 (ns := [((ele l.body k_).b).st, ((ele l.body k_).b).bk]) (ms := [0, 0]) Z hG Z hG Z Z) (wq Z (QV.pickAnd Z Z Z (fun h => h)) (wa Z (nt (WC.ret (kr (tr ?_))))))))
   obtain rfl := (eq_of_some hm33).symm
   exact WQ.ret1 Z Z fun w hw => kg hw
  refine sr (wf fd47_0 Z (wl pl3 Z (Own.cell 2 Z Z) (wq Z (QV.eql Z Z Z Z) (wa Z (nt ?_)))))
  refine wc Z hm34 (fun h35 hm36 => ?_) (fun h35 hm37 => ?_) <;> clear hm34
  ·skip
   refine sr (wm Z (wm Z (gp Z (fun hG => QV.fieldAddr fd47_1 Z Z) (gp Z (fun hG => QV.loadAgg ag45 Z Z hG (fun w hw => (Own.cellsBlk 2 Z w hw).sub 1 2 Z)) (gp Z (fun hG => QV.loadAgg ag45 Z Z Z (Own.cellsBlk 1 Z)) (gp Z (fun hG => QV.eqlF eq45 (ns := [((ele l.body k_).a).st, ((ele l.body k_).a).bk]) (ms := [0, 0]) Z hG Z hG Z Z) (wq Z (QV.pickAnd Z Z Z (fun h => h)) (wm Z (gp Z (fun hG => QV.fieldAddr fd47_2 Z Z) ?_)))))))))
   refine gp Z (fun hG => QV.loadAgg ag45 Z Z hG (fun w hw => (Own.cellsBlk 2 Z w hw).sub 3 2 Z)) (gp Z (fun hG => QV.loadAgg ag45 Z Z Z (Own.cellsBlk 1 Z)) (gp Z (fun hG => QV.eqlF eq45 (ns := [((ele l.body k_).b).st, ((ele l.body k_).b).bk]) (ms := [0, 0]) Z hG Z hG Z Z) (wq Z (QV.pickAnd Z Z Z (fun h => h)) (wa Z (nt (WC.ret (kr (tr ?_))))))))
   obtain rfl := (eq_of_some hm36).symm
   exact WQ.ret1 Z Z fun w hw => kg hw
  refine sr (wf fd47_0 Z (wl pl3 Z (Own.cell 2 Z Z) (wq Z (QV.eql Z Z Z Z) (wa Z (nt ?_)))))
  refine wc Z hm37 (fun h38 hm39 => ?_) (fun h38 hm40 => ?_) <;> clear hm37
  ·skip
   refine sr (wm Z (wm Z (gp Z (fun hG => QV.fieldAddr fd47_2 Z Z) (gp Z (fun hG => QV.loadAgg ag45 Z Z hG (fun w hw => (Own.cellsBlk 2 Z w hw).sub 3 2 Z)) (gp Z (fun hG => QV.loadAgg ag45 Z Z Z (Own.cellsBlk 1 Z)) (gp Z (fun hG => QV.eqlF eq45 (ns := [((ele l.body k_).b).st, ((ele l.body k_).b).bk]) (ms := [0, 0]) Z hG Z hG Z Z) (wq Z (QV.pickAnd Z Z Z (fun h => h)) (wa Z (nt (WC.ret (kr (tr ?_))))))))))))
   obtain rfl := (eq_of_some hm39).symm
   exact WQ.ret1 Z Z fun w hw => kg hw
  refine sk (WQ.block (WQ.then (sr (wm Z (wm Z (gp Z (fun hG => QV.fieldAddr fd47_0 Z Z) (gp Z (fun hG => QV.load pl3 Z hG (Own.cell 2 Z Z)) (gp Z (fun hG => QV.subW Z hG Z Z) ?_))))))))
  obtain ⟨x41, hx42, hm43⟩ := bdG_some hm40; clear hm40
  refine gp Z (fun hG => QV.call en25 (EvAll.cons Z hG (ec Z (ec Z eN))) (fun w hw => have h := loop_in_w w (hx42 hG) ; h)) (wq Z (QV.pickAnd Z Z Z (fun h => h)) (wa Z (nt (WC.ret ?_))))
  obtain rfl := (eq_of_some hm43).symm
  exact WQ.ret1 Z Z fun w hw => kg hw
 rintro x49_1 m44 hI45
 obtain ⟨m46, s47, rfl, hm48, hn49⟩ := iter_step hI45; clear hI45; unfold loop_stmt_L0 at hm48
 refine sr (wq Z (QV.lss Z Z Z Z) (nt (WC.seq ?_)))
 refine wc Z hm48 (fun h50 hm51 => ?_) (fun h50 hm65 => ?_) <;> clear hm48
 ·skip
  refine sk (WQ.then (WC.seq (WC.block (sr ?_))))
  obtain ⟨c52, hm53⟩ := cs hm51; clear hm51
  obtain ⟨p54, hp55⟩ := hF20.lenMap.ix (sz := 2) ln_len c52
  refine wq Z (QV.indexSlice sl83 Z Z Z Z hp55) (wq Z (QV.loadAgg ag45 Z Z Z (fun w hw => ((Own.karr 0 Z hk hF20) w hw).ele hp55 c52)) (WL.effect Z ?_))
  refine (EV.alloc (by decide) ze45 (fun b56 => ?_))
  refine WL.effect Z ?_
  refine (EV.store 0 Z Z Z Z Z Z (vs := [i_ ((ele x17 x49_1).st), i_ ((ele x17 x49_1).bk)]) (show Value.cells _ = List.toArray _ from Z) sz45 (nl Z) (oc Z (oc Z one_nil)) ?_)
  refine ns (wq Z (QV.loadAgg ag25 Z Z Z (Own.cellsBlk 4 Z)) (wm Z (wq Z (QV.loadAgg ag45 Z Z Z (Own.cellsBlk 0 Z)) ?_)))
  obtain ⟨x57, hx58, hm59⟩ := bd_some hm53; clear hm53
  refine wq Z (QV.call en44 (ec Z (ec Z (ec Z eN))) (fun w hw => have h := loop_ref_w w hx58 ((Own.karr 1 Z hk (h_l_logs.le hle20)) w hw) ((Own.karr 1 Z hk (h_l_body.le hle20)) w hw) ((Own.karr 1 Z hk (h_l_outs.le hle20)) w hw); h)) (wq Z (QV.not Z Z) (nt ?_))
  refine wc Z hm59 (fun h60 hm61 => ?_) (fun h60 hm62 => ?_) <;> clear hm59
  ·skip
   refine sr (wa Z (nt (WC.ret (kr (tr (tr (kr (tr (tr ?_)))))))))
   obtain rfl := up_ret hm61 hn49
   obtain rfl := (eq_of_some hm23).symm
   exact WQ.ret1 Z Z fun w hw => kg hw
  refine sk (WQ.block (WQ.then (WC.region ?_)))
  obtain ⟨c63, hm64⟩ := cs hm62; clear hm62
  refine wq Z (QV.add Z Z Z Z c63) (wm Z (WL.nil ?_))
  exact WQ.again1 (x49_1 + 1) m46 (up_next hm64 hn49) (Nat.lt_succ_self _) ⟨Z, Z, Z, Z, Z, Z, Z, Z, Z, trivial⟩ (pk [1, 2, 3, 4])
 refine WC.exit (te (te (WQ.block_exit ?_)))
 exact WQ.out1 x49_1 (up_brk hm65 hn49) ⟨Z, Z, Z, Z, Z, Z, Z, Z, Z, trivial⟩ (pk [0, 1, 2, 3])
theorem loop_May_w {v_l_logs v_l_body v_l_outs : Value} {l : Lp} {r : Bool} (w : World) (hm : loop_May_m l = some r) (h_l_logs : Arr w v_l_logs 1 (l.logs.map icell)) (h_l_body : Arr w v_l_body 9 (l.body.map Stm.cells)) (h_l_outs : Arr w v_l_outs 1 (l.outs.map icell)) : Calls Tryd.prog 12 #[.agg #[v_l_logs, v_l_body, v_l_outs]] w (fun e w' => e = .returned (.bool r) ∧ Grow w w') := by
 unfold loop_May_m at hm
 have hk := Base.rfl (w := w)
 refine calls_of_WC (n := 64) (args := [.agg #[v_l_logs, v_l_body, v_l_outs]]) Tryd.func12 Z Z (nl Z) ?_ (Own.startK hk (Own.start w))
 refine sr (WL.effect Z ?_)
 refine (EV.boxAgg (by decide) Z Z (fun b1 => ?_))
 refine wa Z (nt (WC.seq (sr (wf fd25_0 Z (wl pl22 Z (Own.cell 0 Z Z) (wq Z (QV.lenS Tryd.underlying22 Z Z h_l_logs.lenMap) (wm Z (nt ?_))))))))
 obtain ⟨o2, ho3, hm4⟩ := bd_some hm; clear hm; obtain ⟨n5, ho6⟩ := lp_some ho3
 refine WC.bloop1 (H2 := [blk b1 [v_l_logs, v_l_body, v_l_outs] 25, kn noM w.heap.size w w]) (τ := [u_ 1 _, u_ 10 _, u_ 11 _]) (fun (x12_1 : Int) => [(12, (true, i_ x12_1))]) (fun x12_1 => []) (fun x12_1 m => iter (loop_May_L0 l) m x12_1 = some o2) (fun x12_1 => o2 = .go x12_1) 0 n5 ho6 ⟨Z, Z, Z, Z, trivial⟩ (pk [0, 1]) ?_ ?_
 ·skip
  rintro x12_1 rfl
  refine WQ.then (sr (wa Z (nt (WC.seq (sr (wf fd25_2 Z (wl pl22 Z (Own.cell 0 Z Z) (wq Z (QV.lenS Tryd.underlying22 Z Z h_l_outs.lenMap) (wm Z (nt ?_))))))))))
  obtain ⟨o7, ho8, hm9⟩ := bd_some hm4; clear hm4; obtain ⟨n10, ho11⟩ := lp_some ho8
  refine WC.bloop2 (H2 := [blk b1 [v_l_logs, v_l_body, v_l_outs] 25, kn noM w.heap.size w w]) (τ := [u_ 1 _, u_ 21 _, u_ 22 _]) (fun (last5_2 : Int) (x23_2 : Int) => [(5, (true, i_ last5_2)), (23, (true, i_ x23_2))]) (fun last5_2 x23_2 => []) (fun last5_2 x23_2 m => iter (loop_May_L2 l) m (last5_2, x23_2) = some o7) (fun last5_2 x23_2 => o7 = .go (last5_2, x23_2)) (-1) 0 n10 ho11 ⟨Z, Z, Z, Z, Z, trivial⟩ (pk [0, 1]) ?_ ?_
  ·skip
   rintro last5_2 x23_2 rfl
   refine WQ.then (WC.seq (sr (wf fd25_1 Z (wl pl23 Z (Own.cell 0 Z Z) (wq Z (QV.lenS Tryd.underlying23 Z Z h_l_body.lenMap) (wm Z (nt ?_)))))))
   obtain ⟨o12, ho13, hm14⟩ := bd_some hm9; clear hm9; obtain ⟨n15, ho16⟩ := lp_some ho13
   refine WC.bloop1 (H2 := [blk b1 [v_l_logs, v_l_body, v_l_outs] 25, kn noM w.heap.size w w]) (τ := [u_ 1 _, u_ 39 _]) (fun (x40_3 : Int) => [(40, (true, i_ x40_3))]) (fun x40_3 => []) (fun x40_3 m => iter (loop_May_L4 l) m x40_3 = some o12) (fun x40_3 => o12 = .go x40_3) 0 n15 ho16 ⟨Z, Z, Z, trivial⟩ (pk [0, 1]) ?_ ?_
   ·skip
    rintro x40_3 rfl
    refine WQ.then (sr (wf fd25_0 Z (wl pl22 Z (Own.cell 0 Z Z) (wq Z (QV.lenS Tryd.underlying22 Z Z h_l_logs.lenMap) (wq Z (QV.leq Z Z Z Z) (wm Z (gp Z (fun hG => QV.fieldAddr fd25_1 Z Z) (gp Z (fun hG => QV.load pl23 Z hG (Own.cell 0 Z Z)) (gp Z (fun hG => QV.lenS Tryd.underlying23 Z hG h_l_body.lenMap) (gp Z (fun hG => QV.gtr Z hG Z Z) ?_))))))))))
    refine wq Z (QV.pickAnd Z Z Z (fun h => h)) (wa Z (nt (WC.ret ?_)))
    obtain rfl := (eq_of_some hm14).symm
    exact WQ.ret1 Z Z fun w hw => kg hw
   rintro x40_3 m17 hI18
   obtain ⟨m19, s20, rfl, hm21, hn22⟩ := iter_step hI18; clear hI18; unfold loop_May_L4 at hm21
   refine sr (wq Z (QV.lss Z Z Z Z) (nt (WC.seq ?_)))
   refine wc Z hm21 (fun h23 hm24 => ?_) (fun h23 hm33 => ?_) <;> clear hm21
   ·skip
    refine sk (WQ.then (WC.seq (WC.block (sr (wm Z (wa Z (ns (wf fd25_1 Z (wl pl23 Z (Own.cell 0 Z Z) (wq Z (QV.lenS Tryd.underlying23 Z Z h_l_body.lenMap) (wq Z (QV.gtr Z Z Z Z) (wm Z (gn Z (fun hG => QV.loadAgg ag25 Z Z Z (Own.cellsBlk 0 Z)) ?_)))))))))))))
    refine gn Z (fun hG => QV.move Z Z) ?_
    obtain ⟨x25, hx26, hm27⟩ := bdG_some hm24; clear hm24
    refine gn Z (fun hG => QV.call en26 (EvAll.cons Z hG (EvAll.cons Z hG eN)) (fun w hw => have h := loop_stmt_w w (hx26 hG) ((Own.karr 1 Z hk h_l_logs) w hw) ((Own.karr 1 Z hk h_l_body) w hw) ((Own.karr 1 Z hk h_l_outs) w hw); h)) (gn Z (fun hG => QV.not Z hG) (wq Z (QV.pickOr Z Z Z (fun h => notF h)) (nt ?_)))
    refine wc Z hm27 (fun h28 hm29 => ?_) (fun h28 hm30 => ?_) <;> clear hm27
    ·skip
     refine sr (wa Z (nt (WC.ret (kr (tr (tr (kr (tr (tr ?_)))))))))
     obtain rfl := up_ret hm29 hn22
     obtain rfl := (eq_of_some hm14).symm
     exact WQ.ret1 Z Z fun w hw => kg hw
    refine sk (WQ.block (WQ.then (WC.region ?_)))
    obtain ⟨c31, hm32⟩ := cs hm30; clear hm30
    refine wq Z (QV.add Z Z Z Z c31) (wm Z (WL.nil ?_))
    exact WQ.again1 (x40_3 + 1) m19 (up_next hm32 hn22) (Nat.lt_succ_self _) ⟨Z, Z, Z, trivial⟩ (pk [0, 1])
   refine WC.exit (te (te (WQ.block_exit ?_)))
   exact WQ.out1 x40_3 (up_brk hm33 hn22) ⟨Z, Z, Z, trivial⟩ (pk [0, 1])
  rintro last5_2 x23_2 m34 hI35
  obtain ⟨m36, s37, rfl, hm38, hn39⟩ := iter_step hI35; clear hI35; unfold loop_May_L2 at hm38; simp only at hm38
  refine sr (wq Z (QV.lss Z Z Z Z) (nt (WC.seq ?_)))
  refine wc Z hm38 (fun h40 hm41 => ?_) (fun h40 hm56 => ?_) <;> clear hm38
  ·skip
   refine sk (WQ.then (WC.seq (WC.block (sr ?_))))
   obtain ⟨c42, hm43⟩ := cs hm41; clear hm41
   obtain ⟨p44, hp45⟩ := h_l_outs.lenMap.ix (sz := 1) ln_len c42
   refine wq Z (QV.indexSlice sl22 Z Z Z Z hp45) (wl pl3 Z (fun w hw => CellsAt.one 0 (((Own.karr 1 Z hk h_l_outs) w hw).ele hp45 c42) Z) (wa Z (nt (WC.seq (sr (wm Z (wm Z ?_)))))))
   obtain ⟨c46, hm47⟩ := cs hm43; clear hm43
   refine wq Z (QV.add Z Z Z Z c46) (wf fd25_1 Z (wl pl23 Z (Own.cell 0 Z Z) (wq Z (QV.lenS Tryd.underlying23 Z Z h_l_body.lenMap) ?_)))
   obtain ⟨x48, hx49, hm50⟩ := bd_some hm47; clear hm47
   refine wq Z (QV.call en25 (ec Z (ec Z (ec Z eN))) (fun w hw => have h := loop_in_w w hx49 ; h)) (wq Z (QV.not Z Z) (nt ?_))
   refine wc Z hm50 (fun h51 hm52 => ?_) (fun h51 hm53 => ?_) <;> clear hm50
   ·skip
    refine sr (wa Z (nt (WC.ret (tr (kr (tr (tr (kr (tr (tr ?_))))))))))
    obtain rfl := up_ret hm52 hn39
    obtain rfl := (eq_of_some hm9).symm
    exact WQ.ret1 Z Z fun w hw => kg hw
   refine sk (WQ.then (WC.region (wm Z (wa Z (WL.nil (WQ.block (WQ.then (WC.region ?_))))))))
   obtain ⟨c54, hm55⟩ := cs hm53; clear hm53
   refine wq Z (QV.add Z Z Z Z c54) (wm Z (WL.nil ?_))
   exact WQ.again2 (ele l.outs x23_2) (x23_2 + 1) m36 (up_next hm55 hn39) (Nat.lt_succ_self _) ⟨Z, Z, Z, Z, Z, trivial⟩ (pk [0, 1])
  refine WC.exit (te (te (WQ.block_exit ?_)))
  exact WQ.out2 last5_2 x23_2 (up_brk hm56 hn39) ⟨Z, Z, Z, Z, Z, trivial⟩ (pk [0, 1])
 rintro x12_1 m57 hI58
 obtain ⟨m59, s60, rfl, hm61, hn62⟩ := iter_step hI58; clear hI58; unfold loop_May_L0 at hm61
 refine sr (wq Z (QV.lss Z Z Z Z) (nt (WC.seq ?_)))
 refine wc Z hm61 (fun h63 hm64 => ?_) (fun h63 hm77 => ?_) <;> clear hm61
 ·skip
  refine sk (WQ.then (WC.seq (WC.block (sr ?_))))
  obtain ⟨c65, hm66⟩ := cs hm64; clear hm64
  obtain ⟨p67, hp68⟩ := h_l_logs.lenMap.ix (sz := 1) ln_len c65
  refine wq Z (QV.indexSlice sl22 Z Z Z Z hp68) (wl pl3 Z (fun w hw => CellsAt.one 0 (((Own.karr 1 Z hk h_l_logs) w hw).ele hp68 c65) Z) (wa Z (ns (wm Z ?_))))
  obtain ⟨x69, hx70, hm71⟩ := bd_some hm66; clear hm66
  refine wq Z (QV.call en25 (ec Z (ec Z (ec Z eN))) (fun w hw => have h := loop_in_w w hx70 ; h)) (wq Z (QV.not Z Z) (nt ?_))
  refine wc Z hm71 (fun h72 hm73 => ?_) (fun h72 hm74 => ?_) <;> clear hm71
  ·skip
   refine sr (wa Z (nt (WC.ret (kr (tr (tr (kr (tr (tr ?_)))))))))
   obtain rfl := up_ret hm73 hn62
   obtain rfl := (eq_of_some hm4).symm
   exact WQ.ret1 Z Z fun w hw => kg hw
  refine sk (WQ.block (WQ.then (WC.region ?_)))
  obtain ⟨c75, hm76⟩ := cs hm74; clear hm74
  refine wq Z (QV.add Z Z Z Z c75) (wm Z (WL.nil ?_))
  exact WQ.again1 (x12_1 + 1) m59 (up_next hm76 hn62) (Nat.lt_succ_self _) ⟨Z, Z, Z, Z, trivial⟩ (pk [0, 1])
 refine WC.exit (te (te (WQ.block_exit ?_)))
 exact WQ.out1 x12_1 (up_brk hm77 hn62) ⟨Z, Z, Z, Z, trivial⟩ (pk [0, 1])
theorem R2_Within_w {n_ least most : Int} {r : Bool} (w : World) (hm : R2_Within_m n_ least most = some r)  : Calls Tryd.prog 30 #[.int .i64 n_, .int .i64 least, .int .i64 most] w (fun e w' => e = .returned (.bool r) ∧ Grow w w') := by
 unfold R2_Within_m at hm
 have hk := Base.rfl (w := w)
 refine calls_of_WC (n := 15) (args := [i_ n_, i_ least, i_ most]) Tryd.func30 Z Z (nl Z) ?_ (Own.startK hk (Own.start w))
 refine sr (wa Z (ns (wm Z (wm Z (wq Z (QV.geq Z Z Z Z) (wm Z (gp Z (fun hG => QV.move Z Z) (gp Z (fun hG => QV.move Z Z) (gp Z (fun hG => QV.leq Z hG Z hG) ?_)))))))))
 refine wq Z (QV.pickAnd Z Z Z (fun h => h)) (wa Z (nt (WC.ret ?_)))
 obtain rfl := (eq_of_some hm).symm
 exact WQ.ret1 Z Z fun w hw => kg hw
theorem R2_Uses_w {s : Stm} {r : List Rf} {K0 : World} (hm : R2_Uses_m s = some r)  (M : Nat → Prop) (w : World) (hk : Base M K0 w) (hw0 : Own M w [] w) : Calls Tryd.prog 45 #[.agg #[.int .i64 s.op, .int .i64 s.a.st, .int .i64 s.a.bk, .int .i64 s.b.st, .int .i64 s.b.bk, .int .i64 s.ar, .int .i64 s.sp, .int .i64 s.pl, .int .i64 s.n]] w (fun e w' => ∃ X : Value × World, e = .returned (X.1) ∧ Own M w (kn M w.heap.size K0 X.2 :: []) w' ∧ Arr X.2 X.1 2 (r.map Rf.cells)) := by
 unfold R2_Uses_m at hm
 refine calls_of_WC (n := 17) (args := [.agg #[i_ s.op, i_ s.a.st, i_ s.a.bk, i_ s.b.st, i_ s.b.bk, i_ s.ar, i_ s.sp, i_ s.pl, i_ s.n]]) Tryd.func45 Z Z (nl Z) ?_ (Own.startK hk hw0)
 refine sr (WL.effect Z ?_)
 refine (EV.boxAgg (by decide) Z Z (fun b1 => ?_))
 refine wa Z (nt (WC.seq (sr (wf fd47_0 Z (wl pl3 Z (Own.cell 0 Z Z) (wq Z (QV.eql Z Z Z Z) (nt ?_)))))))
 refine wc Z hm (fun h2 hm3 => ?_) (fun h2 hm6 => ?_) <;> clear hm
 ·skip
  refine sr (wf fd47_1 Z (wq Z (QV.loadAgg ag45 Z Z Z (fun w hw => (Own.cellsBlk 0 Z w hw).sub 1 2 Z)) (WL.effect Z ?_)))
  refine (EV.buildSlice (by decide) sz_83 (by decide) (by decide) (ps := [(0, .tmp 7)]) (cells := [i_ s.a.st, i_ s.a.bk]) (ec Z eN) (by kernel_rfl) (fun b4 => ?_))
  refine wa Z (nt (WC.ret (tr ?_)))
  obtain rfl := (eq_of_some hm3).symm
  refine WK.of (fun w hw => hw.blkVec Rf.cells ([s.a] : List Rf) Z Rf.cells_len (nl Z)) ?_
  refine WK.of (C' := Own M w [kn M w.heap.size K0 K0, vec (blkSlice b4 1 1) 45 2 (List.map Rf.cells [s.a]), blk b1 s.cells 47]) (pk [2, 0, 1]) ?_
  refine WK.freeze hk (fun k5 hle5 hr5 => ?_)
  have hA5 := vec_arr hr5
  refine WQ.ret1 Z Z (fun w hw => ?_)
  exact ⟨((blkSlice b4 1 1), k5), Z, hw.pick [0] (by decide), hA5⟩
 refine sk (WQ.then (WC.seq (sr (wf fd47_0 Z (wl pl3 Z (Own.cell 0 Z Z) (wq Z (QV.gtr Z Z Z Z) (nt ?_)))))))
 refine wc Z hm6 (fun h7 hm8 => ?_) (fun h7 hm11 => ?_) <;> clear hm6
 ·skip
  refine sr (wf fd47_1 Z (wq Z (QV.loadAgg ag45 Z Z Z (fun w hw => (Own.cellsBlk 0 Z w hw).sub 1 2 Z)) (wf fd47_2 Z (wq Z (QV.loadAgg ag45 Z Z Z (fun w hw => (Own.cellsBlk 0 Z w hw).sub 3 2 Z)) (WL.effect Z ?_)))))
  refine (EV.buildSlice (by decide) sz_83 (by decide) (by decide) (ps := [(0, .tmp 13), (1, .tmp 15)]) (cells := [i_ s.a.st, i_ s.a.bk, i_ s.b.st, i_ s.b.bk]) (ec Z (ec Z eN)) (by kernel_rfl) (fun b9 => ?_))
  refine wa Z (nt (WC.ret (tr ?_)))
  obtain rfl := (eq_of_some hm8).symm
  refine WK.of (fun w hw => hw.blkVec Rf.cells ([s.a, s.b] : List Rf) Z Rf.cells_len (nl Z)) ?_
  refine WK.of (C' := Own M w [kn M w.heap.size K0 K0, vec (blkSlice b9 2 2) 45 2 (List.map Rf.cells [s.a, s.b]), blk b1 s.cells 47]) (pk [2, 0, 1]) ?_
  refine WK.freeze hk (fun k10 hle10 hr10 => ?_)
  have hA10 := vec_arr hr10
  refine WQ.ret1 Z Z (fun w hw => ?_)
  exact ⟨((blkSlice b9 2 2), k10), Z, hw.pick [0] (by decide), hA10⟩
 refine sk (WQ.then (sr (wa Z (nt (WC.ret ?_)))))
 obtain rfl := (eq_of_some hm11).symm
 refine WQ.ret1 Z Z (fun w hw => ?_)
 exact ⟨(.slice none 0 0, K0), Z, hw.pick [1] (by decide), Arr.nil⟩
theorem R2_stmt_w {v_l_logs v_l_body v_l_outs : Value} {l : Lp} {k_ : Int} {r : Bool} (w : World) (hm : R2_stmt_m l k_ = some r) (h_l_logs : Arr w v_l_logs 1 (l.logs.map icell)) (h_l_body : Arr w v_l_body 9 (l.body.map Stm.cells)) (h_l_outs : Arr w v_l_outs 1 (l.outs.map icell)) : Calls Tryd.prog 31 #[.agg #[v_l_logs, v_l_body, v_l_outs], .int .i64 k_] w (fun e w' => e = .returned (.bool r) ∧ Grow w w') := by
 unfold R2_stmt_m at hm
 have hk := Base.rfl (w := w)
 refine calls_of_WC (n := 142) (args := [.agg #[v_l_logs, v_l_body, v_l_outs], i_ k_]) Tryd.func31 Z Z (nl Z) ?_ (Own.startK hk (Own.start w))
 refine sr (WL.effect Z ?_)
 refine (EV.boxAgg (by decide) Z Z (fun b1 => ?_))
 refine wa Z (ns (wf fd25_1 Z (wl pl23 Z (Own.cell 0 Z Z) (wm Z ?_))))
 obtain ⟨c2, hm3⟩ := cs hm; clear hm
 obtain ⟨p4, hp5⟩ := h_l_body.lenMap.ix (sz := 9) ln_len c2
 refine wq Z (QV.indexSlice sl23 Z Z Z Z hp5) (wq Z (QV.loadAgg ag47 Z Z Z (fun w hw => ((Own.karr 1 Z hk h_l_body) w hw).ele hp5 c2)) (WL.effect Z ?_))
 refine (EV.alloc (by decide) ze47 (fun b6 => ?_))
 refine WL.effect Z ?_
 refine (EV.store 0 Z Z Z Z Z Z (vs := (Stm.cells (ele l.body k_))) (show Value.cells _ = List.toArray _ from Z) sz47 (nl Z) (oc Z (oc Z (oc Z (oc Z (oc Z (oc Z (oc Z (oc Z (oc Z one_nil))))))))) ?_)
 refine ns (wq Z (QV.loadAgg ag47 Z Z Z (Own.cellsBlk 0 Z)) (WL.effect Z ?_))
 obtain ⟨x7, hx8, hm9⟩ := bd_some hm3; clear hm3
 refine EV.of (C' := Own noM w [kn noM w.heap.size w w, blk b6 (Stm.cells (ele l.body k_)) 47, blk b1 [v_l_logs, v_l_body, v_l_outs] 25]) (pk [2, 0, 1]) ?_
 refine (EV.callR (X := Value × World) (R := []) (fun X => X.1) (fun X => []) (fun X => X.2) (fun X => Arr X.2 X.1 2 (x7.map Rf.cells)) hk (fun _ h => by cases h; decide) en45 (ec Z eN) (fun M w h1 h2 => have h := R2_Uses_w hx8  M w h1 h2; h) (fun X10 hF10 hle10 => ?_))
 refine wa Z (nt (WC.seq (sr (wa Z (nt ?_)))))
 obtain ⟨o11, ho12, hm13⟩ := bd_some hm9; clear hm9; obtain ⟨n14, ho15⟩ := lp_some ho12
 refine WC.bloop1 (H2 := [kn noM w.heap.size w X10.2, blk b6 (Stm.cells (ele l.body k_)) 47, blk b1 [v_l_logs, v_l_body, v_l_outs] 25]) (τ := [u_ 1 _, u_ 2 _, u_ 5 _, u_ 6 _]) (fun (i7_1 : Int) => [(7, (true, i_ i7_1))]) (fun i7_1 => []) (fun i7_1 m => iter (R2_stmt_L0 l k_ x7) m i7_1 = some o11) (fun i7_1 => o11 = .go i7_1) 0 n14 ho15 ⟨Z, Z, Z, Z, Z, trivial⟩ (pk [0, 1, 2]) ?_ ?_
 ·skip
  rintro i7_1 rfl
  refine WQ.then (WC.seq (sr (wm Z (wq Z (QV.lenS Tryd.underlying83 Z Z hF10.lenMap) (wq Z (QV.lss Z Z Z Z) (wm Z (gp Z (fun hG => QV.fieldAddr fd47_2 Z Z) (gp Z (fun hG => QV.fieldAddr fd45_0 Z hG) (gp Z (fun hG => QV.load pl3 Z hG (Own.cell 1 Z Z)) (gp Z (fun hG => QV.neq Z hG Z Z) (gp Z (fun hG => QV.move Z hG) ?_)))))))))))
  refine gnC Z (fun hG => QV.fieldAddr fd47_2 Z Z) (gnC Z (fun hG => QV.fieldAddr fd45_1 Z hG) (gnC Z (fun hG => QV.load pl3 Z hG (Own.cell 1 Z Z)) (gnC Z (fun hG => QV.neq Z hG Z Z) (gp Z (fun hG => QV.pickOr Z hG Z (fun h => andN hG h)) (wq Z (QV.pickAnd Z Z Z (fun h => h)) (wm Z (gn Z (fun hG => QV.move Z Z) (gn Z (fun hG => QV.lenS Tryd.underlying83 Z hG hF10.lenMap) (gn Z (fun hG => QV.lss Z hG Z Z) ?_)))))))))
  refine gn Z (fun hG => QV.move Z hG) (gpC Z (fun hG => QV.fieldAddr fd47_1 Z Z) (gpC Z (fun hG => QV.fieldAddr fd45_0 Z hG) (gpC Z (fun hG => QV.load pl3 Z hG (Own.cell 1 Z Z)) (gpC Z (fun hG => QV.neq Z hG Z Z) (gpC Z (fun hG => QV.move Z hG) (gnC Z (fun hG => QV.fieldAddr fd47_1 Z Z) (gnC Z (fun hG => QV.fieldAddr fd45_1 Z hG) (gnC Z (fun hG => QV.load pl3 Z hG (Own.cell 1 Z Z)) (gnC Z (fun hG => QV.neq Z hG Z Z) ?_)))))))))
  refine gpC Z (fun hG => QV.pickOr Z hG Z (fun h => andN hG h)) (gn Z (fun hG => QV.pickAnd Z hG Z (fun h => andT hG h)) (wq Z (QV.pickOr Z Z Z (fun h => notF h)) (nt ?_)))
  refine wc Z hm13 (fun h16 hm17 => ?_) (fun h16 hm18 => ?_) <;> clear hm13
  ·skip
   refine sr (wa Z (nt (WC.ret (tr ?_))))
   obtain rfl := (eq_of_some hm17).symm
   exact WQ.ret1 Z Z fun w hw => kg hw
  refine sk (WQ.then (WC.seq (sr (wf fd47_0 Z (wl pl3 Z (Own.cell 1 Z Z) (wq Z (QV.neq Z Z Z Z) (wm Z (gp Z (fun hG => QV.fieldAddr fd47_6 Z Z) (gp Z (fun hG => QV.load pl2 Z hG (Own.cell 1 Z Z)) (gp Z (fun hG => QV.neq Z hG Z Z) (wq Z (QV.pickAnd Z Z Z (fun h => h)) (nt ?_))))))))))))
  refine wc Z hm18 (fun h19 hm20 => ?_) (fun h19 hm21 => ?_) <;> clear hm18
  ·skip
   refine sr (wa Z (nt (WC.ret (tr ?_))))
   obtain rfl := (eq_of_some hm20).symm
   exact WQ.ret1 Z Z fun w hw => kg hw
  refine sk (WQ.then (WC.seq (sr (wf fd47_0 Z (wl pl3 Z (Own.cell 1 Z Z) (wq Z (QV.eql Z Z Z Z) (wm Z (gn Z (fun hG => QV.fieldAddr fd47_0 Z Z) (gn Z (fun hG => QV.load pl3 Z hG (Own.cell 1 Z Z)) (gn Z (fun hG => QV.eql Z hG Z Z) (wq Z (QV.pickOr Z Z Z (fun h => notF h)) (nt ?_))))))))))))
  refine wc Z hm21 (fun h22 hm23 => ?_) (fun h22 hm35 => ?_) <;> clear hm21
  ·skip
   refine sr (wf fd47_3 Z (wl pl3 Z (Own.cell 1 Z Z) (wf fd25_0 Z (wl pl22 Z (Own.cell 2 Z Z) (wq Z (QV.lenS Tryd.underlying22 Z Z (h_l_logs.le hle10).lenMap) ?_)))))
   obtain ⟨c24, hm25⟩ := cs hm23; clear hm23
   refine wq Z (QV.sub Z Z Z Z c24) ?_
   obtain ⟨x26, hx27, hm28⟩ := bd_some hm25; clear hm25
   refine wq Z (QV.call en30 (ec Z (ec Z (ec Z eN))) (fun w hw => have h := R2_Within_w w hx27 ; h)) (wm Z (gp Z (fun hG => QV.fieldAddr fd47_4 Z Z) (gp Z (fun hG => QV.load pl3 Z hG (Own.cell 1 Z Z)) ?_)))
   obtain ⟨x29, hx30, hm31⟩ := bdG_some hm28; clear hm28
   refine gp Z (fun hG => QV.call en30 (EvAll.cons Z hG (ec Z (ec Z eN))) (fun w hw => have h := R2_Within_w w (hx30 hG) ; h)) (wq Z (QV.pickAnd Z Z Z (fun h => h)) (wm Z (gp Z (fun hG => QV.fieldAddr fd47_5 Z Z) (gp Z (fun hG => QV.load pl3 Z hG (Own.cell 1 Z Z)) ?_))))
   obtain ⟨x32, hx33, hm34⟩ := bdG_some hm31; clear hm31
   refine gp Z (fun hG => QV.call en30 (EvAll.cons Z hG (ec Z (ec Z eN))) (fun w hw => have h := R2_Within_w w (hx33 hG) ; h)) (wq Z (QV.pickAnd Z Z Z (fun h => h)) (wa Z (nt (WC.ret (tr ?_)))))
   obtain rfl := (eq_of_some hm34).symm
   exact WQ.ret1 Z Z fun w hw => kg hw
  refine sk (WQ.then (WC.seq (sr (wf fd47_3 Z (wl pl3 Z (Own.cell 1 Z Z) (wq Z (QV.neq Z Z Z Z) (wm Z (gn Z (fun hG => QV.fieldAddr fd47_4 Z Z) (gn Z (fun hG => QV.load pl3 Z hG (Own.cell 1 Z Z)) (gn Z (fun hG => QV.neq Z hG Z Z) (wq Z (QV.pickOr Z Z Z (fun h => notF h)) (wm Z ?_))))))))))))
  refine gn Z (fun hG => QV.fieldAddr fd47_5 Z Z) (gn Z (fun hG => QV.load pl3 Z hG (Own.cell 1 Z Z)) (gn Z (fun hG => QV.neq Z hG Z Z) (wq Z (QV.pickOr Z Z Z (fun h => notF h)) (nt ?_))))
  refine wc Z hm35 (fun h36 hm37 => ?_) (fun h36 hm38 => ?_) <;> clear hm35
  ·skip
   refine sr (wa Z (nt (WC.ret (tr ?_))))
   obtain rfl := (eq_of_some hm37).symm
   exact WQ.ret1 Z Z fun w hw => kg hw
  refine sk (WQ.then (sr (wf fd47_0 Z (wl pl3 Z (Own.cell 1 Z Z) (wq Z (QV.eql Z Z Z Z) (wm Z (gn Z (fun hG => QV.fieldAddr fd47_0 Z Z) (gn Z (fun hG => QV.load pl3 Z hG (Own.cell 1 Z Z)) (gn Z (fun hG => QV.eql Z hG Z Z) (wq Z (QV.pickOr Z Z Z (fun h => notF h)) (wm Z ?_)))))))))))
  refine gn Z (fun hG => QV.fieldAddr fd47_0 Z Z) (gn Z (fun hG => QV.load pl3 Z hG (Own.cell 1 Z Z)) ?_)
  obtain ⟨x39, hx40, hm41⟩ := bdG_some hm38; clear hm38
  refine gn Z (fun hG => QV.call en30 (EvAll.cons Z hG (ec Z (ec Z eN))) (fun w hw => have h := R2_Within_w w (hx40 hG) ; h)) (wq Z (QV.pickOr Z Z Z (fun h => notF h)) (wa Z (nt (WC.ret ?_))))
  obtain rfl := (eq_of_some hm41).symm
  exact WQ.ret1 Z Z fun w hw => kg hw
 rintro i7_1 m42 hI43
 obtain ⟨m44, s45, rfl, hm46, hn47⟩ := iter_step hI43; clear hI43; unfold R2_stmt_L0 at hm46
 refine WC.seq (sr (wm Z (wm Z (wq Z (QV.lenS Tryd.underlying83 Z Z hF10.lenMap) (wq Z (QV.lss Z Z Z Z) (nt ?_))))))
 refine wc Z hm46 (fun h48 hm49 => ?_) (fun h48 hm99 => ?_) <;> clear hm46
 ·skip
  refine sk (WQ.then (WC.seq (WC.block (sr (wf fd25_1 Z (wl pl23 Z (Own.cell 2 Z Z) (wq Z (QV.lenS Tryd.underlying23 Z Z (h_l_body.le hle10).lenMap) ?_)))))))
  obtain ⟨c50, c52, hm53⟩ := cs2 hm49; clear hm49
  refine wq Z (QV.sub Z Z Z Z c50) (wa Z (nt (WC.seq (sr (wm Z (wm Z ?_))))))
  obtain ⟨p54, hp55⟩ := hF10.lenMap.ix (sz := 2) ln_len c52
  refine wq Z (QV.indexSlice sl83 Z Z Z Z hp55) (wf fd45_1 Z (wl pl3 Z (fun w hw => CellsAt.one 1 (((Own.karr 0 Z hk hF10) w hw).ele hp55 c52) Z) (wq Z (QV.eql Z Z Z Z) (nt ?_))))
  refine wc Z hm53 (fun h56 hm57 => ?_) (fun h56 hm79 => ?_) <;> clear hm53
  ·skip
   refine WC.region (wm Z ?_)
   obtain ⟨c58, c60, hm61⟩ := cs2 hm57; clear hm57
   refine wq Z (QV.sub Z Z Z Z c58) (wa Z (ns (wm Z (wm Z ?_))))
   obtain ⟨p62, hp63⟩ := hF10.lenMap.ix (sz := 2) ln_len c60
   refine wq Z (QV.indexSlice sl83 Z Z Z Z hp63) (wf fd45_1 Z (wl pl3 Z (fun w hw => CellsAt.one 1 (((Own.karr 0 Z hk hF10) w hw).ele hp63 c60) Z) ?_))
   obtain ⟨x64, hx65, hm66⟩ := bd_some hm61; clear hm61
   refine wq Z (QV.call en30 (ec Z (ec Z (ec Z eN))) (fun w hw => have h := R2_Within_w w hx65 ; h)) (wq Z (QV.not Z Z) (wm Z (gn Z (fun hG => QV.move Z Z) (gn Z (fun hG => QV.move Z Z) ?_))))
   obtain ⟨c67, hm68⟩ := cs hm66; clear hm66
   obtain ⟨p69, hp70⟩ := hF10.lenMap.ixG (sz := 2) ln_len c67
   refine gn Z (fun hG => QV.indexSlice sl83 Z hG Z hG (hp70 hG)) (gn Z (fun hG => QV.fieldAddr fd45_0 Z hG) (gn Z (fun hG => QV.load pl3 Z hG (fun w hw => CellsAt.one 0 (((Own.karr 0 Z hk hF10) w hw).ele (hp70 hG) (c67 hG)) Z)) (gn Z (fun hG => QV.move Z Z) ?_)))
   obtain ⟨x71, hx72, hm73⟩ := bdG_some hm68; clear hm68
   refine gn Z (fun hG => QV.call en30 (EvAll.cons Z hG (ec Z (EvAll.cons Z hG eN))) (fun w hw => have h := R2_Within_w w (hx72 hG) ; h)) (gn Z (fun hG => QV.not Z hG) (wq Z (QV.pickOr Z Z Z (fun h => notF h)) (nt ?_)))
   refine wc Z hm73 (fun h74 hm75 => ?_) (fun h74 hm76 => ?_) <;> clear hm73
   ·skip
    refine sr (wa Z (nt (WC.ret (kr (tr (tr (kr (tr (tr ?_)))))))))
    obtain rfl := up_ret hm75 hn47
    obtain rfl := (eq_of_some hm13).symm
    exact WQ.ret1 Z Z fun w hw => kg hw
   refine sk (WQ.block (WQ.then (WC.region (wm Z ?_))))
   obtain ⟨c77, hm78⟩ := cs hm76; clear hm76
   refine wq Z (QV.add Z Z Z Z c77) (wa Z (WL.nil ?_))
   exact WQ.again1 (i7_1 + 1) m44 (up_next hm78 hn47) (Nat.lt_succ_self _) ⟨Z, Z, Z, Z, Z, trivial⟩ (pk [0, 1, 2])
  refine sk (WQ.then (sr (wm Z (wm Z ?_))))
  obtain ⟨c80, hm81⟩ := cs hm79; clear hm79
  obtain ⟨p82, hp83⟩ := hF10.lenMap.ix (sz := 2) ln_len c80
  refine wq Z (QV.indexSlice sl83 Z Z Z Z hp83) (wf fd45_1 Z (wl pl3 Z (fun w hw => CellsAt.one 1 (((Own.karr 0 Z hk hF10) w hw).ele hp83 c80) Z) ?_))
  obtain ⟨x84, hx85, hm86⟩ := bd_some hm81; clear hm81
  refine wq Z (QV.call en30 (ec Z (ec Z (ec Z eN))) (fun w hw => have h := R2_Within_w w hx85 ; h)) (wq Z (QV.not Z Z) (wm Z (gn Z (fun hG => QV.move Z Z) (gn Z (fun hG => QV.move Z Z) ?_))))
  obtain ⟨c87, hm88⟩ := cs hm86; clear hm86
  obtain ⟨p89, hp90⟩ := hF10.lenMap.ixG (sz := 2) ln_len c87
  refine gn Z (fun hG => QV.indexSlice sl83 Z hG Z hG (hp90 hG)) (gn Z (fun hG => QV.fieldAddr fd45_0 Z hG) (gn Z (fun hG => QV.load pl3 Z hG (fun w hw => CellsAt.one 0 (((Own.karr 0 Z hk hF10) w hw).ele (hp90 hG) (c87 hG)) Z)) (gn Z (fun hG => QV.move Z Z) ?_)))
  obtain ⟨x91, hx92, hm93⟩ := bdG_some hm88; clear hm88
  refine gn Z (fun hG => QV.call en30 (EvAll.cons Z hG (ec Z (EvAll.cons Z hG eN))) (fun w hw => have h := R2_Within_w w (hx92 hG) ; h)) (gn Z (fun hG => QV.not Z hG) (wq Z (QV.pickOr Z Z Z (fun h => notF h)) (nt ?_)))
  refine wc Z hm93 (fun h94 hm95 => ?_) (fun h94 hm96 => ?_) <;> clear hm93
  ·skip
   refine sr (wa Z (nt (WC.ret (kr (tr (tr (kr (tr (tr ?_)))))))))
   obtain rfl := up_ret hm95 hn47
   obtain rfl := (eq_of_some hm13).symm
   exact WQ.ret1 Z Z fun w hw => kg hw
  refine sk (WQ.block (WQ.then (WC.region (wm Z ?_))))
  obtain ⟨c97, hm98⟩ := cs hm96; clear hm96
  refine wq Z (QV.add Z Z Z Z c97) (wa Z (WL.nil ?_))
  exact WQ.again1 (i7_1 + 1) m44 (up_next hm98 hn47) (Nat.lt_succ_self _) ⟨Z, Z, Z, Z, Z, trivial⟩ (pk [0, 1, 2])
 refine WC.exit (te (te (WQ.block_exit ?_)))
 exact WQ.out1 i7_1 (up_brk hm99 hn47) ⟨Z, Z, Z, Z, Z, trivial⟩ (pk [0, 1, 2])
theorem R2_May_w {v_l_logs v_l_body v_l_outs : Value} {l : Lp} {r : Bool} (w : World) (hm : R2_May_m l = some r) (h_l_logs : Arr w v_l_logs 1 (l.logs.map icell)) (h_l_body : Arr w v_l_body 9 (l.body.map Stm.cells)) (h_l_outs : Arr w v_l_outs 1 (l.outs.map icell)) : Calls Tryd.prog 16 #[.agg #[v_l_logs, v_l_body, v_l_outs]] w (fun e w' => e = .returned (.bool r) ∧ Grow w w') := by
 unfold R2_May_m at hm
 have hk := Base.rfl (w := w)
 refine calls_of_WC (n := 79) (args := [.agg #[v_l_logs, v_l_body, v_l_outs]]) Tryd.func16 Z Z (nl Z) ?_ (Own.startK hk (Own.start w))
 refine sr (WL.effect Z ?_)
 refine (EV.boxAgg (by decide) Z Z (fun b1 => ?_))
 refine wa Z (ns (wf fd25_1 Z (wl pl23 Z (Own.cell 0 Z Z) (wq Z (QV.lenS Tryd.underlying23 Z Z h_l_body.lenMap) (wa Z (nt (WC.seq (sr (wf fd25_0 Z (wl pl22 Z (Own.cell 0 Z Z) (wq Z (QV.lenS Tryd.underlying22 Z Z h_l_logs.lenMap) ?_)))))))))))
 refine wq Z (QV.gtr Z Z Z Z) (wm Z (gn Z (fun hG => QV.move Z Z) (gn Z (fun hG => QV.lss Z hG Z Z) (wq Z (QV.pickOr Z Z Z (fun h => notF h)) (wm Z (gn Z (fun hG => QV.move Z Z) (gn Z (fun hG => QV.gtr Z hG Z Z) (wq Z (QV.pickOr Z Z Z (fun h => notF h)) (nt ?_)))))))))
 refine wc Z hm (fun h2 hm3 => ?_) (fun h2 hm4 => ?_) <;> clear hm
 ·skip
  refine sr (wa Z (nt (WC.ret (tr ?_))))
  obtain rfl := (eq_of_some hm3).symm
  exact WQ.ret1 Z Z fun w hw => kg hw
 refine sk (WQ.then (WC.seq (sr (wa Z (nt ?_)))))
 obtain ⟨o5, ho6, hm7⟩ := bd_some hm4; clear hm4; obtain ⟨n8, ho9⟩ := lp_some ho6
 refine WC.bloop1 (H2 := [blk b1 [v_l_logs, v_l_body, v_l_outs] 25, kn noM w.heap.size w w]) (τ := [u_ 1 _, u_ 3 _]) (fun (i4_1 : Int) => [(4, (true, i_ i4_1))]) (fun i4_1 => []) (fun i4_1 m => iter (R2_May_L0 l) m i4_1 = some o5) (fun i4_1 => o5 = .go i4_1) 0 n8 ho9 ⟨Z, Z, Z, trivial⟩ (pk [0, 1]) ?_ ?_
 ·skip
  rintro i4_1 rfl
  refine WQ.then (WC.seq (sr (wa Z (nt ?_))))
  obtain ⟨o10, ho11, hm12⟩ := bd_some hm7; clear hm7; obtain ⟨n13, ho14⟩ := lp_some ho11
  refine WC.bloop1 (H2 := [blk b1 [v_l_logs, v_l_body, v_l_outs] 25, kn noM w.heap.size w w]) (τ := [u_ 1 _, u_ 3 _]) (fun (i5_2 : Int) => [(5, (true, i_ i5_2))]) (fun i5_2 => []) (fun i5_2 m => iter (R2_May_L2 l) m i5_2 = some o10) (fun i5_2 => o10 = .go i5_2) 0 n13 ho14 ⟨Z, Z, Z, trivial⟩ (pk [0, 1]) ?_ ?_
  ·skip
   rintro i5_2 rfl
   refine WQ.then (WC.seq (sr (wa Z (nt ?_))))
   obtain ⟨o15, ho16, hm17⟩ := bd_some hm12; clear hm12; obtain ⟨n18, ho19⟩ := lp_some ho16
   refine WC.bloop1 (H2 := [blk b1 [v_l_logs, v_l_body, v_l_outs] 25, kn noM w.heap.size w w]) (τ := [u_ 1 _, u_ 3 _]) (fun (k6_3 : Int) => [(6, (true, i_ k6_3))]) (fun k6_3 => []) (fun k6_3 m => iter (R2_May_L4 l) m k6_3 = some o15) (fun k6_3 => o15 = .go k6_3) 0 n18 ho19 ⟨Z, Z, Z, trivial⟩ (pk [0, 1]) ?_ ?_
   ·skip
    rintro k6_3 rfl
    refine WQ.then (sr (wa Z (nt (WC.ret ?_))))
    obtain rfl := (eq_of_some hm17).symm
    exact WQ.ret1 Z Z fun w hw => kg hw
   rintro k6_3 m20 hI21
   obtain ⟨m22, s23, rfl, hm24, hn25⟩ := iter_step hI21; clear hI21; unfold R2_May_L4 at hm24
   refine WC.seq (sr (wm Z (wm Z (wq Z (QV.lss Z Z Z Z) (nt ?_)))))
   refine wc Z hm24 (fun h26 hm27 => ?_) (fun h26 hm36 => ?_) <;> clear hm24
   ·skip
    refine sk (WQ.then (WC.seq (WC.block (sr (wq Z (QV.loadAgg ag25 Z Z Z (Own.cellsBlk 0 Z)) (wm Z ?_))))))
    obtain ⟨x28, hx29, hm30⟩ := bd_some hm27; clear hm27
    refine wq Z (QV.call en31 (ec Z (ec Z eN)) (fun w hw => have h := R2_stmt_w w hx29 ((Own.karr 1 Z hk h_l_logs) w hw) ((Own.karr 1 Z hk h_l_body) w hw) ((Own.karr 1 Z hk h_l_outs) w hw); h)) (wq Z (QV.not Z Z) (nt ?_))
    refine wc Z hm30 (fun h31 hm32 => ?_) (fun h31 hm33 => ?_) <;> clear hm30
    ·skip
     refine sr (wa Z (nt (WC.ret (kr (tr (tr (kr (tr (tr ?_)))))))))
     obtain rfl := up_ret hm32 hn25
     obtain rfl := (eq_of_some hm17).symm
     exact WQ.ret1 Z Z fun w hw => kg hw
    refine sk (WQ.block (WQ.then (WC.region (wm Z ?_))))
    obtain ⟨c34, hm35⟩ := cs hm33; clear hm33
    refine wq Z (QV.add Z Z Z Z c34) (wa Z (WL.nil ?_))
    exact WQ.again1 (k6_3 + 1) m22 (up_next hm35 hn25) (Nat.lt_succ_self _) ⟨Z, Z, Z, trivial⟩ (pk [0, 1])
   refine WC.exit (te (te (WQ.block_exit ?_)))
   exact WQ.out1 k6_3 (up_brk hm36 hn25) ⟨Z, Z, Z, trivial⟩ (pk [0, 1])
  rintro i5_2 m37 hI38
  obtain ⟨m39, s40, rfl, hm41, hn42⟩ := iter_step hI38; clear hI38; unfold R2_May_L2 at hm41
  refine WC.seq (sr (wm Z (wf fd25_2 Z (wl pl22 Z (Own.cell 0 Z Z) (wq Z (QV.lenS Tryd.underlying22 Z Z h_l_outs.lenMap) (wq Z (QV.lss Z Z Z Z) (nt ?_)))))))
  refine wc Z hm41 (fun h43 hm44 => ?_) (fun h43 hm69 => ?_) <;> clear hm41
  ·skip
   refine sk (WQ.then (WC.seq (WC.block (WC.seq (WC.dr (m := 27) (S := Own noM w [kn noM w.heap.size w w, blk b1 [v_l_logs, v_l_body, v_l_outs] 25]) (by kernel_rfl) (by kernel_rfl) (pk [1, 0]) (zf 0 fd25_2 Z Z (zl 1 pl22 Z Z (Own.cell 1 Z Z) (zm 2 Z Z ?_))))))))
   obtain ⟨c45, hm46⟩ := cs hm44; clear hm44
   obtain ⟨p47, hp48⟩ := h_l_outs.lenMap.ix (sz := 1) ln_len c45
   refine wz 3 Z Z (QV.indexSlice sl22 Z Z Z Z hp48) (zl 4 pl3 Z Z (fun w hw => CellsAt.one 0 (((Own.karr 0 Z hk h_l_outs) w hw).ele hp48 c45) Z) (zm 5 Z Z ?_))
   obtain ⟨c49, hm50⟩ := cs hm46; clear hm46
   refine wz 6 Z Z (QV.sub Z Z Z Z c49) ?_
   obtain ⟨x51, hx52, hm53⟩ := bd_some hm50; clear hm50
   refine wz 7 Z Z (QV.call en30 (ec Z (ec Z (ec Z eN))) (fun w hw => have h := R2_Within_w w hx52 ; h)) (wz 8 Z Z (QV.not Z Z) (zm 9 Z Z (zn 10 Z Z (fun hG => QV.move Z Z) (zn 11 Z Z (fun hG => QV.gtr Z hG Z Z) (zn 12 Z Z (fun hG => QV.move Z hG) ?_)))))
   refine WD.g 13 Z (by kernel_rfl) Z Z (GuardIs.posC Z Z) (fun hG => QV.fieldAddr fd25_2 Z Z) ?_
   refine WD.g 14 Z (by kernel_rfl) Z Z (GuardIs.posC Z Z) (fun hG => QV.load pl22 Z hG (Own.cell 1 Z Z)) ?_
   refine WD.g 15 Z (by kernel_rfl) Z Z (GuardIs.posC Z Z) (fun hG => QV.move Z Z) ?_
   obtain ⟨c54, hm55⟩ := cs hm53; clear hm53
   obtain ⟨p56, hp57⟩ := h_l_outs.lenMap.ixG (sz := 1) ln_len c54
   refine WD.g 16 Z (by kernel_rfl) Z Z (GuardIs.posC Z Z) (fun hG => QV.indexSlice sl22 Z hG Z hG (hp57 hG)) ?_
   refine WD.g 17 Z (by kernel_rfl) Z Z (GuardIs.posC Z Z) (fun hG => QV.load pl3 Z hG (fun w hw => CellsAt.one 0 (((Own.karr 0 Z hk h_l_outs) w hw).ele (hp57 hG) (c54 hG)) Z)) ?_
   refine WD.g 18 Z (by kernel_rfl) Z Z (GuardIs.posC Z Z) (fun hG => QV.fieldAddr fd25_2 Z Z) ?_
   refine WD.g 19 Z (by kernel_rfl) Z Z (GuardIs.posC Z Z) (fun hG => QV.load pl22 Z hG (Own.cell 1 Z Z)) ?_
   refine WD.g 20 Z (by kernel_rfl) Z Z (GuardIs.posC Z Z) (fun hG => QV.move Z Z) ?_
   obtain ⟨c58, c60, hm61⟩ := cs2 hm55; clear hm55
   refine WD.g 21 Z (by kernel_rfl) Z Z (GuardIs.posC Z Z) (fun hG => QV.sub Z hG Z Z (c58 hG)) ?_
   obtain ⟨p62, hp63⟩ := h_l_outs.lenMap.ixG (sz := 1) ln_len c60
   refine WD.g 22 Z (by kernel_rfl) Z Z (GuardIs.posC Z Z) (fun hG => QV.indexSlice sl22 Z hG Z hG (hp63 hG)) ?_
   refine WD.g 23 Z (by kernel_rfl) Z Z (GuardIs.posC Z Z) (fun hG => QV.load pl3 Z hG (fun w hw => CellsAt.one 0 (((Own.karr 0 Z hk h_l_outs) w hw).ele (hp63 hG) (c60 hG)) Z)) ?_
   refine WD.g 24 Z (by kernel_rfl) Z Z (GuardIs.posC Z Z) (fun hG => QV.leq Z hG Z hG) ?_
   refine zn 25 Z Z (fun hG => QV.pickAnd Z hG Z (fun h => andT hG h)) (wz 26 Z Z (QV.pickOr Z Z Z (fun h => notF h)) ?_)
   refine WD.e (by kernel_rfl) ?_
   refine WQ.then ?_
   refine wc Z hm61 (fun h64 hm65 => ?_) (fun h64 hm66 => ?_) <;> clear hm61
   ·skip
    refine sr (wa Z (nt (WC.ret (kr (tr (tr (kr (tr (tr ?_)))))))))
    obtain rfl := up_ret hm65 hn42
    obtain rfl := (eq_of_some hm12).symm
    exact WQ.ret1 Z Z fun w hw => kg hw
   refine sk (WQ.block (WQ.then (WC.region (wm Z ?_))))
   obtain ⟨c67, hm68⟩ := cs hm66; clear hm66
   refine wq Z (QV.add Z Z Z Z c67) (wa Z (WL.nil ?_))
   exact WQ.again1 (i5_2 + 1) m39 (up_next hm68 hn42) (Nat.lt_succ_self _) ⟨Z, Z, Z, trivial⟩ (pk [0, 1])
  refine WC.exit (te (te (WQ.block_exit ?_)))
  exact WQ.out1 i5_2 (up_brk hm69 hn42) ⟨Z, Z, Z, trivial⟩ (pk [0, 1])
 rintro i4_1 m70 hI71
 obtain ⟨m72, s73, rfl, hm74, hn75⟩ := iter_step hI71; clear hI71; unfold R2_May_L0 at hm74
 refine WC.seq (sr (wm Z (wf fd25_0 Z (wl pl22 Z (Own.cell 0 Z Z) (wq Z (QV.lenS Tryd.underlying22 Z Z h_l_logs.lenMap) (wq Z (QV.lss Z Z Z Z) (nt ?_)))))))
 refine wc Z hm74 (fun h76 hm77 => ?_) (fun h76 hm90 => ?_) <;> clear hm74
 ·skip
  refine sk (WQ.then (WC.seq (WC.block (sr (wf fd25_0 Z (wl pl22 Z (Own.cell 0 Z Z) (wm Z ?_)))))))
  obtain ⟨c78, hm79⟩ := cs hm77; clear hm77
  obtain ⟨p80, hp81⟩ := h_l_logs.lenMap.ix (sz := 1) ln_len c78
  refine wq Z (QV.indexSlice sl22 Z Z Z Z hp81) (wl pl3 Z (fun w hw => CellsAt.one 0 (((Own.karr 1 Z hk h_l_logs) w hw).ele hp81 c78) Z) ?_)
  obtain ⟨x82, hx83, hm84⟩ := bd_some hm79; clear hm79
  refine wq Z (QV.call en30 (ec Z (ec Z (ec Z eN))) (fun w hw => have h := R2_Within_w w hx83 ; h)) (wq Z (QV.not Z Z) (nt ?_))
  refine wc Z hm84 (fun h85 hm86 => ?_) (fun h85 hm87 => ?_) <;> clear hm84
  ·skip
   refine sr (wa Z (nt (WC.ret (kr (tr (tr (kr (tr (tr ?_)))))))))
   obtain rfl := up_ret hm86 hn75
   obtain rfl := (eq_of_some hm7).symm
   exact WQ.ret1 Z Z fun w hw => kg hw
  refine sk (WQ.block (WQ.then (WC.region (wm Z ?_))))
  obtain ⟨c88, hm89⟩ := cs hm87; clear hm87
  refine wq Z (QV.add Z Z Z Z c88) (wa Z (WL.nil ?_))
  exact WQ.again1 (i4_1 + 1) m72 (up_next hm89 hn75) (Nat.lt_succ_self _) ⟨Z, Z, Z, trivial⟩ (pk [0, 1])
 refine WC.exit (te (te (WQ.block_exit ?_)))
 exact WQ.out1 i4_1 (up_brk hm90 hn75) ⟨Z, Z, Z, trivial⟩ (pk [0, 1])
end Go.Proofs.YtaimbkndebaaiacDoor
end
section
namespace Go.Proofs.YtaimbkndebaaiacDoor
open Go.Rd
open TLib TLibR TNum0 TNum TLoop
namespace TPar
theorem ag28 : AggT Tryd.prog 28 2 := ⟨_, Tryd.underlying28, rfl, by kernel_rfl⟩
theorem en10 : Go.Rd.Enters Tryd.prog 10 := eT Tryd.func10
theorem en11 : Go.Rd.Enters Tryd.prog 11 := eT Tryd.func11
theorem en12 : Go.Rd.Enters Tryd.prog 12 := eT Tryd.func12
theorem en23 : Go.Rd.Enters Tryd.prog 23 := eT Tryd.func23
theorem en24 : Go.Rd.Enters Tryd.prog 24 := eT Tryd.func24
theorem en34 : Go.Rd.Enters Tryd.prog 34 := eT Tryd.func34
theorem en36 : Go.Rd.Enters Tryd.prog 36 := eT Tryd.func36
theorem en40 : Go.Rd.Enters Tryd.prog 40 := eT Tryd.func40
theorem en41 : Go.Rd.Enters Tryd.prog 41 := eT Tryd.func41
theorem en42 : Go.Rd.Enters Tryd.prog 42 := eT Tryd.func42
theorem en55 : Go.Rd.Enters Tryd.prog 55 := eT Tryd.func55
theorem en56 : Go.Rd.Enters Tryd.prog 56 := eT Tryd.func56
theorem en57 : Go.Rd.Enters Tryd.prog 57 := eT Tryd.func57
theorem en58 : Go.Rd.Enters Tryd.prog 58 := eT Tryd.func58
theorem fd40_0 : FieldT Tryd.prog 40 0 0 := fT 2 Tryd.underlying40
theorem pl79 : Plain Tryd.prog 79 := ⟨_, Tryd.underlying79, rfl⟩
theorem pl81 : Plain Tryd.prog 81 := ⟨_, Tryd.underlying81, rfl⟩
theorem pl9 : Plain Tryd.prog 9 := ⟨_, Tryd.underlying9, rfl⟩
theorem sl36 : SliceT Tryd.prog 36 9 1 := ⟨Tryd.underlying36, by kernel_rfl⟩
theorem sl80 : SliceT Tryd.prog 80 79 1 := ⟨Tryd.underlying80, by kernel_rfl⟩
theorem sl82 : SliceT Tryd.prog 82 81 1 := ⟨Tryd.underlying82, by kernel_rfl⟩
theorem sz2 : SizeT Tryd.prog 2 1 := by unfold SizeT; kernel_rfl
theorem sz22 : SizeT Tryd.prog 22 1 := by unfold SizeT; kernel_rfl
theorem sz23 : SizeT Tryd.prog 23 1 := by unfold SizeT; kernel_rfl
theorem sz25 : SizeT Tryd.prog 25 3 := by unfold SizeT; kernel_rfl
theorem sz28 : SizeT Tryd.prog 28 2 := by unfold SizeT; kernel_rfl
theorem sz3 : SizeT Tryd.prog 3 1 := by unfold SizeT; kernel_rfl
theorem sz_22 : SliceZ Tryd.prog 22 3 1 [.int .i64 0] := ⟨Tryd.underlying22, by kernel_rfl⟩
theorem sz_23 : SliceZ Tryd.prog 23 47 9 [.int .i64 0, .int .i64 0, .int .i64 0, .int .i64 0, .int .i64 0, .int .i64 0, .int .i64 0, .int .i64 0, .int .i64 0] := ⟨Tryd.underlying23, by kernel_rfl⟩
theorem sz_80 : SliceZ Tryd.prog 80 79 1 [.pointer none] := ⟨Tryd.underlying80, by kernel_rfl⟩
theorem sz_82 : SliceZ Tryd.prog 82 81 1 [.pointer none] := ⟨Tryd.underlying82, by kernel_rfl⟩
theorem ve22 : VecT Tryd.prog 22 3 1 8 := ⟨Tryd.underlying22, by kernel_rfl, by decide⟩
theorem ve23 : VecT Tryd.prog 23 47 9 72 := ⟨Tryd.underlying23, by kernel_rfl, by decide⟩
theorem ze25 : ZeroT Tryd.prog 25 [.slice none 0 0, .slice none 0 0, .slice none 0 0] := by unfold ZeroT; kernel_rfl
theorem ze28 : ZeroT Tryd.prog 28 [.int .i64 0, .int .i64 0] := by unfold ZeroT; kernel_rfl
end TPar
open TPar
theorem text_whole_w {s : List UInt8} {most : Int} {r : Int × Bool} (w : World) (hm : text_whole_m s most = some r) (hGl0 : Glb Tryd.prog w) : Calls Tryd.prog 41 #[strV s, .int .i64 most] w (fun e w' => e = .returned (.tuple #[.int .i64 r.1, .bool r.2]) ∧ Grow w w') := by
 unfold text_whole_m at hm
 have hk := Base.rfl (w := w)
 refine calls_of_WC (n := 29) (args := [strV s, i_ most]) Tryd.func41 Z Z (nl Z) ?_ (Own.startK hk (Own.start w))
 have hGl := GlbM.of hGl0
 refine sr (wa Z (wa Z (ns (wm Z (WL.effect Z ?_)))))
 obtain ⟨x1, hx2, hm3⟩ := bd_some hm; clear hm
 refine (EV.callRG (X := Value × World) (R := []) (fun X => .tuple #[i_ x1.1, X.1]) (fun X => []) (fun X => X.2) (fun X => ErrV X.1 x1.2) hGl hk (fun _ h => by cases h; decide) en55 (ec Z (ec Z (ec Z eN))) (fun M w hG h1 h2 => have h := ParseInt_w hx2  M w hG h1 h2; h) (fun X4 hF4 hle4 => ?_))
 refine wm Z (wq Z (QV.extract Z Z Z) (wq Z (QV.extract Z Z Z) (wa Z (wa Z (ns (wm Z (wm Z (wq Z (QV.eqlErr Tryd.underlying55 Z Z hF4) (wm Z ?_)))))))))
 refine gp Z (fun hG => QV.move Z Z) ?_
 obtain ⟨x5, hx6, hm7⟩ := bdG_some hm3; clear hm3
 refine gp Z (fun hG => QV.call en34 (EvAll.cons Z hG eN) (fun w hw => have h := text_number_w w (hx6 hG) (hGl.at hw); h)) (gp Z (fun hG => QV.move Z Z) (gp Z (fun hG => QV.strEql Z hG Z hG) (wq Z (QV.pickAnd Z Z Z (fun h => h)) (wm Z (gp Z (fun hG => QV.move Z Z) ?_)))))
 obtain ⟨x8, hx9, hm10⟩ := bdG_some hm7; clear hm7
 refine gp Z (fun hG => QV.call en56 (EvAll.cons Z hG (ec Z eN)) (fun w hw => have h := TrimPrefix_w w (hx9 hG) ; h)) (gp Z (fun hG => QV.lenStr Tryd.underlying9 Z hG) (gp Z (fun hG => QV.move Z Z) (gp Z (fun hG => QV.leq Z hG Z hG) (wq Z (QV.pickAnd Z Z Z (fun h => h)) (wa Z (wa Z (nt (WC.ret ?_))))))))
 obtain rfl := (eq_of_some hm10).symm
 exact WQ.ret2 Z Z Z fun w hw => kg hw
theorem text_small_w {s : List UInt8} {r : Int × Bool} (w : World) (hm : text_small_m s = some r) (hGl0 : Glb Tryd.prog w) : Calls Tryd.prog 24 #[strV s] w (fun e w' => e = .returned (.tuple #[.int .i64 r.1, .bool r.2]) ∧ Grow w w') := by
 unfold text_small_m at hm
 have hk := Base.rfl (w := w)
 refine calls_of_WC (n := 13) (args := [strV s]) Tryd.func24 Z Z (nl Z) ?_ (Own.startK hk (Own.start w))
 have hGl := GlbM.of hGl0
 refine sr (wa Z (wa Z (ns (wm Z ?_))))
 obtain ⟨x1, hx2, hm3⟩ := bd_some hm; clear hm
 refine wq Z (QV.call en41 (ec Z (ec Z eN)) (fun w hw => have h := text_whole_w w hx2 (hGl.at hw); h)) (wm Z (wq Z (QV.extract Z Z Z) (wq Z (QV.extract Z Z Z) (wa Z (wa Z (ns (wm Z (wm Z (wa Z ?_)))))))))
 refine wa Z (nt (WC.ret ?_))
 obtain rfl := (eq_of_some hm3).symm
 exact WQ.ret2 Z Z Z fun w hw => kg hw
theorem text_reads_w {s : List UInt8} {r : Rf × Bool} (w : World) (hm : text_reads_m s = some r) (hGl0 : Glb Tryd.prog w) : Calls Tryd.prog 42 #[strV s] w (fun e w' => e = .returned (.tuple #[.agg #[.int .i64 r.1.st, .int .i64 r.1.bk], .bool r.2]) ∧ Grow w w') := by
 unfold text_reads_m at hm
 have hk := Base.rfl (w := w)
 refine calls_of_WC (n := 53) (args := [strV s]) Tryd.func42 Z Z (nl Z) ?_ (Own.startK hk (Own.start w))
 have hGl := GlbM.of hGl0
 refine sr (WL.effect Z ?_)
 refine (EV.alloc (by decide) ze45 (fun b1 => ?_))
 refine wa Z (ns (wm Z ?_))
 obtain ⟨x2, hx3, hm4⟩ := bd_some hm; clear hm
 refine wq Z (QV.call en57 (ec Z (ec Z eN)) (fun w hw => have h := CutPrefix_w w hx3 ; h)) (wm Z (wq Z (QV.extract Z Z Z) (wq Z (QV.extract Z Z Z) (wa Z (wa Z (ns (wm Z ?_)))))))
 obtain ⟨x5, hx6, hm7⟩ := bd_some hm4; clear hm4
 refine wq Z (QV.call en58 (ec Z (ec Z eN)) (fun w hw => have h := Cut_w w hx6 (hGl.at hw); h)) (wm Z (wq Z (QV.extract Z Z Z) (wq Z (QV.extract Z Z Z) (wq Z (QV.extract Z Z Z) (wa Z (wa Z (wa Z (ns (wm Z ?_)))))))))
 obtain ⟨x8, hx9, hm10⟩ := bd_some hm7; clear hm7
 refine wq Z (QV.call en24 (ec Z eN) (fun w hw => have h := text_small_w w hx9 (hGl.at hw); h)) (wm Z (wq Z (QV.extract Z Z Z) (wq Z (QV.extract Z Z Z) (wa Z (wa Z (ns (wm Z (wq Z (QV.build (ps := [(0, .tmp 30)]) (cells := [i_ x8.1, i_ 0]) (ec Z eN) (by kernel_rfl)) (WL.effect Z ?_)))))))))
 refine (EV.alloc (by decide) ze45 (fun b11 => ?_))
 refine WL.effect Z ?_
 refine (EV.store 0 Z Z Z Z Z Z (vs := [i_ x8.1, i_ 0]) (show Value.cells _ = List.toArray _ from Z) sz45 (nl Z) (oc Z (oc Z one_nil)) ?_)
 refine nt (WC.seq (sr (wm Z (nt ?_))))
 refine wc Z hm10 (fun h12 hm13 => ?_) (fun h12 hm17 => ?_) <;> clear hm10
 ·skip
  refine sr (wm Z ?_)
  obtain ⟨x14, hx15, hm16⟩ := bd_some hm13; clear hm13
  refine wq Z (QV.call en24 (ec Z eN) (fun w hw => have h := text_small_w w hx15 (hGl.at hw); h)) (wm Z (wq Z (QV.extract Z Z Z) (wq Z (QV.extract Z Z Z) (wa Z (wa Z (ns (wm Z (wf fd45_1 Z (WL.effect Z ?_)))))))))
  refine (EV.store 0 Z Z Z Z Z Z (vs := [i_ x14.1]) (show Value.cells _ = List.toArray _ from Z) sz3 (nl Z) (oc Z one_nil) ?_)
  refine nr (wm Z (wm Z (gp Z (fun hG => QV.move Z Z) (wq Z (QV.pickAnd Z Z Z (fun h => h)) (wm Z (gp Z (fun hG => QV.move Z Z) (gp Z (fun hG => QV.gtr Z hG Z Z) (wq Z (QV.pickAnd Z Z Z (fun h => h)) (wa Z ?_)))))))))
  refine ns (wq Z (QV.loadAgg ag45 Z Z Z (Own.cellsBlk 0 Z)) (wm Z (wm Z (gp Z (fun hG => QV.move Z Z) (wq Z (QV.pickAnd Z Z Z (fun h => h)) (WL.effect Z ?_))))))
  refine (EV.store 1 Z Z Z Z Z Z (vs := [i_ x8.1, i_ x14.1]) (show Value.cells _ = List.toArray _ from Z) sz45 (nl Z) (oc Z (oc Z one_nil)) ?_)
  refine wa Z (nt (WC.ret ?_))
  obtain rfl := (eq_of_some hm16).symm
  exact WQ.retCellTmp Z ag45 Z Z Z (Own.cellsBlk 1 Z) fun w hw => kg hw
 refine sk (WQ.then (sr (wq Z (QV.loadAgg ag45 Z Z Z (Own.cellsBlk 0 Z)) (wm Z (wm Z (gp Z (fun hG => QV.move Z Z) (wq Z (QV.pickAnd Z Z Z (fun h => h)) (WL.effect Z ?_))))))))
 refine (EV.store 1 Z Z Z Z Z Z (vs := [i_ x8.1, i_ 0]) (show Value.cells _ = List.toArray _ from Z) sz45 (nl Z) (oc Z (oc Z one_nil)) ?_)
 refine wa Z (nt (WC.ret ?_))
 obtain rfl := (eq_of_some hm17).symm
 exact WQ.retCellTmp Z ag45 Z Z Z (Own.cellsBlk 1 Z) fun w hw => kg hw
theorem text_shape_w {word : List UInt8} {r : Int × List UInt8 × Bool} (w : World) (hm : text_shape_m word = some r) (hGl0 : Glb Tryd.prog w) : Calls Tryd.prog 40 #[strV word] w (fun e w' => e = .returned (.tuple #[.int .i64 r.1, strV r.2.1, .bool r.2.2]) ∧ Grow w w') := by
 unfold text_shape_m at hm
 have hk := Base.rfl (w := w)
 refine calls_of_WC (n := 30) (args := [strV word]) Tryd.func40 Z Z (nl Z) ?_ (Own.startK hk (Own.start w))
 have hGl := GlbM.of hGl0
 refine sr (wa Z (wa Z (wa Z (nt (WC.seq (sr (wm Z (nt (WC.block (sr (wq Z (QV.strEql Z Z Z Z) (wa Z (nt ?_)))))))))))))
 refine wc Z hm (fun h1 hm2 => ?_) (fun h1 hm3 => ?_) <;> clear hm
 ·skip
  refine sr (wa Z (wa Z (wa Z (nt (WC.ret (kr (tr ?_)))))))
  obtain rfl := (eq_of_some hm2).symm
  exact WQ.ret3 Z Z Z Z fun w hw => kg hw
 refine sr (wq Z (QV.strEql Z Z Z Z) (wa Z (nt ?_)))
 refine wc Z hm3 (fun h4 hm5 => ?_) (fun h4 hm6 => ?_) <;> clear hm3
 ·skip
  refine sr (wa Z (wa Z (wa Z (nt (WC.ret (kr (tr ?_)))))))
  obtain rfl := (eq_of_some hm5).symm
  exact WQ.ret3 Z Z Z Z fun w hw => kg hw
 refine sr (wq Z (QV.strEql Z Z Z Z) (wa Z (nt ?_)))
 refine wc Z hm6 (fun h7 hm8 => ?_) (fun h7 hm9 => ?_) <;> clear hm6
 ·skip
  refine sr (wa Z (wa Z (wa Z (nt (WC.ret (kr (tr ?_)))))))
  obtain rfl := (eq_of_some hm8).symm
  exact WQ.ret3 Z Z Z Z fun w hw => kg hw
 refine sr (wq Z (QV.strEql Z Z Z Z) (wa Z (nt ?_)))
 refine wc Z hm9 (fun h10 hm11 => ?_) (fun h10 hm12 => ?_) <;> clear hm9
 ·skip
  refine sr (wa Z (wa Z (wa Z (nt (WC.ret (kr (tr ?_)))))))
  obtain rfl := (eq_of_some hm11).symm
  exact WQ.ret3 Z Z Z Z fun w hw => kg hw
 refine sk (WQ.block (WQ.then (WC.seq (sr (WL.effect Z ?_)))))
 obtain ⟨x13, hx14, hm15⟩ := bd_some hm12; clear hm12
 refine (EV.callRG (X := Value × World) (R := []) (fun X => X.1) (fun X => []) (fun X => X.2) (fun X => Arr X.2 X.1 1 (x13.map scell)) hGl hk (fun _ h => by cases h; decide) en36 (ec Z eN) (fun M w hG h1 h2 => have h := Fields_w hx14  M w hG h1 h2; h) (fun X16 hF16 hle16 => ?_))
 refine wq Z (QV.lenS Tryd.underlying36 Z Z hF16.lenMap) (wm Z (nt ?_))
 obtain ⟨o17, ho18, hm19⟩ := bd_some hm15; clear hm15; obtain ⟨n20, ho21⟩ := lp_some ho18
 refine WC.bloop1 (H2 := [kn noM w.heap.size w X16.2]) (τ := [u_ 0 _, u_ 16 _, u_ 17 _]) (fun (x18_1 : Int) => [(18, (true, i_ x18_1))]) (fun x18_1 => []) (fun x18_1 m => iter (text_shape_L1 word x13) m x18_1 = some o17) (fun x18_1 => o17 = .go x18_1) 0 n20 ho21 ⟨Z, Z, Z, Z, trivial⟩ (pk [0]) ?_ ?_
 ·skip
  rintro x18_1 rfl
  refine WQ.then (sr (wa Z (wa Z (wa Z (nt (WC.ret ?_))))))
  obtain rfl := (eq_of_some hm19).symm
  exact WQ.ret3 Z Z Z Z fun w hw => kg hw
 rintro x18_1 m22 hI23
 obtain ⟨m24, s25, rfl, hm26, hn27⟩ := iter_step hI23; clear hI23; unfold text_shape_L1 at hm26
 refine sr (wq Z (QV.lss Z Z Z Z) (nt (WC.seq ?_)))
 refine wc Z hm26 (fun h28 hm29 => ?_) (fun h28 hm43 => ?_) <;> clear hm26
 ·skip
  refine sk (WQ.then (WC.seq (WC.block (sr (wm Z ?_)))))
  obtain ⟨c30, hm31⟩ := cs hm29; clear hm29
  obtain ⟨p32, hp33⟩ := hF16.lenMap.ix (sz := 1) ln_len c30
  refine wq Z (QV.indexSlice sl36 Z Z Z Z hp33) (wl pl9 Z (fun w hw => CellsAt.one 0 (((Own.karr 0 Z hk hF16) w hw).ele hp33 c30) Z) (wa Z (wa Z (ns (wm Z (wm Z (wq Z (QV.strEql Z Z Z Z) (nt ?_))))))))
  refine wc Z hm31 (fun h34 hm35 => ?_) (fun h34 hm40 => ?_) <;> clear hm31
  ·skip
   refine sr (wm Z ?_)
   obtain ⟨c36, c38, hm39⟩ := cs2 hm35; clear hm35
   refine wq Z (QV.add Z Z Z Z c36) (wq Z (QV.add Z Z Z Z c38) (wa Z (wa Z (wa Z (nt (WC.ret (kr (tr (tr (kr (tr (tr ?_))))))))))))
   obtain rfl := up_ret hm39 hn27
   obtain rfl := (eq_of_some hm19).symm
   exact WQ.ret3 Z Z Z Z fun w hw => kg hw
  refine sk (WQ.block (WQ.then (WC.region ?_)))
  obtain ⟨c41, hm42⟩ := cs hm40; clear hm40
  refine wq Z (QV.add Z Z Z Z c41) (wm Z (WL.nil ?_))
  exact WQ.again1 (x18_1 + 1) m24 (up_next hm42 hn27) (Nat.lt_succ_self _) ⟨Z, Z, Z, Z, trivial⟩ (pk [0])
 refine WC.exit (te (te (WQ.block_exit ?_)))
 exact WQ.out1 x18_1 (up_brk hm43 hn27) ⟨Z, Z, Z, Z, trivial⟩ (pk [0])
theorem text_reader_stmt_w {v_r_Loop_Logs v_r_Loop_Body v_r_Loop_Outs : Value} {b_r : Nat} {v_words : Value} {r_Loop_Logs : List Int} {r_Loop_Body : List Stm} {r_Loop_Outs : List Int} {words : List (List UInt8)} {r : Bool × List Stm} {K0 : World} (hm : text_reader_stmt_m r_Loop_Logs r_Loop_Body r_Loop_Outs words = some r) (h_r_Loop_Logs : SliceLen v_r_Loop_Logs r_Loop_Logs.length) (h_r_Loop_Body : SliceLen v_r_Loop_Body r_Loop_Body.length) (h_r_Loop_Outs : SliceLen v_r_Loop_Outs r_Loop_Outs.length) (h_words : Arr K0 v_words 1 (words.map scell)) (M : Nat → Prop) (w : World) (hGl : GlbM Tryd.prog M w) (hk : Base M K0 w) (hw0 : Own M w [blk b_r [v_r_Loop_Logs, v_r_Loop_Body, v_r_Loop_Outs] 40, vec v_r_Loop_Logs 3 1 (List.map icell r_Loop_Logs), vec v_r_Loop_Body 47 9 (List.map Stm.cells r_Loop_Body), vec v_r_Loop_Outs 3 1 (List.map icell r_Loop_Outs)] w) : Calls Tryd.prog 23 #[.pointer (some (⟨b_r, 0, none⟩)), v_words] w (fun e w' => ∃ X : Value × World, e = .returned (.bool r.1) ∧ Own M w (kn M w.heap.size K0 X.2 :: [blk b_r [v_r_Loop_Logs, X.1, v_r_Loop_Outs] 40, vec v_r_Loop_Logs 3 1 (List.map icell r_Loop_Logs), vec v_r_Loop_Outs 3 1 (List.map icell r_Loop_Outs), vec X.1 47 9 (List.map Stm.cells r.2)]) w' ∧ SliceLen X.1 (r.2).length) := by
 unfold text_reader_stmt_m at hm
 refine calls_of_WC (n := 121) (args := [.pointer (some (⟨b_r, 0, none⟩)), v_words]) Tryd.func23 Z Z (nl Z) ?_ (Own.startK hk hw0)
 refine sr (wa Z (ns (wm Z ?_)))
 obtain ⟨c1, hm2⟩ := cs hm; clear hm
 obtain ⟨p3, hp4⟩ := h_words.lenMap.ix (sz := 1) ln_len c1
 refine wq Z (QV.indexSlice sl36 Z Z Z Z hp4) (wl pl9 Z (fun w hw => CellsAt.one 0 (((Own.karr 0 Z hk h_words) w hw).ele hp4 c1) Z) ?_)
 obtain ⟨x5, hx6, hm7⟩ := bd_some hm2; clear hm2
 refine wq Z (QV.call en40 (ec Z eN) (fun w hw => have h := text_shape_w w hx6 (hGl.at hw); h)) (wm Z (wq Z (QV.extract Z Z Z) (wq Z (QV.extract Z Z Z) (wq Z (QV.extract Z Z Z) (wa Z (wa Z (wa Z (nt (WC.seq (sr (wm Z ?_)))))))))))
 refine wq Z (QV.not Z Z) (wm Z (gn Z (fun hG => QV.move Z Z) (gn Z (fun hG => QV.lenS Tryd.underlying36 Z hG h_words.lenMap) ?_)))
 obtain ⟨c8, hm9⟩ := cs hm7; clear hm7
 refine gn Z (fun hG => QV.sub Z hG Z Z (c8 hG)) (gn Z (fun hG => QV.move Z Z) (gn Z (fun hG => QV.lenStr Tryd.underlying9 Z hG) (gn Z (fun hG => QV.neq Z hG Z hG) (wq Z (QV.pickOr Z Z Z (fun h => notF h)) (wm Z (gn Z (fun hG => QV.move Z Z) (gn Z (fun hG => QV.nilCheck Z hG) (gn Z (fun hG => QV.fieldAddr fd40_0 Z hG) (gn Z (fun hG => QV.fieldAddr fd25_2 Z hG) ?_)))))))))
 refine gn Z (fun hG => QV.load pl22 Z hG (Own.cell 1 Z Z)) (gn Z (fun hG => QV.lenS Tryd.underlying22 Z hG h_r_Loop_Outs) (gn Z (fun hG => QV.gtr Z hG Z Z) (wq Z (QV.pickOr Z Z Z (fun h => notF h)) (nt ?_))))
 refine wc Z hm9 (fun h10 hm11 => ?_) (fun h10 hm12 => ?_) <;> clear hm9
 ·skip
  refine sr (wa Z (nt (WC.ret (tr ?_))))
  obtain rfl := (eq_of_some hm11).symm
  refine WQ.ret1 Z Z (fun w hw => ?_)
  exact ⟨(v_r_Loop_Body, K0), Z, hw.pick [0, 1, 2, 4, 3] (by decide), h_r_Loop_Body⟩
 refine sk (WQ.then (sr (wm Z (wq Z (QV.build (ps := [(0, .tmp 40)]) (cells := [i_ x5.1, i_ 0, i_ 0, i_ 0, i_ 0, i_ 0, i_ 0, i_ 0, i_ 0]) (ec Z eN) (by kernel_rfl)) (WL.effect Z ?_)))))
 refine (EV.alloc (by decide) ze47 (fun b13 => ?_))
 refine WL.effect Z ?_
 refine (EV.store 0 Z Z Z Z Z Z (vs := [i_ x5.1, i_ 0, i_ 0, i_ 0, i_ 0, i_ 0, i_ 0, i_ 0, i_ 0]) (show Value.cells _ = List.toArray _ from Z) sz47 (nl Z) (oc Z (oc Z (oc Z (oc Z (oc Z (oc Z (oc Z (oc Z (oc Z one_nil))))))))) ?_)
 refine nt (WC.seq (sr (wm Z (wq Z (QV.eql Z Z Z Z) (nt ?_)))))
 refine wc Z hm12 (fun h14 hm15 => ?_) (fun h14 hm28 => ?_) <;> clear hm12
 ·skip
  refine sr (wm Z ?_)
  obtain ⟨c16, hm17⟩ := cs hm15; clear hm15
  obtain ⟨p18, hp19⟩ := h_words.lenMap.ix (sz := 1) ln_len c16
  refine wq Z (QV.indexSlice sl36 Z Z Z Z hp19) (wl pl9 Z (fun w hw => CellsAt.one 0 (((Own.karr 1 Z hk h_words) w hw).ele hp19 c16) Z) ?_)
  obtain ⟨x20, hx21, hm22⟩ := bd_some hm17; clear hm17
  refine wq Z (QV.call en41 (ec Z (ec Z eN)) (fun w hw => have h := text_whole_w w hx21 (hGl.at hw); h)) (wm Z (wq Z (QV.extract Z Z Z) (wq Z (QV.extract Z Z Z) (wf fd47_6 Z (WL.effect Z ?_)))))
  refine (EV.store 0 Z Z Z Z Z Z (vs := [i_ x20.1]) (show Value.cells _ = List.toArray _ from Z) sz2 (nl Z) (oc Z one_nil) ?_)
  refine wa Z (nt (WC.seq (WC.dr (m := 13) (S := Own M w [kn M w.heap.size K0 K0, blk b13 [i_ x5.1, i_ 0, i_ 0, i_ 0, i_ 0, i_ 0, i_ 0, i_ 0, i_ x20.1] 47, blk b_r [v_r_Loop_Logs, v_r_Loop_Body, v_r_Loop_Outs] 40, vec v_r_Loop_Logs 3 1 (List.map icell r_Loop_Logs), vec v_r_Loop_Outs 3 1 (List.map icell r_Loop_Outs)]) (by kernel_rfl) (by kernel_rfl) (pk [1, 0, 2, 3, 5]) (zm 0 Z Z (zm 1 Z Z (wz 2 Z Z (QV.nilCheck Z Z) (zf 3 fd40_0 Z Z (zf 4 fd25_1 Z Z (zl 5 pl23 Z Z (Own.cell 2 Z Z) (wz 6 Z Z (QV.loadAgg ag47 Z Z Z (Own.cellsBlk 1 Z)) ?_))))))))))
  refine WD.o 7 Z (by kernel_rfl) Z ?_
  refine (EV.buildSlice (by decide) sz_23 (by decide) (by decide) (ps := [(0, .tmp 58)]) (cells := [i_ x5.1, i_ 0, i_ 0, i_ 0, i_ 0, i_ 0, i_ 0, i_ 0, i_ x20.1]) (ec Z eN) (by kernel_rfl) (fun b23 => ?_))
  refine WD.b (H' := [kn M w.heap.size K0 K0, blk b23 [i_ x5.1, i_ 0, i_ 0, i_ 0, i_ 0, i_ 0, i_ 0, i_ 0, i_ x20.1] 47, blk b13 [i_ x5.1, i_ 0, i_ 0, i_ 0, i_ 0, i_ 0, i_ 0, i_ 0, i_ x20.1] 47, blk b_r [v_r_Loop_Logs, v_r_Loop_Body, v_r_Loop_Outs] 40, vec v_r_Loop_Logs 3 1 (List.map icell r_Loop_Logs), vec v_r_Loop_Outs 3 1 (List.map icell r_Loop_Outs)]) (pk [2, 0, 1, 3, 4, 6]) (pk [0, 2, 3, 4, 5]) ?_
  refine WD.o 8 Z (by kernel_rfl) Z ?_
  obtain ⟨c24, hm25⟩ := cs hm22; clear hm22
  refine (EV.appendL (enc := Stm.cells) (xs := r_Loop_Body) (ys := [(Stm.mk x5.1 (Rf.mk 0 0) (Rf.mk 0 0) 0 0 0 x20.1)]) ((r_Loop_Body ++ [(Stm.mk x5.1 (Rf.mk 0 0) (Rf.mk 0 0) 0 0 0 x20.1)])) 5 (by decide) ve23 Z Z Z Z Z (Own.blkArr 0 (rows := [(Stm.mk x5.1 (Rf.mk 0 0) (Rf.mk 0 0) 0 0 0 x20.1)].map Stm.cells) Z Z (rows_len Stm.cells_len)) Stm.cells_len (Stm.cells_one _) Z c24.1 c24.2 (fun u26 hu27 => ?_))
  refine WD.b (H' := [kn M w.heap.size K0 K0, blk b23 [i_ x5.1, i_ 0, i_ 0, i_ 0, i_ 0, i_ 0, i_ 0, i_ 0, i_ x20.1] 47, blk b13 [i_ x5.1, i_ 0, i_ 0, i_ 0, i_ 0, i_ 0, i_ 0, i_ 0, i_ x20.1] 47, blk b_r [v_r_Loop_Logs, v_r_Loop_Body, v_r_Loop_Outs] 40, vec v_r_Loop_Logs 3 1 (List.map icell r_Loop_Logs), vec u26 47 9 (List.map Stm.cells (r_Loop_Body ++ [(Stm.mk x5.1 (Rf.mk 0 0) (Rf.mk 0 0) 0 0 0 x20.1)])), vec v_r_Loop_Outs 3 1 (List.map icell r_Loop_Outs)]) (pk [2, 0, 1, 3, 4, 5, 6]) (pk [0, 1, 2, 3, 4, 6]) ?_
  refine wz 9 Z Z (QV.nilCheck Z Z) (zf 10 fd40_0 Z Z (zf 11 fd25_1 Z Z ?_))
  refine WD.l 12 Z (by kernel_rfl) Z ?_
  refine (EV.store 3 Z Z Z Z Z Z (vs := [u26]) (SliceLen.cells hu27) sz23 (nl Z) (oc (SliceLen.one hu27) one_nil) ?_)
  refine WQ.then (sr (wm Z (wa Z (nt (WC.ret (tr ?_))))))
  obtain rfl := (eq_of_some hm25).symm
  refine WQ.ret1 Z Z (fun w hw => ?_)
  exact ⟨(u26, K0), Z, hw.pick [2, 3, 4, 6, 5] (by decide), hu27⟩
 refine sk (WQ.then (sr (wf fd47_3 Z (wf fd47_4 Z (wf fd47_5 Z (WL.effect Z ?_))))))
 refine (EV.buildSlice (by decide) sz_80 (by decide) (by decide) (ps := [(0, .tmp 65), (1, .tmp 66), (2, .tmp 67)]) (cells := [.pointer (some (⟨b13, 5, none⟩)), .pointer (some (⟨b13, 6, none⟩)), .pointer (some (⟨b13, 7, none⟩))]) (ec Z (ec Z (ec Z eN))) (by kernel_rfl) (fun b29 => ?_))
 refine WK.of (fun w hw => hw.blkVec (pcell b13) (([5, 6, 7] : List Int) : List Int) Z pcell_len (nl Z)) ?_
 refine WK.of (C' := Own M w [kn M w.heap.size K0 K0, vec (blkSlice b29 3 3) 79 1 (List.map (pcell b13) ([5, 6, 7] : List Int)), blk b13 [i_ x5.1, i_ 0, i_ 0, i_ 0, i_ 0, i_ 0, i_ 0, i_ 0, i_ 0] 47, blk b_r [v_r_Loop_Logs, v_r_Loop_Body, v_r_Loop_Outs] 40, vec v_r_Loop_Logs 3 1 (List.map icell r_Loop_Logs), vec v_r_Loop_Body 47 9 (List.map Stm.cells r_Loop_Body), vec v_r_Loop_Outs 3 1 (List.map icell r_Loop_Outs)]) (pk [2, 0, 1, 3, 4, 5, 6]) ?_
 refine WK.freeze hk (fun k30 hle30 hr30 => ?_)
 have hA30 := vec_arr hr30
 refine wf fd47_1 Z (wf fd47_2 Z (WL.effect Z ?_))
 refine (EV.buildSlice (by decide) sz_82 (by decide) (by decide) (ps := [(0, .tmp 69), (1, .tmp 70)]) (cells := [.pointer (some (⟨b13, 1, none⟩)), .pointer (some (⟨b13, 3, none⟩))]) (ec Z (ec Z eN)) (by kernel_rfl) (fun b31 => ?_))
 refine WK.of (fun w hw => hw.blkVec (pcell b13) (([1, 3] : List Int) : List Int) Z pcell_len (nl Z)) ?_
 refine WK.of (C' := Own M w [kn M w.heap.size K0 k30, vec (blkSlice b31 2 2) 81 1 (List.map (pcell b13) ([1, 3] : List Int)), blk b13 [i_ x5.1, i_ 0, i_ 0, i_ 0, i_ 0, i_ 0, i_ 0, i_ 0, i_ 0] 47, blk b_r [v_r_Loop_Logs, v_r_Loop_Body, v_r_Loop_Outs] 40, vec v_r_Loop_Logs 3 1 (List.map icell r_Loop_Logs), vec v_r_Loop_Body 47 9 (List.map Stm.cells r_Loop_Body), vec v_r_Loop_Outs 3 1 (List.map icell r_Loop_Outs)]) (pk [1, 0, 2, 3, 4, 5, 6]) ?_
 refine WK.freeze hk (fun k32 hle32 hr32 => ?_)
 have hA32 := vec_arr hr32
 refine wa Z (wa Z (nt (WC.seq (sr (wm Z ?_)))))
 obtain ⟨c33, hm34⟩ := cs hm28; clear hm28
 have hA35 := subS_sub (h_words.le (hle30.trans hle32)) c33
 refine wq Z (QV.sliceLd sl36 Z Z (h_words.le (hle30.trans hle32)).lenMap Z Z c33) (wq Z (QV.lenS Tryd.underlying36 Z Z hA35.lenMap) (wm Z (nt ?_)))
 obtain ⟨o36, ho37, hm38⟩ := bd_some hm34; clear hm34; obtain ⟨n39, ho40⟩ := lp_some ho37
 refine WC.bloop6 (H2 := [kn M w.heap.size K0 k32, blk b_r [v_r_Loop_Logs, v_r_Loop_Body, v_r_Loop_Outs] 40, vec v_r_Loop_Logs 3 1 (List.map icell r_Loop_Logs), vec v_r_Loop_Body 47 9 (List.map Stm.cells r_Loop_Body), vec v_r_Loop_Outs 3 1 (List.map icell r_Loop_Outs)]) (τ := [u_ 0 _, u_ 6 _, u_ 8 _, u_ 73 _, u_ 74 _]) (fun (b13n_1 : List Int) (numbers9_1 : List Int) (refs10_1 : List Int) (x75_1 : Int) (vnumbers9_1 : Value) (vrefs10_1 : Value) => [(9, (true, vnumbers9_1)), (10, (true, vrefs10_1)), (75, (true, i_ x75_1))]) (fun b13n_1 numbers9_1 refs10_1 x75_1 vnumbers9_1 vrefs10_1 => [blk b13 (List.map i64v b13n_1) 47]) (fun b13n_1 numbers9_1 refs10_1 x75_1 vnumbers9_1 vrefs10_1 m => iter (text_reader_stmt_L0 r_Loop_Body words x5) m (b13n_1, numbers9_1, refs10_1, x75_1) = some o36 ∧ Arr k32 vnumbers9_1 1 (numbers9_1.map (pcell b13)) ∧ Arr k32 vrefs10_1 1 (refs10_1.map (pcell b13))) (fun b13n_1 numbers9_1 refs10_1 x75_1 vnumbers9_1 vrefs10_1 => o36 = .go (b13n_1, numbers9_1, refs10_1, x75_1) ∧ Arr k32 vnumbers9_1 1 (numbers9_1.map (pcell b13)) ∧ Arr k32 vrefs10_1 1 (refs10_1.map (pcell b13))) ([x5.1, 0, 0, 0, 0, 0, 0, 0, 0] : List Int) ([5, 6, 7] : List Int) ([1, 3] : List Int) 0 (blkSlice b29 3 3) (blkSlice b31 2 2) n39 ⟨ho40, (hA30.le hle32), hA32⟩ ⟨Z, Z, Z, Z, Z, Z, Z, Z, trivial⟩ (pk [1, 0, 2, 3, 4, 5]) ?_ ?_
 ·skip
  rintro b13n_1 numbers9_1 refs10_1 x75_1 vnumbers9_1 vrefs10_1 ⟨rfl, hAnumbers9_1, hArefs10_1⟩
  refine WQ.then (WC.seq (WC.dr (m := 13) (S := Own M w [kn M w.heap.size K0 k32, blk b13 (List.map i64v b13n_1) 47, blk b_r [v_r_Loop_Logs, v_r_Loop_Body, v_r_Loop_Outs] 40, vec v_r_Loop_Logs 3 1 (List.map icell r_Loop_Logs), vec v_r_Loop_Outs 3 1 (List.map icell r_Loop_Outs)]) (by kernel_rfl) (by kernel_rfl) (pk [1, 0, 2, 3, 5]) (zm 0 Z Z (zm 1 Z Z (wz 2 Z Z (QV.nilCheck Z Z) (zf 3 fd40_0 Z Z (zf 4 fd25_1 Z Z (zl 5 pl23 Z Z (Own.cell 2 Z Z) ?_))))))))
  obtain ⟨c41, c44, hm45⟩ := cs2 hm38; clear hm38
  refine wz 6 Z Z (QV.loadAgg (cs := (stmOf b13n_1).cells) ag47 Z Z Z (Own.cellsL (c := i64v) (xs := b13n_1) 1 Z (stmOf_cells c41))) ?_
  refine WD.o 7 Z (by kernel_rfl) Z ?_
  refine (EV.buildSlice (by decide) sz_23 (by decide) (by decide) (ps := [(0, .tmp 115)]) (cells := (Stm.cells (stmOf b13n_1))) (ec Z eN) (by kernel_rfl) (fun b43 => ?_))
  refine WD.b (H' := [kn M w.heap.size K0 k32, blk b43 (Stm.cells (stmOf b13n_1)) 47, blk b13 (List.map i64v b13n_1) 47, blk b_r [v_r_Loop_Logs, v_r_Loop_Body, v_r_Loop_Outs] 40, vec v_r_Loop_Logs 3 1 (List.map icell r_Loop_Logs), vec v_r_Loop_Outs 3 1 (List.map icell r_Loop_Outs)]) (pk [2, 0, 1, 3, 4, 6]) (pk [0, 2, 3, 4, 5]) ?_
  refine WD.o 8 Z (by kernel_rfl) Z ?_
  refine (EV.appendL (enc := Stm.cells) (xs := r_Loop_Body) (ys := [(stmOf b13n_1)]) ((r_Loop_Body ++ [(stmOf b13n_1)])) 5 (by decide) ve23 Z Z Z Z Z (Own.blkArr 0 (rows := [(stmOf b13n_1)].map Stm.cells) Z Z (rows_len Stm.cells_len)) Stm.cells_len (Stm.cells_one _) Z c44.1 c44.2 (fun u46 hu47 => ?_))
  refine WD.b (H' := [kn M w.heap.size K0 k32, blk b43 (Stm.cells (stmOf b13n_1)) 47, blk b13 (List.map i64v b13n_1) 47, blk b_r [v_r_Loop_Logs, v_r_Loop_Body, v_r_Loop_Outs] 40, vec v_r_Loop_Logs 3 1 (List.map icell r_Loop_Logs), vec u46 47 9 (List.map Stm.cells (r_Loop_Body ++ [(stmOf b13n_1)])), vec v_r_Loop_Outs 3 1 (List.map icell r_Loop_Outs)]) (pk [2, 0, 1, 3, 4, 5, 6]) (pk [0, 1, 2, 3, 4, 6]) ?_
  refine wz 9 Z Z (QV.nilCheck Z Z) (zf 10 fd40_0 Z Z (zf 11 fd25_1 Z Z ?_))
  refine WD.l 12 Z (by kernel_rfl) Z ?_
  refine (EV.store 3 Z Z Z Z Z Z (vs := [u46]) (SliceLen.cells hu47) sz23 (nl Z) (oc (SliceLen.one hu47) one_nil) ?_)
  refine WQ.then (sr (wa Z (nt (WC.ret ?_))))
  obtain rfl := (eq_of_some hm45).symm
  refine WQ.ret1 Z Z (fun w hw => ?_)
  exact ⟨(u46, k32), Z, hw.pick [2, 3, 4, 6, 5] (by decide), hu47⟩
 rintro b13n_1 numbers9_1 refs10_1 x75_1 vnumbers9_1 vrefs10_1 m48 ⟨hI49, hAnumbers9_1, hArefs10_1⟩
 obtain ⟨m50, s51, rfl, hm52, hn53⟩ := iter_step hI49; clear hI49; unfold text_reader_stmt_L0 at hm52; simp only at hm52
 refine sr (wq Z (QV.lss Z Z Z Z) (nt (WC.seq ?_)))
 refine wc Z hm52 (fun h54 hm55 => ?_) (fun h54 hm101 => ?_) <;> clear hm52
 ·skip
  refine sk (WQ.then (WC.seq (WC.block (sr (wm Z ?_)))))
  obtain ⟨c56, hm57⟩ := cs hm55; clear hm55
  obtain ⟨p58, hp59⟩ := hA35.lenMap.ix (sz := 1) ln_len c56
  refine wq Z (QV.indexSlice sl36 Z Z Z Z hp59) (wl pl9 Z (fun w hw => CellsAt.one 0 (((Own.karr 1 Z hk hA35) w hw).ele hp59 c56) Z) (wa Z (wa Z (nt (WC.seq (sr (wm Z (wm Z ?_))))))))
  obtain ⟨c60, hm61⟩ := cs hm57; clear hm57
  refine wq Z (QV.indexStr Tryd.underlying9 Z Z Z Z c60) (wq Z (QV.eql Z Z Z Z) (nt ?_))
  refine wc Z hm61 (fun h62 hm63 => ?_) (fun h62 hm81 => ?_) <;> clear hm61
  ·skip
   refine WC.seq (WC.dr (m := 11) (S := Own M w [kn M w.heap.size K0 k32, blk b_r [v_r_Loop_Logs, v_r_Loop_Body, v_r_Loop_Outs] 40, vec v_r_Loop_Logs 3 1 (List.map icell r_Loop_Logs), vec v_r_Loop_Body 47 9 (List.map Stm.cells r_Loop_Body), vec v_r_Loop_Outs 3 1 (List.map icell r_Loop_Outs)]) (by kernel_rfl) (by kernel_rfl) (pk [1, 2, 3, 4, 5]) (zm 0 Z Z ?_))
   obtain ⟨c64, hm65⟩ := cs hm63; clear hm63
   obtain ⟨p66, hp67⟩ := hAnumbers9_1.lenMap.ix (sz := 1) ln_len c64
   refine wz 1 Z Z (QV.indexSlice sl80 Z Z Z Z hp67) (zl 2 pl79 Z Z (fun w hw => CellsAt.one 0 (((Own.karr 0 Z hk hAnumbers9_1) w hw).ele hp67 c64) Z) (zm 3 Z Z ?_))
   obtain ⟨x68, hx69, hm70⟩ := bd_some hm65; clear hm65
   refine wz 4 Z Z (QV.call en24 (ec Z eN) (fun w hw => have h := text_small_w w hx69 (hGl.at hw); h)) (zm 5 Z Z (wz 6 Z Z (QV.extract Z Z Z) (wz 7 Z Z (QV.extract Z Z Z) (wz 8 Z Z (QV.nilCheck Z Z) ?_))))
   refine WD.o 9 Z (by kernel_rfl) Z ?_
   obtain ⟨c71, c73, hm74⟩ := cs2 hm70; clear hm70
   refine (EV.storeB (c := i64v) (xs := b13n_1) 0 (ele numbers9_1 0) x68.1 Z Z Z Z Z Z c71 Z Z sz3 ?_)
   refine WD.b (H' := [kn M w.heap.size K0 k32, blk b13 (List.map i64v (upd b13n_1 (ele numbers9_1 0) x68.1)) 47, blk b_r [v_r_Loop_Logs, v_r_Loop_Body, v_r_Loop_Outs] 40, vec v_r_Loop_Logs 3 1 (List.map icell r_Loop_Logs), vec v_r_Loop_Body 47 9 (List.map Stm.cells r_Loop_Body), vec v_r_Loop_Outs 3 1 (List.map icell r_Loop_Outs)]) (pk [1, 0, 2, 3, 4, 5]) (pk [0, 2, 3, 4, 5]) ?_
   refine wz 10 Z Z (QV.assign Z Z) ?_
   refine WD.e (by kernel_rfl) ?_
   refine WQ.then (WC.region (wm Z ?_))
   have hA75 := subS_sub hAnumbers9_1 c73
   refine wq Z (QV.sliceLd sl80 Z Z hAnumbers9_1.lenMap Z Z c73) (wa Z (ns (wm Z (wq Z (QV.not Z Z) (nt ?_)))))
   refine wc Z hm74 (fun h76 hm77 => ?_) (fun h76 hm78 => ?_) <;> clear hm74
   ·skip
    refine sr (wa Z (nt (WC.ret (kr (tr (tr (kr (tr (tr ?_)))))))))
    obtain rfl := up_ret hm77 hn53
    obtain rfl := (eq_of_some hm38).symm
    refine WQ.ret1 Z Z (fun w hw => ?_)
    exact ⟨(v_r_Loop_Body, k32), Z, hw.pick [1, 2, 3, 5, 4] (by decide), h_r_Loop_Body⟩
   refine sk (WQ.block (WQ.then (WC.region ?_)))
   obtain ⟨c79, hm80⟩ := cs hm78; clear hm78
   refine wq Z (QV.add Z Z Z Z c79) (wm Z (WL.nil ?_))
   exact WQ.again6 (upd b13n_1 (ele numbers9_1 0) x68.1) (sub numbers9_1 1 (ln numbers9_1)) refs10_1 (x75_1 + 1) (subS vnumbers9_1 1 (Int.toNat 1) (Int.toNat (ln numbers9_1))) vrefs10_1 m50 ⟨up_next hm80 hn53, hA75, hArefs10_1⟩ (Nat.lt_succ_self _) ⟨Z, Z, Z, Z, Z, Z, Z, Z, trivial⟩ (pk [0, 1, 2, 3, 4, 5])
  refine WC.seq (WC.dr (m := 11) (S := Own M w [kn M w.heap.size K0 k32, blk b_r [v_r_Loop_Logs, v_r_Loop_Body, v_r_Loop_Outs] 40, vec v_r_Loop_Logs 3 1 (List.map icell r_Loop_Logs), vec v_r_Loop_Body 47 9 (List.map Stm.cells r_Loop_Body), vec v_r_Loop_Outs 3 1 (List.map icell r_Loop_Outs)]) (by kernel_rfl) (by kernel_rfl) (pk [1, 2, 3, 4, 5]) (zm 0 Z Z ?_))
  obtain ⟨c82, hm83⟩ := cs hm81; clear hm81
  obtain ⟨p84, hp85⟩ := hArefs10_1.lenMap.ix (sz := 1) ln_len c82
  refine wz 1 Z Z (QV.indexSlice sl82 Z Z Z Z hp85) (zl 2 pl81 Z Z (fun w hw => CellsAt.one 0 (((Own.karr 0 Z hk hArefs10_1) w hw).ele hp85 c82) Z) (zm 3 Z Z ?_))
  obtain ⟨x86, hx87, hm88⟩ := bd_some hm83; clear hm83
  refine wz 4 Z Z (QV.call en42 (ec Z eN) (fun w hw => have h := text_reads_w w hx87 (hGl.at hw); h)) (zm 5 Z Z (wz 6 Z Z (QV.extract Z Z Z) (wz 7 Z Z (QV.extract Z Z Z) (wz 8 Z Z (QV.nilCheck Z Z) ?_))))
  refine WD.o 9 Z (by kernel_rfl) Z ?_
  obtain ⟨c89, c91, c93, hm94⟩ := cs3 hm88; clear hm88
  refine (EV.storeB2 (xs := b13n_1) 0 (ele refs10_1 0) x86.1.st x86.1.bk Z Z Z Z Z Z c89 c91 Z sz45 ?_)
  refine WD.b (H' := [kn M w.heap.size K0 k32, blk b13 (List.map i64v (upd (upd b13n_1 (ele refs10_1 0) x86.1.st) ((ele refs10_1 0) + 1) x86.1.bk)) 47, blk b_r [v_r_Loop_Logs, v_r_Loop_Body, v_r_Loop_Outs] 40, vec v_r_Loop_Logs 3 1 (List.map icell r_Loop_Logs), vec v_r_Loop_Body 47 9 (List.map Stm.cells r_Loop_Body), vec v_r_Loop_Outs 3 1 (List.map icell r_Loop_Outs)]) (pk [1, 0, 2, 3, 4, 5]) (pk [0, 2, 3, 4, 5]) ?_
  refine wz 10 Z Z (QV.assign Z Z) ?_
  refine WD.e (by kernel_rfl) ?_
  refine WQ.then (WC.region (wm Z ?_))
  have hA95 := subS_sub hArefs10_1 c93
  refine wq Z (QV.sliceLd sl82 Z Z hArefs10_1.lenMap Z Z c93) (wa Z (ns (wm Z (wq Z (QV.not Z Z) (nt ?_)))))
  refine wc Z hm94 (fun h96 hm97 => ?_) (fun h96 hm98 => ?_) <;> clear hm94
  ·skip
   refine sr (wa Z (nt (WC.ret (kr (tr (tr (kr (tr (tr ?_)))))))))
   obtain rfl := up_ret hm97 hn53
   obtain rfl := (eq_of_some hm38).symm
   refine WQ.ret1 Z Z (fun w hw => ?_)
   exact ⟨(v_r_Loop_Body, k32), Z, hw.pick [1, 2, 3, 5, 4] (by decide), h_r_Loop_Body⟩
  refine sk (WQ.block (WQ.then (WC.region ?_)))
  obtain ⟨c99, hm100⟩ := cs hm98; clear hm98
  refine wq Z (QV.add Z Z Z Z c99) (wm Z (WL.nil ?_))
  exact WQ.again6 (upd (upd b13n_1 (ele refs10_1 0) x86.1.st) ((ele refs10_1 0) + 1) x86.1.bk) numbers9_1 (sub refs10_1 1 (ln refs10_1)) (x75_1 + 1) vnumbers9_1 (subS vrefs10_1 1 (Int.toNat 1) (Int.toNat (ln refs10_1))) m50 ⟨up_next hm100 hn53, hAnumbers9_1, hA95⟩ (Nat.lt_succ_self _) ⟨Z, Z, Z, Z, Z, Z, Z, Z, trivial⟩ (pk [0, 1, 2, 3, 4, 5])
 refine WC.exit (te (te (WQ.block_exit ?_)))
 exact WQ.out6 b13n_1 numbers9_1 refs10_1 x75_1 vnumbers9_1 vrefs10_1 ⟨up_brk hm101 hn53, hAnumbers9_1, hArefs10_1⟩ ⟨Z, Z, Z, Z, Z, Z, Z, Z, trivial⟩ (pk [0, 1, 2, 3, 4, 5])
theorem text_reader_line_w {v_r_Loop_Logs v_r_Loop_Body v_r_Loop_Outs : Value} {b_r : Nat} {r_Loop_Logs : List Int} {r_Loop_Body : List Stm} {r_Loop_Outs : List Int} {s : List UInt8} {r : Bool × List Int × List Stm × List Int} {K0 : World} (hm : text_reader_line_m r_Loop_Logs r_Loop_Body r_Loop_Outs s = some r) (h_r_Loop_Logs : SliceLen v_r_Loop_Logs r_Loop_Logs.length) (h_r_Loop_Body : SliceLen v_r_Loop_Body r_Loop_Body.length) (h_r_Loop_Outs : SliceLen v_r_Loop_Outs r_Loop_Outs.length) (M : Nat → Prop) (w : World) (hGl : GlbM Tryd.prog M w) (hk : Base M K0 w) (hw0 : Own M w [blk b_r [v_r_Loop_Logs, v_r_Loop_Body, v_r_Loop_Outs] 40, vec v_r_Loop_Logs 3 1 (List.map icell r_Loop_Logs), vec v_r_Loop_Body 47 9 (List.map Stm.cells r_Loop_Body), vec v_r_Loop_Outs 3 1 (List.map icell r_Loop_Outs)] w) : Calls Tryd.prog 11 #[.pointer (some (⟨b_r, 0, none⟩)), strV s] w (fun e w' => ∃ X : Value × Value × Value × World, e = .returned (.bool r.1) ∧ Own M w (kn M w.heap.size K0 X.2.2.2 :: [blk b_r [X.1, X.2.1, X.2.2.1] 40, vec X.1 3 1 (List.map icell r.2.1), vec X.2.1 47 9 (List.map Stm.cells r.2.2.1), vec X.2.2.1 3 1 (List.map icell r.2.2.2)]) w' ∧ SliceLen X.1 (r.2.1).length ∧ SliceLen X.2.1 (r.2.2.1).length ∧ SliceLen X.2.2.1 (r.2.2.2).length) := by
 unfold text_reader_line_m at hm
 refine calls_of_WC (n := 79) (args := [.pointer (some (⟨b_r, 0, none⟩)), strV s]) Tryd.func11 Z Z (nl Z) ?_ (Own.startK hk hw0)
 refine sr (wa Z (ns (wm Z (WL.effect Z ?_))))
 obtain ⟨x1, hx2, hm3⟩ := bd_some hm; clear hm
 refine (EV.callRG (X := Value × World) (R := []) (fun X => X.1) (fun X => []) (fun X => X.2) (fun X => Arr X.2 X.1 1 (x1.map scell)) hGl hk (fun _ h => by cases h; decide) en10 (ec Z (ec Z eN)) (fun M w hG h1 h2 => have h := Split_w hx2  M w hG h1 h2; h) (fun X4 hF4 hle4 => ?_))
 refine wa Z (nt (WC.seq (sr (wm Z ?_))))
 obtain ⟨c5, hm6⟩ := cs hm3; clear hm3
 obtain ⟨p7, hp8⟩ := hF4.lenMap.ix (sz := 1) ln_len c5
 refine wq Z (QV.indexSlice sl36 Z Z Z Z hp8) (wl pl9 Z (fun w hw => CellsAt.one 0 (((Own.karr 0 Z hk hF4) w hw).ele hp8 c5) Z) (wq Z (QV.strNeq Z Z Z Z) (wm Z (gp Z (fun hG => QV.move Z Z) ?_))))
 obtain ⟨c9, hm10⟩ := cs hm6; clear hm6
 obtain ⟨p11, hp12⟩ := hF4.lenMap.ixG (sz := 1) ln_len c9
 refine gp Z (fun hG => QV.indexSlice sl36 Z hG Z Z (hp12 hG)) (gp Z (fun hG => QV.load pl9 Z hG (fun w hw => CellsAt.one 0 (((Own.karr 0 Z hk hF4) w hw).ele (hp12 hG) (c9 hG)) Z)) (gp Z (fun hG => QV.strNeq Z hG Z Z) (wq Z (QV.pickAnd Z Z Z (fun h => h)) (nt ?_))))
 refine wc Z hm10 (fun h13 hm14 => ?_) (fun h13 hm19 => ?_) <;> clear hm10
 ·skip
  refine sr (wm Z (wm Z (WL.effect Z ?_)))
  obtain ⟨x15, hx16, hm17⟩ := bd_some hm14; clear hm14
  refine (EV.callRG (X := Value × World) (R := [blk b_r [v_r_Loop_Logs, v_r_Loop_Body, v_r_Loop_Outs] 40, vec v_r_Loop_Logs 3 1 (List.map icell r_Loop_Logs), vec v_r_Loop_Body 47 9 (List.map Stm.cells r_Loop_Body), vec v_r_Loop_Outs 3 1 (List.map icell r_Loop_Outs)]) (fun X => .bool x15.1) (fun X => [blk b_r [v_r_Loop_Logs, X.1, v_r_Loop_Outs] 40, vec v_r_Loop_Logs 3 1 (List.map icell r_Loop_Logs), vec v_r_Loop_Outs 3 1 (List.map icell r_Loop_Outs), vec X.1 47 9 (List.map Stm.cells x15.2)]) (fun X => X.2) (fun X => SliceLen X.1 (x15.2).length) hGl hk (fun _ h => by cases h; decide) en23 (ec Z (ec Z eN)) (fun M w hG h1 h2 => have h := text_reader_stmt_w hx16 h_r_Loop_Logs h_r_Loop_Body h_r_Loop_Outs hF4 M w hG h1 h2; h) (fun X18 hF18 hle18 => ?_))
  refine wa Z (nt (WC.ret (tr ?_)))
  obtain rfl := (eq_of_some hm17).symm
  refine WQ.ret1 Z Z (fun w hw => ?_)
  exact ⟨(v_r_Loop_Logs, X18.1, v_r_Loop_Outs, X18.2), Z, hw.pick [0, 1, 2, 4, 3] (by decide), h_r_Loop_Logs, hF18, h_r_Loop_Outs⟩
 refine sk (WQ.then (WC.seq (sr (wm Z (wq Z (QV.lenS Tryd.underlying36 Z Z hF4.lenMap) (wq Z (QV.neq Z Z Z Z) (nt ?_)))))))
 refine wc Z hm19 (fun h20 hm21 => ?_) (fun h20 hm22 => ?_) <;> clear hm19
 ·skip
  refine sr (wa Z (nt (WC.ret (tr ?_))))
  obtain rfl := (eq_of_some hm21).symm
  refine WQ.ret1 Z Z (fun w hw => ?_)
  exact ⟨(v_r_Loop_Logs, v_r_Loop_Body, v_r_Loop_Outs, X4.2), Z, hw.pick [0, 1, 2, 3, 4] (by decide), h_r_Loop_Logs, h_r_Loop_Body, h_r_Loop_Outs⟩
 refine sk (WQ.then (sr (wm Z ?_)))
 obtain ⟨c23, hm24⟩ := cs hm22; clear hm22
 obtain ⟨p25, hp26⟩ := hF4.lenMap.ix (sz := 1) ln_len c23
 refine wq Z (QV.indexSlice sl36 Z Z Z Z hp26) (wl pl9 Z (fun w hw => CellsAt.one 0 (((Own.karr 0 Z hk hF4) w hw).ele hp26 c23) Z) ?_)
 obtain ⟨x27, hx28, hm29⟩ := bd_some hm24; clear hm24
 refine wq Z (QV.call en24 (ec Z eN) (fun w hw => have h := text_small_w w hx28 (hGl.at hw); h)) (wm Z (wq Z (QV.extract Z Z Z) (wq Z (QV.extract Z Z Z) (wa Z (wa Z (nt (WC.seq (sr (wm Z ?_)))))))))
 obtain ⟨c30, hm31⟩ := cs hm29; clear hm29
 obtain ⟨p32, hp33⟩ := hF4.lenMap.ix (sz := 1) ln_len c30
 refine wq Z (QV.indexSlice sl36 Z Z Z Z hp33) (wl pl9 Z (fun w hw => CellsAt.one 0 (((Own.karr 0 Z hk hF4) w hw).ele hp33 c30) Z) (wq Z (QV.strEql Z Z Z Z) (nt ?_)))
 refine wc Z hm31 (fun h34 hm35 => ?_) (fun h34 hm43 => ?_) <;> clear hm31
 ·skip
  refine WC.seq (WC.dr (m := 18) (by kernel_rfl) (by kernel_rfl) (fun w hw => hw) (zm 0 Z Z (zm 1 Z Z (zp 2 Z Z (fun hG => QV.move Z Z) (zp 3 Z Z (fun hG => QV.nilCheck Z hG) (zp 4 Z Z (fun hG => QV.fieldAddr fd40_0 Z hG) (zp 5 Z Z (fun hG => QV.fieldAddr fd25_1 Z hG) (zp 6 Z Z (fun hG => QV.load pl23 Z hG (Own.cell 1 Z Z)) (zp 7 Z Z (fun hG => QV.lenS Tryd.underlying23 Z hG h_r_Loop_Body) ?_)))))))))
  refine zp 8 Z Z (fun hG => QV.move Z Z) (zp 9 Z Z (fun hG => QV.nilCheck Z hG) (zp 10 Z Z (fun hG => QV.fieldAddr fd40_0 Z hG) (zp 11 Z Z (fun hG => QV.fieldAddr fd25_2 Z hG) (zp 12 Z Z (fun hG => QV.load pl22 Z hG (Own.cell 1 Z Z)) (zp 13 Z Z (fun hG => QV.lenS Tryd.underlying22 Z hG h_r_Loop_Outs) ?_)))))
  obtain ⟨c36, c39, hm40⟩ := cs2 hm35; clear hm35
  refine zp 14 Z Z (fun hG => QV.add Z hG Z hG (c36 hG)) (zp 15 Z Z (fun hG => QV.eql Z hG Z Z) (wz 16 Z Z (QV.pickAnd Z Z Z (fun h => h)) (wz 17 Z Z (QV.assign Z Z) ?_)))
  refine WD.e (by kernel_rfl) ?_
  refine WQ.then (WC.region (wm Z (wm Z (wq Z (QV.nilCheck Z Z) (wf fd40_0 Z (wf fd25_0 Z (wl pl22 Z (Own.cell 1 Z Z) (wm Z (WL.effect Z ?_)))))))))
  refine (EV.buildSlice (by decide) sz_22 (by decide) (by decide) (ps := [(0, .tmp 60)]) (cells := [i_ x27.1]) (ec Z eN) (by kernel_rfl) (fun b38 => ?_))
  refine WL.effect Z ?_
  refine (EV.appendL (enc := icell) (xs := r_Loop_Logs) (ys := [x27.1]) ((r_Loop_Logs ++ [x27.1])) 3 (by decide) ve22 Z Z Z Z Z (Own.blkArr 0 (rows := [x27.1].map icell) Z Z (rows_len icell_len)) icell_len (icell_one _) Z c39.1 c39.2 (fun u41 hu42 => ?_))
  refine wq Z (QV.nilCheck Z Z) (wf fd40_0 Z (wf fd25_0 Z (WL.effect Z ?_)))
  refine (EV.store 2 Z Z Z Z Z Z (vs := [u41]) (SliceLen.cells hu42) sz22 (nl Z) (oc (SliceLen.one hu42) one_nil) ?_)
  refine ns (wm Z (wa Z (nt (WC.ret ?_))))
  obtain rfl := (eq_of_some hm40).symm
  refine WQ.ret1 Z Z (fun w hw => ?_)
  exact ⟨(u41, v_r_Loop_Body, v_r_Loop_Outs, X4.2), Z, hw.pick [1, 2, 3, 4, 5] (by decide), hu42, h_r_Loop_Body, h_r_Loop_Outs⟩
 refine WC.region (wm Z (wm Z (wq Z (QV.nilCheck Z Z) (wf fd40_0 Z (wf fd25_2 Z (wl pl22 Z (Own.cell 1 Z Z) (wm Z (WL.effect Z ?_))))))))
 refine (EV.buildSlice (by decide) sz_22 (by decide) (by decide) (ps := [(0, .tmp 72)]) (cells := [i_ x27.1]) (ec Z eN) (by kernel_rfl) (fun b44 => ?_))
 refine WL.effect Z ?_
 obtain ⟨c45, hm46⟩ := cs hm43; clear hm43
 refine (EV.appendL (enc := icell) (xs := r_Loop_Outs) (ys := [x27.1]) ((r_Loop_Outs ++ [x27.1])) 5 (by decide) ve22 Z Z Z Z Z (Own.blkArr 0 (rows := [x27.1].map icell) Z Z (rows_len icell_len)) icell_len (icell_one _) Z c45.1 c45.2 (fun u47 hu48 => ?_))
 refine wq Z (QV.nilCheck Z Z) (wf fd40_0 Z (wf fd25_2 Z (WL.effect Z ?_)))
 refine (EV.store 2 Z Z Z Z Z Z (vs := [u47]) (SliceLen.cells hu48) sz22 (nl Z) (oc (SliceLen.one hu48) one_nil) ?_)
 refine ns (wm Z (wa Z (nt (WC.ret ?_))))
 obtain rfl := (eq_of_some hm46).symm
 refine WQ.ret1 Z Z (fun w hw => ?_)
 exact ⟨(v_r_Loop_Logs, v_r_Loop_Body, u47, X4.2), Z, hw.pick [1, 2, 3, 4, 5] (by decide), h_r_Loop_Logs, h_r_Loop_Body, hu48⟩
theorem text_Parse_w {s : List UInt8} {r : Lp × Flt} {K0 : World} (hm : text_Parse_m s = some r)  (M : Nat → Prop) (w : World) (hGl : GlbM Tryd.prog M w) (hk : Base M K0 w) (hw0 : Own M w [] w) : Calls Tryd.prog 6 #[strV s] w (fun e w' => ∃ X : Value × Value × Value × World, e = .returned (.tuple #[.agg #[X.1, X.2.1, X.2.2.1], .agg #[.int .i64 r.2.code, .int .i64 r.2.at']]) ∧ Own M w (kn M w.heap.size K0 X.2.2.2 :: []) w' ∧ Arr X.2.2.2 X.1 1 (r.1.logs.map icell) ∧ Arr X.2.2.2 X.2.1 9 (r.1.body.map Stm.cells) ∧ Arr X.2.2.2 X.2.2.1 1 (r.1.outs.map icell)) := by
 unfold text_Parse_m at hm
 refine calls_of_WC (n := 54) (args := [strV s]) Tryd.func6 Z Z (nl Z) ?_ (Own.startK hk hw0)
 refine sr (WL.effect Z ?_)
 refine (EV.alloc (by decide) ze25 (fun b1 => ?_))
 refine WL.effect Z ?_
 refine (EV.alloc (by decide) ze28 (fun b2 => ?_))
 refine ns (wm Z (WL.effect Z ?_))
 obtain ⟨x3, hx4, hm5⟩ := bd_some hm; clear hm
 refine EV.of (C' := Own M w [kn M w.heap.size K0 K0, blk b2 [i_ 0, i_ 0] 28, blk b1 [.slice none 0 0, .slice none 0 0, .slice none 0 0] 25]) (pk [2, 0, 1]) ?_
 refine (EV.callRG (X := Value × World) (R := []) (fun X => X.1) (fun X => []) (fun X => X.2) (fun X => Arr X.2 X.1 1 (x3.map scell)) hGl hk (fun _ h => by cases h; decide) en10 (ec Z (ec Z eN)) (fun M w hG h1 h2 => have h := Split_w hx4  M w hG h1 h2; h) (fun X6 hF6 hle6 => ?_))
 refine wa Z (ns (wm Z (wq Z (QV.lenS Tryd.underlying36 Z Z hF6.lenMap) ?_)))
 obtain ⟨c7, c10, hm11⟩ := cs2 hm5; clear hm5
 refine wq Z (QV.sub Z Z Z Z c7) (wa Z (ns (wq Z (QV.build (ps := []) (cells := [.slice none 0 0, .slice none 0 0, .slice none 0 0]) eN (by kernel_rfl)) (WL.effect Z ?_))))
 refine (EV.boxAgg (by decide) Z Z (fun b9 => ?_))
 refine wa Z (nt (WC.seq (sr (wm Z (wm Z ?_)))))
 have hA12 := subS_sub hF6 c10
 refine wq Z (QV.sliceHd sl36 Z Z hF6.lenMap Z Z c10) (wq Z (QV.lenS Tryd.underlying36 Z Z hA12.lenMap) (wm Z (nt ?_)))
 refine WK.of (fun w hw => hw.vecNil (E := 3) (sz := 1) (enc := icell)) ?_
 refine WK.of (fun w hw => hw.vecNil (E := 47) (sz := 9) (enc := Stm.cells)) ?_
 refine WK.of (fun w hw => hw.vecNil (E := 3) (sz := 1) (enc := icell)) ?_
 obtain ⟨o16, ho17, hm18⟩ := bd_some hm11; clear hm11; obtain ⟨n19, ho20⟩ := lp_some ho17
 refine WC.bloop8 (H2 := [blk b2 [i_ 0, i_ 0] 28, blk b1 [.slice none 0 0, .slice none 0 0, .slice none 0 0] 25]) (τ := [u_ 2 _, u_ 3 _, u_ 4 _, u_ 5 _, u_ 6 _, u_ 18 _, u_ 19 _]) (fun (v15_1 : List Int) (v14_1 : List Stm) (v13_1 : List Int) (x20_1 : Int) (uv15_1 : Value) (uv14_1 : Value) (uv13_1 : Value) (k_1 : World) => [(20, (true, i_ x20_1))]) (fun v15_1 v14_1 v13_1 x20_1 uv15_1 uv14_1 uv13_1 k_1 => [vec uv15_1 3 1 (List.map icell v15_1), vec uv14_1 47 9 (List.map Stm.cells v14_1), vec uv13_1 3 1 (List.map icell v13_1), blk b9 [uv13_1, uv14_1, uv15_1] 40, kn M w.heap.size K0 k_1]) (fun v15_1 v14_1 v13_1 x20_1 uv15_1 uv14_1 uv13_1 k_1 m => iter (text_Parse_L0 x3) m (v15_1, v14_1, v13_1, x20_1) = some o16 ∧ SliceLen uv15_1 v15_1.length ∧ SliceLen uv14_1 v14_1.length ∧ SliceLen uv13_1 v13_1.length ∧ Le X6.2 k_1) (fun v15_1 v14_1 v13_1 x20_1 uv15_1 uv14_1 uv13_1 k_1 => o16 = .go (v15_1, v14_1, v13_1, x20_1) ∧ SliceLen uv15_1 v15_1.length ∧ SliceLen uv14_1 v14_1.length ∧ SliceLen uv13_1 v13_1.length ∧ Le X6.2 k_1) [] [] [] 0 (.slice none 0 0) (.slice none 0 0) (.slice none 0 0) X6.2 n19 ⟨ho20, SliceLen.nil, SliceLen.nil, SliceLen.nil, (Le.refl _)⟩ ⟨Z, Z, Z, Z, Z, Z, Z, Z, trivial⟩ (pk [0, 1, 2, 3, 4, 5, 6]) ?_ ?_
 ·skip
  rintro v15_1 v14_1 v13_1 x20_1 uv15_1 uv14_1 uv13_1 k_1 ⟨rfl, hlv15_1, hlv14_1, hlv13_1, hle_1⟩
  refine WQ.then (WC.seq (sr (wm Z (wm Z ?_))))
  obtain ⟨c21, hm22⟩ := cs hm18; clear hm18
  obtain ⟨p23, hp24⟩ := (hF6.le hle_1).lenMap.ix (sz := 1) ln_len c21
  refine wq Z (QV.indexSlice sl36 Z Z Z Z hp24) (wl pl9 Z (fun w hw => CellsAt.one 0 (((Own.karr 4 Z hk (hF6.le hle_1)) w hw).ele hp24 c21) Z) (wq Z (QV.strNeq Z Z Z Z) (wm Z (gn Z (fun hG => QV.move Z Z) (gn Z (fun hG => QV.nilCheck Z hG) (gn Z (fun hG => QV.fieldAddr fd40_0 Z hG) (gn Z (fun hG => QV.loadAgg ag25 Z Z hG (Own.cellsBlk 3 Z)) ?_)))))))
  obtain ⟨x25, hx26, hm27⟩ := bdG_some hm22; clear hm22
  refine gn Z (fun hG => QV.call en12 (EvAll.cons Z hG eN) (fun w hw => have h := loop_May_w w (hx26 hG) ((Own.vecArr 2 Z) w hw) ((Own.vecArr 1 Z) w hw) ((Own.vecArr 0 Z) w hw); h)) (gn Z (fun hG => QV.not Z hG) (wq Z (QV.pickOr Z Z Z (fun h => notF h)) (nt ?_)))
  refine wc Z hm27 (fun h28 hm29 => ?_) (fun h28 hm30 => ?_) <;> clear hm27
  ·skip
   refine sr (wq Z (QV.build (ps := []) (cells := [.slice none 0 0, .slice none 0 0, .slice none 0 0]) eN (by kernel_rfl)) (wm Z (wq Z (QV.build (ps := [(0, .const (i_ 2)), (1, .tmp 47)]) (cells := [i_ 2, i_ ((ln x3) - 1)]) (ec Z (ec Z eN)) (by kernel_rfl)) (WL.effect Z ?_))))
   refine (EV.store 6 Z Z Z Z Z Z (vs := [.slice none 0 0, .slice none 0 0, .slice none 0 0]) (show Value.cells _ = List.toArray _ from Z) sz25 (nl Z) (oc Z (oc Z (oc Z one_nil))) ?_)
   refine WL.effect Z ?_
   refine (EV.store 5 Z Z Z Z Z Z (vs := [i_ 2, i_ ((ln x3) - 1)]) (show Value.cells _ = List.toArray _ from Z) sz28 (nl Z) (oc Z (oc Z one_nil)) ?_)
   refine nt (WC.ret (tr ?_))
   obtain rfl := (eq_of_some hm29).symm
   refine WQ.retCell2 Z ag25 Z Z (Own.cellsBlk 6 Z) ag28 Z Z (Own.cellsBlk 5 Z) (fun w hw => ?_)
   exact ⟨(.slice none 0 0, .slice none 0 0, .slice none 0 0, k_1), Z, hw.pick [4] (by decide), Arr.nil, Arr.nil, Arr.nil⟩
  refine sk (WQ.then (sr (wm Z (wq Z (QV.nilCheck Z Z) (wf fd40_0 Z (wq Z (QV.loadAgg ag25 Z Z Z (Own.cellsBlk 3 Z)) (wq Z (QV.build (ps := []) (cells := [i_ 0, i_ 0]) eN (by kernel_rfl)) (WL.effect Z ?_))))))))
  refine (EV.store 6 Z Z Z Z Z Z (vs := [uv13_1, uv14_1, uv15_1]) (show Value.cells _ = List.toArray _ from Z) sz25 (nl Z) (oc (SliceLen.one hlv13_1) (oc (SliceLen.one hlv14_1) (oc (SliceLen.one hlv15_1) one_nil))) ?_)
  refine WL.effect Z ?_
  refine (EV.store 5 Z Z Z Z Z Z (vs := [i_ 0, i_ 0]) (show Value.cells _ = List.toArray _ from Z) sz28 (nl Z) (oc Z (oc Z one_nil)) ?_)
  refine nt (WC.ret ?_)
  obtain rfl := (eq_of_some hm30).symm
  refine WK.of (C' := Own M w [kn M w.heap.size K0 k_1, vec uv13_1 3 1 (List.map icell v13_1), vec uv15_1 3 1 (List.map icell v15_1), vec uv14_1 47 9 (List.map Stm.cells v14_1), blk b9 [uv13_1, uv14_1, uv15_1] 40, blk b2 [i_ 0, i_ 0] 28, blk b1 [uv13_1, uv14_1, uv15_1] 25]) (pk [4, 2, 0, 1, 3, 5, 6]) ?_
  refine WK.freeze hk (fun k31 hle31 hr31 => ?_)
  have hA31 := vec_arr hr31
  refine WK.of (C' := Own M w [kn M w.heap.size K0 k31, vec uv14_1 47 9 (List.map Stm.cells v14_1), vec uv15_1 3 1 (List.map icell v15_1), blk b9 [uv13_1, uv14_1, uv15_1] 40, blk b2 [i_ 0, i_ 0] 28, blk b1 [uv13_1, uv14_1, uv15_1] 25]) (pk [0, 2, 1, 3, 4, 5]) ?_
  refine WK.freeze hk (fun k32 hle32 hr32 => ?_)
  have hA32 := vec_arr hr32
  refine WK.freeze hk (fun k33 hle33 hr33 => ?_)
  have hA33 := vec_arr hr33
  refine WQ.retCell2 Z ag25 Z Z (Own.cellsBlk 3 Z) ag28 Z Z (Own.cellsBlk 2 Z) (fun w hw => ?_)
  exact ⟨(uv13_1, uv14_1, uv15_1, k33), Z, hw.pick [0] (by decide), (hA31.le (hle32.trans hle33)), (hA32.le hle33), hA33⟩
 rintro v15_1 v14_1 v13_1 x20_1 uv15_1 uv14_1 uv13_1 k_1 m34 ⟨hI35, hlv15_1, hlv14_1, hlv13_1, hle_1⟩
 obtain ⟨m36, s37, rfl, hm38, hn39⟩ := iter_step hI35; clear hI35; unfold text_Parse_L0 at hm38; simp only at hm38
 refine sr (wq Z (QV.lss Z Z Z Z) (nt (WC.seq ?_)))
 refine wc Z hm38 (fun h40 hm41 => ?_) (fun h40 hm55 => ?_) <;> clear hm38
 ·skip
  refine sk (WQ.then (WC.seq (WC.block (sr (wm Z ?_)))))
  obtain ⟨c42, hm43⟩ := cs hm41; clear hm41
  obtain ⟨p44, hp45⟩ := (hA12.le hle_1).lenMap.ix (sz := 1) ln_len c42
  refine wq Z (QV.indexSlice sl36 Z Z Z Z hp45) (wl pl9 Z (fun w hw => CellsAt.one 0 (((Own.karr 4 Z hk (hA12.le hle_1)) w hw).ele hp45 c42) Z) (wa Z (wa Z (ns (wm Z (wm Z (WL.effect Z ?_)))))))
  obtain ⟨x46, hx47, hm48⟩ := bd_some hm43; clear hm43
  refine EV.of (C' := Own M w [kn M w.heap.size K0 k_1, blk b9 [uv13_1, uv14_1, uv15_1] 40, vec uv13_1 3 1 (List.map icell v13_1), vec uv14_1 47 9 (List.map Stm.cells v14_1), vec uv15_1 3 1 (List.map icell v15_1), blk b2 [i_ 0, i_ 0] 28, blk b1 [.slice none 0 0, .slice none 0 0, .slice none 0 0] 25]) (pk [4, 3, 2, 1, 0, 5, 6]) ?_
  refine (EV.callRG (X := Value × Value × Value × World) (R := [blk b9 [uv13_1, uv14_1, uv15_1] 40, vec uv13_1 3 1 (List.map icell v13_1), vec uv14_1 47 9 (List.map Stm.cells v14_1), vec uv15_1 3 1 (List.map icell v15_1)]) (fun X => .bool x46.1) (fun X => [blk b9 [X.1, X.2.1, X.2.2.1] 40, vec X.1 3 1 (List.map icell x46.2.1), vec X.2.1 47 9 (List.map Stm.cells x46.2.2.1), vec X.2.2.1 3 1 (List.map icell x46.2.2.2)]) (fun X => X.2.2.2) (fun X => SliceLen X.1 (x46.2.1).length ∧ SliceLen X.2.1 (x46.2.2.1).length ∧ SliceLen X.2.2.1 (x46.2.2.2).length) hGl hk (fun _ h => by cases h; decide) en11 (ec Z (ec Z eN)) (fun M w hG h1 h2 => have h := text_reader_line_w hx47 hlv13_1 hlv14_1 hlv15_1 M w hG h1 h2; h) (fun X49 hF49 hle49 => ?_))
  refine wq Z (QV.not Z Z) (nt ?_)
  refine wc Z hm48 (fun h50 hm51 => ?_) (fun h50 hm52 => ?_) <;> clear hm48
  ·skip
   refine sr (wq Z (QV.build (ps := []) (cells := [.slice none 0 0, .slice none 0 0, .slice none 0 0]) eN (by kernel_rfl)) (wm Z (wq Z (QV.build (ps := [(0, .const (i_ 2)), (1, .tmp 30)]) (cells := [i_ 2, i_ x20_1]) (ec Z (ec Z eN)) (by kernel_rfl)) (WL.effect Z ?_))))
   refine (EV.store 6 Z Z Z Z Z Z (vs := [.slice none 0 0, .slice none 0 0, .slice none 0 0]) (show Value.cells _ = List.toArray _ from Z) sz25 (nl Z) (oc Z (oc Z (oc Z one_nil))) ?_)
   refine WL.effect Z ?_
   refine (EV.store 5 Z Z Z Z Z Z (vs := [i_ 2, i_ x20_1]) (show Value.cells _ = List.toArray _ from Z) sz28 (nl Z) (oc Z (oc Z one_nil)) ?_)
   refine nt (WC.ret (kr (tr (tr (kr (tr (tr ?_)))))))
   obtain rfl := up_ret hm51 hn39
   obtain rfl := (eq_of_some hm18).symm
   refine WQ.retCell2 Z ag25 Z Z (Own.cellsBlk 6 Z) ag28 Z Z (Own.cellsBlk 5 Z) (fun w hw => ?_)
   exact ⟨(.slice none 0 0, .slice none 0 0, .slice none 0 0, X49.2.2.2), Z, hw.pick [0] (by decide), Arr.nil, Arr.nil, Arr.nil⟩
  refine sk (WQ.block (WQ.then (WC.region ?_)))
  obtain ⟨c53, hm54⟩ := cs hm52; clear hm52
  refine wq Z (QV.add Z Z Z Z c53) (wm Z (WL.nil ?_))
  exact WQ.again8 x46.2.2.2 x46.2.2.1 x46.2.1 (x20_1 + 1) X49.2.2.1 X49.2.1 X49.1 X49.2.2.2 m36 ⟨up_next hm54 hn39, hF49.2.2, hF49.2.1, hF49.1, (hle_1.trans hle49)⟩ (Nat.lt_succ_self _) ⟨Z, Z, Z, Z, Z, Z, Z, Z, trivial⟩ (pk [4, 3, 2, 1, 0, 5, 6])
 refine WC.exit (te (te (WQ.block_exit ?_)))
 exact WQ.out8 v15_1 v14_1 v13_1 x20_1 uv15_1 uv14_1 uv13_1 k_1 ⟨up_brk hm55 hn39, hlv15_1, hlv14_1, hlv13_1, hle_1⟩ ⟨Z, Z, Z, Z, Z, Z, Z, Z, trivial⟩ (pk [0, 1, 2, 3, 4, 5, 6])
end Go.Proofs.YtaimbkndebaaiacDoor
end
section
namespace Go.Proofs.YtaimbkndebaaiacDoor
open Go.Rd
open TLib TLibR TNum0 TNum TLoop TPar
namespace TR14
theorem sz_36 : SliceZ Tryd.prog 36 9 1 [.string ByteArray.empty] := ⟨Tryd.underlying36, by kernel_rfl⟩
theorem sz_51 : SliceZ Tryd.prog 51 5 1 [.int .u8 0] := ⟨Tryd.underlying51, by kernel_rfl⟩
end TR14
open TR14
theorem R14_Digits_w {n_ : Int} {r : List UInt8} (w : World) (hm : R14_Digits_m n_ = some r)  : Calls Tryd.prog 27 #[.int .i64 n_] w (fun e w' => e = .returned (strV r) ∧ Grow w w') := by
 unfold R14_Digits_m at hm
 have hk := Base.rfl (w := w)
 refine calls_of_WC (n := 29) (args := [i_ n_]) Tryd.func27 Z Z (nl Z) ?_ (Own.startK hk (Own.start w))
 refine sr (wa Z (ns (wa Z (ns (wm Z (wa Z (nt (WC.seq ?_))))))))
 obtain ⟨o1, ho2, hm3⟩ := bd_some hm; clear hm; obtain ⟨n4, ho5⟩ := lp_some ho2
 refine WC.bloop2 (H2 := [kn noM w.heap.size w w]) (τ := [u_ 0 _]) (fun (s3_3 : List UInt8) (left4_3 : Int) => [(3, (true, strV s3_3)), (4, (true, i_ left4_3))]) (fun s3_3 left4_3 => []) (fun s3_3 left4_3 m => iter (R14_Digits_L0) m (s3_3, left4_3) = some o1) (fun s3_3 left4_3 => o1 = .go (s3_3, left4_3)) [] n_ n4 ho5 ⟨Z, Z, Z, trivial⟩ (pk [0]) ?_ ?_
 ·skip
  rintro s3_3 left4_3 rfl
  refine WQ.then (WC.seq (sr (wm Z (wq Z (QV.lss Z Z Z Z) (nt ?_)))))
  refine wc Z hm3 (fun h6 hm7 => ?_) (fun h6 hm10 => ?_) <;> clear hm3
  ·skip
   refine sr (wm Z ?_)
   obtain ⟨c8, hm9⟩ := cs hm7; clear hm7
   refine wq Z (QV.strAddD Z Z Z Z c8) (wa Z (nt (WC.ret (tr ?_))))
   obtain rfl := (eq_of_some hm9).symm
   exact WQ.ret1 Z Z fun w hw => kg hw
  refine sk (WQ.then (sr (wm Z (wa Z (nt (WC.ret ?_))))))
  obtain rfl := (eq_of_some hm10).symm
  exact WQ.ret1 Z Z fun w hw => kg hw
 rintro s3_3 left4_3 m11 hI12
 obtain ⟨m13, s14, rfl, hm15, hn16⟩ := iter_step hI12; clear hI12; unfold R14_Digits_L0 at hm15; simp only at hm15
 refine WC.block (sr (wm Z (wq Z (QV.rem Z Z Z Z (by decide)) (wa Z (nt (WC.seq (sr (wm Z (wq Z (QV.lss Z Z Z Z) (nt ?_))))))))))
 obtain ⟨o17, hj18, hm19⟩ := bd_some hm15; clear hm15
 refine WC.joint1 (H2 := [kn noM w.heap.size w w]) (τ := [u_ 0 _, u_ 3 _, u_ 4 _]) (fun (d5_4 : Int) => [(5, (true, i_ d5_4))]) (fun d5_4 => []) (fun d5_4 => o17 = .go d5_4) ⟨Z, Z, Z, trivial⟩ (pk [0]) ?_ ?_
 ·skip
  rintro d5_4 rfl
  refine sr (wm Z ?_)
  obtain ⟨c20, c23, c25, hm26⟩ := cs3 hm19; clear hm19
  refine wq Z (QV.add Z Z Z Z c20) (wq Z (QV.eqv (wrap_bt (48 + d5_4)) (QV.intToInt Tryd.underlying5 Tryd.underlying2 Z Z)) (WL.effect Z ?_))
  refine (EV.buildSlice (by decide) sz_51 (by decide) (by decide) (ps := [(0, .tmp 15)]) (cells := [.int .u8 ((bt (48 + d5_4)).toNat : Int)]) (ec Z eN) (by kernel_rfl) (fun b22 => ?_))
  refine wq Z (QV.strOf Tryd.underlying51 Tryd.underlying5 Tryd.underlying9 Z Z (Own.blkArr 0 (rows := [(bt (48 + d5_4))].map bcell) Z Z (rows_len bcell_len))) (wm Z (wq Z (QV.strAddD Z Z Z Z c23) (wa Z (ns (wm Z (wq Z (QV.quo Z Z Z Z (by decide) c25) (wa Z (ns (wm Z ?_)))))))))
  refine wq Z (QV.eql Z Z Z Z) (nt ?_)
  refine wc Z hm26 (fun h27 hm28 => ?_) (fun h27 hm29 => ?_) <;> clear hm26
  ·skip
   refine WC.exit (WQ.block_other (by decide) (te (WQ.block_exit ?_)))
   exact WQ.out2 ([(bt (48 + d5_4))] ++ s3_3) (Int.tdiv left4_3 10) (up_brk hm28 hn16) ⟨Z, Z, Z, trivial⟩ (pk [1])
  refine sk (WQ.block ?_)
  exact WQ.again2 ([(bt (48 + d5_4))] ++ s3_3) (Int.tdiv left4_3 10) m13 (up_next hm29 hn16) (Nat.lt_succ_self _) ⟨Z, Z, Z, trivial⟩ (pk [1])
 refine WC.cond Z (fun h30 => ?_) (fun h30 => ?_)
 ·skip
  have hm31 := br_t h30 hj18; clear hj18
  refine WC.region (wm Z ?_)
  obtain ⟨c32, hm33⟩ := cs hm31; clear hm31
  refine wq Z (QV.neg Z Z c32) (wa Z (WL.nil ?_))
  exact WQ.out1 (-(Int.tmod left4_3 10)) (eq_of_some hm33) ⟨Z, Z, Z, Z, trivial⟩ (pk [0])
 have hm34 := br_f h30 hj18; clear hj18
 refine sk ?_
 exact WQ.out1 (Int.tmod left4_3 10) (eq_of_some hm34) ⟨Z, Z, Z, Z, trivial⟩ (pk [0])
theorem R14_words_w {r : List (List UInt8)} {K0 : World} (hm : R14_words_m  = some r)  (M : Nat → Prop) (w : World) (hk : Base M K0 w) (hw0 : Own M w [] w) : Calls Tryd.prog 29 #[] w (fun e w' => ∃ X : Value × World, e = .returned (X.1) ∧ Own M w (kn M w.heap.size K0 X.2 :: []) w' ∧ Arr X.2 X.1 1 (r.map scell)) := by
 unfold R14_words_m at hm
 refine calls_of_WC (n := 2) (args := []) Tryd.func29 Z Z (nl Z) ?_ (Own.startK hk hw0)
 refine sr (wa Z (ns (WL.effect Z ?_)))
 refine (EV.buildSlice (by decide) sz_36 (by decide) (by decide) (ps := [(0, .const (strV [97, 100, 100])), (1, .const (strV [115, 117, 98])), (2, .const (strV [109, 117, 108])), (3, .const (strV [97, 110, 100])), (4, .const (strV [111, 114])), (5, .const (strV [120, 111, 114])), (6, .const (strV [108, 101, 115, 115])), (7, .const (strV [115, 97, 109, 101]))]) (cells := [strV [97, 100, 100], strV [115, 117, 98], strV [109, 117, 108], strV [97, 110, 100], strV [111, 114], strV [120, 111, 114], strV [108, 101, 115, 115], strV [115, 97, 109, 101]]) (ec Z (ec Z (ec Z (ec Z (ec Z (ec Z (ec Z (ec Z eN)))))))) (by kernel_rfl) (fun b1 => ?_))
 refine wa Z (nt (WC.ret ?_))
 obtain rfl := (eq_of_some hm).symm
 refine WK.of (fun w hw => hw.blkVec scell ([[97, 100, 100], [115, 117, 98], [109, 117, 108], [97, 110, 100], [111, 114], [120, 111, 114], [108, 101, 115, 115], [115, 97, 109, 101]] : List (List UInt8)) Z scell_len (nl Z)) ?_
 refine WK.of (C' := Own M w [kn M w.heap.size K0 K0, vec (blkSlice b1 8 8) 9 1 (List.map scell [[97, 100, 100], [115, 117, 98], [109, 117, 108], [97, 110, 100], [111, 114], [120, 111, 114], [108, 101, 115, 115], [115, 97, 109, 101]])]) (pk [1, 0]) ?_
 refine WK.freeze hk (fun k2 hle2 hr2 => ?_)
 have hA2 := vec_arr hr2
 refine WQ.ret1 Z Z (fun w hw => ?_)
 exact ⟨((blkSlice b1 8 8), k2), Z, hw.pick [0] (by decide), hA2⟩
end Go.Proofs.YtaimbkndebaaiacDoor
end
section
namespace Go.Proofs.YtaimbkndebaaiacDoor
open Go.Rd
open TLib TLibR TNum0 TNum TLoop TPar TR14
namespace TR14p
theorem en13 : Go.Rd.Enters Tryd.prog 13 := eT Tryd.func13
theorem en14 : Go.Rd.Enters Tryd.prog 14 := eT Tryd.func14
theorem en15 : Go.Rd.Enters Tryd.prog 15 := eT Tryd.func15
theorem en16 : Go.Rd.Enters Tryd.prog 16 := eT Tryd.func16
theorem en27 : Go.Rd.Enters Tryd.prog 27 := eT Tryd.func27
theorem en28 : Go.Rd.Enters Tryd.prog 28 := eT Tryd.func28
theorem en29 : Go.Rd.Enters Tryd.prog 29 := eT Tryd.func29
theorem eq47 : EqT Tryd.prog 47 9 := ⟨by kernel_rfl, ⟨_, Tryd.underlying47⟩, by kernel_rfl, by kernel_rfl⟩
theorem ve36 : VecT Tryd.prog 36 9 1 16 := ⟨Tryd.underlying36, by kernel_rfl, by decide⟩
end TR14p
open TR14p
theorem R14_split_w {s : List UInt8} {by_ : UInt8} {r : List (List UInt8)} {K0 : World} (hm : R14_split_m s by_ = some r)  (M : Nat → Prop) (w : World) (hk : Base M K0 w) (hw0 : Own M w [] w) : Calls Tryd.prog 13 #[strV s, .int .u8 ((by_).toNat : Int)] w (fun e w' => ∃ X : Value × World, e = .returned (X.1) ∧ Own M w (kn M w.heap.size K0 X.2 :: []) w' ∧ Arr X.2 X.1 1 (r.map scell)) := by
 unfold R14_split_m at hm
 refine calls_of_WC (n := 35) (args := [strV s, .int .u8 ((by_).toNat : Int)]) Tryd.func13 Z Z (nl Z) ?_ (Own.startK hk hw0)
 refine sr (wa Z (ns (wa Z (ns (wa Z (nt (WC.seq (sr (wa Z (nt ?_))))))))))
 refine WK.of (fun w hw => hw.vecNil (E := 9) (sz := 1) (enc := scell)) ?_
 obtain ⟨o2, ho3, hm4⟩ := bd_some hm; clear hm; obtain ⟨n5, ho6⟩ := lp_some ho3
 refine WC.bloop4 (H2 := [kn M w.heap.size K0 K0]) (τ := [u_ 0 _, u_ 1 _]) (fun (v1_1 : List (List UInt8)) (from6_1 : Int) (i7_1 : Int) (uv1_1 : Value) => [(5, (true, uv1_1)), (6, (true, i_ from6_1)), (7, (true, i_ i7_1))]) (fun v1_1 from6_1 i7_1 uv1_1 => [vec uv1_1 9 1 (List.map scell v1_1)]) (fun v1_1 from6_1 i7_1 uv1_1 m => iter (R14_split_L0 s by_) m (v1_1, from6_1, i7_1) = some o2 ∧ SliceLen uv1_1 v1_1.length) (fun v1_1 from6_1 i7_1 uv1_1 => o2 = .go (v1_1, from6_1, i7_1) ∧ SliceLen uv1_1 v1_1.length) [] 0 0 (.slice none 0 0) n5 ⟨ho6, SliceLen.nil⟩ ⟨Z, Z, Z, Z, Z, trivial⟩ (pk [0, 1]) ?_ ?_
 ·skip
  rintro v1_1 from6_1 i7_1 uv1_1 ⟨rfl, hlv1_1⟩
  refine WQ.then (sr (wm Z (wa Z (nt (WC.ret ?_)))))
  obtain rfl := (eq_of_some hm4).symm
  refine WK.of (C' := Own M w [kn M w.heap.size K0 K0, vec uv1_1 9 1 (List.map scell v1_1)]) (pk [1, 0]) ?_
  refine WK.freeze hk (fun k7 hle7 hr7 => ?_)
  have hA7 := vec_arr hr7
  refine WQ.ret1 Z Z (fun w hw => ?_)
  exact ⟨(uv1_1, k7), Z, hw.pick [0] (by decide), hA7⟩
 rintro v1_1 from6_1 i7_1 uv1_1 m8 ⟨hI9, hlv1_1⟩
 obtain ⟨m10, s11, rfl, hm12, hn13⟩ := iter_step hI9; clear hI9; unfold R14_split_L0 at hm12; simp only at hm12
 refine WC.seq (sr (wm Z (wm Z (wq Z (QV.lenStr Tryd.underlying9 Z Z) (wq Z (QV.leq Z Z Z Z) (nt ?_))))))
 refine wc Z hm12 (fun h14 hm15 => ?_) (fun h14 hm34 => ?_) <;> clear hm12
 ·skip
  refine sk (WQ.then (WC.seq (WC.block (sr (wm Z (wm Z (wq Z (QV.lenStr Tryd.underlying9 Z Z) (wq Z (QV.eql Z Z Z Z) (wm Z (gn Z (fun hG => QV.move Z Z) (gn Z (fun hG => QV.move Z Z) ?_)))))))))))
  obtain ⟨c16, hm17⟩ := cs hm15; clear hm15
  refine gn Z (fun hG => QV.indexStr Tryd.underlying9 Z hG Z hG (c16 hG)) (gn Z (fun hG => QV.move Z Z) (gn Z (fun hG => QV.eql Z hG Z hG) (wq Z (QV.pickOr Z Z Z (fun h => notF h)) (nt ?_))))
  refine wc Z hm17 (fun h18 hm19 => ?_) (fun h18 hm31 => ?_) <;> clear hm17
  ·skip
   refine sr (wm Z (wm Z (wm Z (wm Z ?_))))
   obtain ⟨c20, c23, c27, c29, hm30⟩ := cs4 hm19; clear hm19
   refine wq Z (QV.subLH Tryd.underlying9 Z Z Z Z Z Z c20) (WL.effect Z ?_)
   refine (EV.buildSlice (by decide) sz_36 (by decide) (by decide) (ps := [(0, .tmp 29)]) (cells := [strV (sub s from6_1 i7_1)]) (ec Z eN) (by kernel_rfl) (fun b22 => ?_))
   refine WL.effect Z ?_
   refine (EV.appendL (enc := scell) (xs := v1_1) (ys := [(sub s from6_1 i7_1)]) ((v1_1 ++ [(sub s from6_1 i7_1)])) 1 (by decide) ve36 Z Z Z Z Z (Own.blkArr 0 (rows := [(sub s from6_1 i7_1)].map scell) Z Z (rows_len scell_len)) scell_len (scell_one _) Z c23.1 c23.2 (fun u25 hu26 => ?_))
   refine wa Z (nr (wm Z (wq Z (QV.add Z Z Z Z c27) (wa Z (WL.nil (WQ.block (WQ.then (WC.region (wm Z (wq Z (QV.add Z Z Z Z c29) (wa Z (WL.nil ?_))))))))))))
   exact WQ.again4 (v1_1 ++ [(sub s from6_1 i7_1)]) (i7_1 + 1) (i7_1 + 1) u25 m10 ⟨up_next hm30 hn13, hu26⟩ (Nat.lt_succ_self _) ⟨Z, Z, Z, Z, Z, trivial⟩ (pk [1, 2])
  refine sk (WQ.block (WQ.then (WC.region (wm Z ?_))))
  obtain ⟨c32, hm33⟩ := cs hm31; clear hm31
  refine wq Z (QV.add Z Z Z Z c32) (wa Z (WL.nil ?_))
  exact WQ.again4 v1_1 from6_1 (i7_1 + 1) uv1_1 m10 ⟨up_next hm33 hn13, hlv1_1⟩ (Nat.lt_succ_self _) ⟨Z, Z, Z, Z, Z, trivial⟩ (pk [0, 1])
 refine WC.exit (te (te (WQ.block_exit ?_)))
 exact WQ.out4 v1_1 from6_1 i7_1 uv1_1 ⟨up_brk hm34 hn13, hlv1_1⟩ ⟨Z, Z, Z, Z, Z, trivial⟩ (pk [0, 1])
theorem R14_number_w {s : List UInt8} {most : Int} {r : Int × Bool} (w : World) (hm : R14_number_m s most = some r)  : Calls Tryd.prog 14 #[strV s, .int .i64 most] w (fun e w' => e = .returned (.tuple #[.int .i64 r.1, .bool r.2]) ∧ Grow w w') := by
 unfold R14_number_m at hm
 have hk := Base.rfl (w := w)
 refine calls_of_WC (n := 77) (args := [strV s, i_ most]) Tryd.func14 Z Z (nl Z) ?_ (Own.startK hk (Own.start w))
 refine sr (wa Z (wa Z (ns (wm Z (wq Z (QV.lenStr Tryd.underlying9 Z Z) (wq Z (QV.gtr Z Z Z Z) (wm Z (gp Z (fun hG => QV.move Z Z) ?_))))))))
 obtain ⟨c1, hm2⟩ := cs hm; clear hm
 refine gp Z (fun hG => QV.indexStr Tryd.underlying9 Z hG Z Z (c1 hG)) (gp Z (fun hG => QV.eql Z hG Z Z) (wq Z (QV.pickAnd Z Z Z (fun h => h)) (wa Z (ns (wm Z (wa Z (nt (WC.seq (sr (wm Z (nt ?_)))))))))))
 obtain ⟨o3, hj4, hm5⟩ := bd_some hm2; clear hm2
 refine WC.joint1 (H2 := [kn noM w.heap.size w w]) (τ := [u_ 0 _, u_ 1 _, u_ 6 _]) (fun (t7_1 : List UInt8) => [(7, (true, strV t7_1))]) (fun t7_1 => []) (fun t7_1 => o3 = .go t7_1) ⟨Z, Z, Z, trivial⟩ (pk [0]) ?_ ?_
 ·skip
  rintro t7_1 rfl
  refine WC.seq (sr (wm Z (wq Z (QV.lenStr Tryd.underlying9 Z Z) (wq Z (QV.lss Z Z Z Z) (wm Z (gn Z (fun hG => QV.move Z Z) (gn Z (fun hG => QV.lenStr Tryd.underlying9 Z hG) (gn Z (fun hG => QV.move Z Z) (gn Z (fun hG => QV.gtr Z hG Z hG) (wq Z (QV.pickOr Z Z Z (fun h => notF h)) ?_))))))))))
  refine wm Z (gn Z (fun hG => QV.move Z Z) ?_)
  obtain ⟨c6, hm7⟩ := cs hm5; clear hm5
  refine gn Z (fun hG => QV.indexStr Tryd.underlying9 Z hG Z Z (c6 hG)) (gn Z (fun hG => QV.eql Z hG Z Z) (gn Z (fun hG => QV.move Z hG) (gpC Z (fun hG => QV.move Z Z) (gpC Z (fun hG => QV.lenStr Tryd.underlying9 Z hG) (gpC Z (fun hG => QV.gtr Z hG Z Z) (gpC Z (fun hG => QV.move Z hG) (gnC Z (fun hG => QV.move Z Z) (gpC Z (fun hG => QV.pickOr Z hG Z (fun h => andN hG h)) (gn Z (fun hG => QV.pickAnd Z hG Z (fun h => andT hG h)) ?_)))))))))
  refine wq Z (QV.pickOr Z Z Z (fun h => notF h)) (nt ?_)
  refine wc Z hm7 (fun h8 hm9 => ?_) (fun h8 hm10 => ?_) <;> clear hm7
  ·skip
   refine sr (wa Z (wa Z (nt (WC.ret (tr ?_)))))
   obtain rfl := (eq_of_some hm9).symm
   exact WQ.ret2 Z Z Z fun w hw => kg hw
  refine sk (WQ.then (sr (wa Z (nt (WC.seq (sr (wa Z (nt ?_))))))))
  obtain ⟨o11, ho12, hm13⟩ := bd_some hm10; clear hm10; obtain ⟨n14, ho15⟩ := lp_some ho12
  refine WC.bloop2 (H2 := [kn noM w.heap.size w w]) (τ := [u_ 0 _, u_ 6 _, u_ 7 _]) (fun (n8_2 : Int) (i9_2 : Int) => [(8, (true, i_ n8_2)), (9, (true, i_ i9_2))]) (fun n8_2 i9_2 => []) (fun n8_2 i9_2 m => iter (R14_number_L0 t7_1) m (n8_2, i9_2) = some o11) (fun n8_2 i9_2 => o11 = .go (n8_2, i9_2)) 0 0 n14 ho15 ⟨Z, Z, Z, Z, Z, trivial⟩ (pk [0]) ?_ ?_
  ·skip
   rintro n8_2 i9_2 rfl
   refine WQ.then (WC.seq (sr (wm Z (wq Z (QV.not Z Z) (nt ?_)))))
   refine wc Z hm13 (fun h16 hm17 => ?_) (fun h16 hm21 => ?_) <;> clear hm13
   ·skip
    refine WC.region (wm Z (wq Z (QV.subW Z Z Z Z) (wa Z (ns (wm Z (wm Z ?_))))))
    obtain ⟨x18, hx19, hm20⟩ := bd_some hm17; clear hm17
    refine wq Z (QV.call en27 (ec Z eN) (fun w hw => have h := R14_Digits_w w hx19 ; h)) (wm Z (wq Z (QV.strEql Z Z Z Z) (wa Z (wa Z (nt (WC.ret ?_))))))
    obtain rfl := (eq_of_some hm20).symm
    exact WQ.ret2 Z Z Z fun w hw => kg hw
   refine sk (WQ.then (sr (wm Z (wm Z ?_))))
   obtain ⟨x22, hx23, hm24⟩ := bd_some hm21; clear hm21
   refine wq Z (QV.call en27 (ec Z eN) (fun w hw => have h := R14_Digits_w w hx23 ; h)) (wm Z (wq Z (QV.strEql Z Z Z Z) (wa Z (wa Z (nt (WC.ret ?_))))))
   obtain rfl := (eq_of_some hm24).symm
   exact WQ.ret2 Z Z Z fun w hw => kg hw
  rintro n8_2 i9_2 m25 hI26
  obtain ⟨m27, s28, rfl, hm29, hn30⟩ := iter_step hI26; clear hI26; unfold R14_number_L0 at hm29; simp only at hm29
  refine WC.seq (sr (wm Z (wm Z (wq Z (QV.lenStr Tryd.underlying9 Z Z) (wq Z (QV.lss Z Z Z Z) (nt ?_))))))
  refine wc Z hm29 (fun h31 hm32 => ?_) (fun h31 hm44 => ?_) <;> clear hm29
  ·skip
   refine sk (WQ.then (WC.seq (WC.block (WC.seq (sr (wm Z (wm Z ?_)))))))
   obtain ⟨c33, c35, hm36⟩ := cs2 hm32; clear hm32
   refine wq Z (QV.indexStr Tryd.underlying9 Z Z Z Z c33) (wq Z (QV.lss Z Z Z Z) (wm Z (gn Z (fun hG => QV.move Z Z) (gn Z (fun hG => QV.move Z Z) (gn Z (fun hG => QV.indexStr Tryd.underlying9 Z hG Z hG (c35 hG)) (gn Z (fun hG => QV.gtr Z hG Z Z) (wq Z (QV.pickOr Z Z Z (fun h => notF h)) (nt ?_))))))))
   refine wc Z hm36 (fun h37 hm38 => ?_) (fun h37 hm39 => ?_) <;> clear hm36
   ·skip
    refine sr (wa Z (wa Z (nt (WC.ret (tr (kr (tr (tr (kr (tr (tr ?_)))))))))))
    obtain rfl := up_ret hm38 hn30
    obtain rfl := (eq_of_some hm13).symm
    exact WQ.ret2 Z Z Z fun w hw => kg hw
   refine sk (WQ.then (WC.region (wm Z (wq Z (QV.mulW Z Z Z Z) (wm Z (wm Z ?_))))))
   obtain ⟨c40, c42, hm43⟩ := cs2 hm39; clear hm39
   refine wq Z (QV.indexStr Tryd.underlying9 Z Z Z Z c40) (wq Z (QV.subW Z Z Z Z) (wq Z (QV.intToInt Tryd.underlying2 Tryd.underlying5 Z Z) (wq Z (QV.subW Z Z Z Z) (wa Z (WL.nil (WQ.block (WQ.then (WC.region (wm Z (wq Z (QV.add Z Z Z Z c42) (wa Z (WL.nil ?_))))))))))))
   exact WQ.again2 (IntKind.i64.wrap ((IntKind.i64.wrap (10 * n8_2)) - (IntKind.i64.wrap (IntKind.u8.wrap (((ele t7_1 i9_2).toNat : Int) - 48))))) (i9_2 + 1) m27 (up_next hm43 hn30) (Nat.lt_succ_self _) ⟨Z, Z, Z, Z, Z, trivial⟩ (pk [0])
  refine WC.exit (te (te (WQ.block_exit ?_)))
  exact WQ.out2 n8_2 i9_2 (up_brk hm44 hn30) ⟨Z, Z, Z, Z, Z, trivial⟩ (pk [0])
 refine WC.cond Z (fun h45 => ?_) (fun h45 => ?_)
 ·skip
  have hm46 := br_t h45 hj4; clear hj4
  refine WC.region (wm Z ?_)
  obtain ⟨c47, hm48⟩ := cs hm46; clear hm46
  refine wq Z (QV.subL Tryd.underlying9 Z Z Z Z c47) (wa Z (WL.nil ?_))
  exact WQ.out1 (sub s 1 (ln s)) (eq_of_some hm48) ⟨Z, Z, Z, Z, trivial⟩ (pk [0])
 have hm49 := br_f h45 hj4; clear hj4
 refine sk ?_
 exact WQ.out1 s (eq_of_some hm49) ⟨Z, Z, Z, Z, trivial⟩ (pk [0])
theorem R14_reads_w {s : List UInt8} {r : Rf × Bool} (w : World) (hm : R14_reads_m s = some r)  : Calls Tryd.prog 28 #[strV s] w (fun e w' => e = .returned (.tuple #[.agg #[.int .i64 r.1.st, .int .i64 r.1.bk], .bool r.2]) ∧ Grow w w') := by
 unfold R14_reads_m at hm
 have hk := Base.rfl (w := w)
 refine calls_of_WC (n := 59) (args := [strV s]) Tryd.func28 Z Z (nl Z) ?_ (Own.startK hk (Own.start w))
 refine sr (WL.effect Z ?_)
 refine (EV.alloc (by decide) ze45 (fun b1 => ?_))
 refine wa Z (nt (WC.seq (sr (wm Z (wq Z (QV.lenStr Tryd.underlying9 Z Z) (wq Z (QV.lss Z Z Z Z) (wm Z (gn Z (fun hG => QV.move Z Z) ?_))))))))
 obtain ⟨c2, hm3⟩ := cs hm; clear hm
 refine gn Z (fun hG => QV.indexStr Tryd.underlying9 Z hG Z Z (c2 hG)) (gn Z (fun hG => QV.neq Z hG Z Z) (wq Z (QV.pickOr Z Z Z (fun h => notF h)) (nt ?_)))
 refine wc Z hm3 (fun h4 hm5 => ?_) (fun h4 hm6 => ?_) <;> clear hm3
 ·skip
  refine sr (wq Z (QV.build (ps := []) (cells := [i_ 0, i_ 0]) eN (by kernel_rfl)) (WL.effect Z ?_))
  refine (EV.store 0 Z Z Z Z Z Z (vs := [i_ 0, i_ 0]) (show Value.cells _ = List.toArray _ from Z) sz45 (nl Z) (oc Z (oc Z one_nil)) ?_)
  refine wa Z (nt (WC.ret (tr ?_)))
  obtain rfl := (eq_of_some hm5).symm
  exact WQ.retCellTmp Z ag45 Z Z Z (Own.cellsBlk 0 Z) fun w hw => kg hw
 refine sk (WQ.then (sr (wm Z ?_)))
 obtain ⟨c7, hm8⟩ := cs hm6; clear hm6
 refine wq Z (QV.subL Tryd.underlying9 Z Z Z Z c7) (WL.effect Z ?_)
 obtain ⟨x9, hx10, hm11⟩ := bd_some hm8; clear hm8
 refine EV.of (C' := Own noM w [kn noM w.heap.size w w, blk b1 [i_ 0, i_ 0] 45]) (pk [1, 0]) ?_
 refine (EV.callR (X := Value × World) (R := []) (fun X => X.1) (fun X => []) (fun X => X.2) (fun X => Arr X.2 X.1 1 (x9.map scell)) hk (fun _ h => by cases h; decide) en13 (ec Z (ec Z eN)) (fun M w h1 h2 => have h := R14_split_w hx10  M w h1 h2; h) (fun X12 hF12 hle12 => ?_))
 refine wa Z (ns (wm Z ?_))
 obtain ⟨c13, hm14⟩ := cs hm11; clear hm11
 obtain ⟨p15, hp16⟩ := hF12.lenMap.ix (sz := 1) ln_len c13
 refine wq Z (QV.indexSlice sl36 Z Z Z Z hp16) (wl pl9 Z (fun w hw => CellsAt.one 0 (((Own.karr 0 Z hk hF12) w hw).ele hp16 c13) Z) ?_)
 obtain ⟨x17, hx18, hm19⟩ := bd_some hm14; clear hm14
 refine wq Z (QV.call en14 (ec Z (ec Z eN)) (fun w hw => have h := R14_number_w w hx18 ; h)) (wm Z (wq Z (QV.extract Z Z Z) (wq Z (QV.extract Z Z Z) (wa Z (wa Z (ns (wm Z (wq Z (QV.build (ps := [(0, .tmp 29)]) (cells := [i_ x17.1, i_ 0]) (ec Z eN) (by kernel_rfl)) (WL.effect Z ?_)))))))))
 refine (EV.alloc (by decide) ze45 (fun b20 => ?_))
 refine WL.effect Z ?_
 refine (EV.store 0 Z Z Z Z Z Z (vs := [i_ x17.1, i_ 0]) (show Value.cells _ = List.toArray _ from Z) sz45 (nl Z) (oc Z (oc Z one_nil)) ?_)
 refine nt (WC.seq (sr (wm Z (wq Z (QV.lenS Tryd.underlying36 Z Z hF12.lenMap) (wq Z (QV.eql Z Z Z Z) (nt ?_))))))
 refine wc Z hm19 (fun h21 hm22 => ?_) (fun h21 hm23 => ?_) <;> clear hm19
 ·skip
  refine sr (wq Z (QV.loadAgg ag45 Z Z Z (Own.cellsBlk 0 Z)) (wm Z (WL.effect Z ?_)))
  refine (EV.store 2 Z Z Z Z Z Z (vs := [i_ x17.1, i_ 0]) (show Value.cells _ = List.toArray _ from Z) sz45 (nl Z) (oc Z (oc Z one_nil)) ?_)
  refine wa Z (nt (WC.ret (tr ?_)))
  obtain rfl := (eq_of_some hm22).symm
  exact WQ.retCellTmp Z ag45 Z Z Z (Own.cellsBlk 2 Z) fun w hw => kg hw
 refine sk (WQ.then (sr (wm Z ?_)))
 obtain ⟨c24, hm25⟩ := cs hm23; clear hm23
 obtain ⟨p26, hp27⟩ := hF12.lenMap.ix (sz := 1) ln_len c24
 refine wq Z (QV.indexSlice sl36 Z Z Z Z hp27) (wl pl9 Z (fun w hw => CellsAt.one 0 (((Own.karr 1 Z hk hF12) w hw).ele hp27 c24) Z) ?_)
 obtain ⟨x28, hx29, hm30⟩ := bd_some hm25; clear hm25
 refine wq Z (QV.call en14 (ec Z (ec Z eN)) (fun w hw => have h := R14_number_w w hx29 ; h)) (wm Z (wq Z (QV.extract Z Z Z) (wq Z (QV.extract Z Z Z) (wa Z (wa Z (ns (wm Z (wf fd45_1 Z (WL.effect Z ?_)))))))))
 refine (EV.store 0 Z Z Z Z Z Z (vs := [i_ x28.1]) (show Value.cells _ = List.toArray _ from Z) sz3 (nl Z) (oc Z one_nil) ?_)
 refine ns (wq Z (QV.loadAgg ag45 Z Z Z (Own.cellsBlk 0 Z)) (wm Z (wm Z (gp Z (fun hG => QV.move Z Z) (wq Z (QV.pickAnd Z Z Z (fun h => h)) (wm Z (gp Z (fun hG => QV.move Z Z) (gp Z (fun hG => QV.lenS Tryd.underlying36 Z hG hF12.lenMap) (gp Z (fun hG => QV.eql Z hG Z Z) ?_)))))))))
 refine wq Z (QV.pickAnd Z Z Z (fun h => h)) (wm Z (gp Z (fun hG => QV.move Z Z) (gp Z (fun hG => QV.gtr Z hG Z Z) (wq Z (QV.pickAnd Z Z Z (fun h => h)) (WL.effect Z ?_)))))
 refine (EV.store 2 Z Z Z Z Z Z (vs := [i_ x17.1, i_ x28.1]) (show Value.cells _ = List.toArray _ from Z) sz45 (nl Z) (oc Z (oc Z one_nil)) ?_)
 refine wa Z (nt (WC.ret ?_))
 obtain rfl := (eq_of_some hm30).symm
 exact WQ.retCellTmp Z ag45 Z Z Z (Own.cellsBlk 2 Z) fun w hw => kg hw
theorem R14_stmt_w {v_l : Value} {l : List (List UInt8)} {r : Stm × Bool} (w : World) (hm : R14_stmt_m l = some r) (h_l : Arr w v_l 1 (l.map scell)) : Calls Tryd.prog 15 #[v_l] w (fun e w' => e = .returned (.tuple #[.agg #[.int .i64 r.1.op, .int .i64 r.1.a.st, .int .i64 r.1.a.bk, .int .i64 r.1.b.st, .int .i64 r.1.b.bk, .int .i64 r.1.ar, .int .i64 r.1.sp, .int .i64 r.1.pl, .int .i64 r.1.n], .bool r.2]) ∧ Grow w w') := by
 unfold R14_stmt_m at hm
 have hk := Base.rfl (w := w)
 refine calls_of_WC (n := 167) (args := [v_l]) Tryd.func15 Z Z (nl Z) ?_ (Own.startK hk (Own.start w))
 refine sr (WL.effect Z ?_)
 refine (EV.alloc (by decide) ze47 (fun b1 => ?_))
 refine wa Z (ns (wq Z (QV.build (ps := []) (cells := [i_ 0, i_ 0, i_ 0, i_ 0, i_ 0, i_ 0, i_ 0, i_ 0, i_ 0]) eN (by kernel_rfl)) (WL.effect Z ?_)))
 refine (EV.alloc (by decide) ze47 (fun b2 => ?_))
 refine WL.effect Z ?_
 refine (EV.store 0 Z Z Z Z Z Z (vs := [i_ 0, i_ 0, i_ 0, i_ 0, i_ 0, i_ 0, i_ 0, i_ 0, i_ 0]) (show Value.cells _ = List.toArray _ from Z) sz47 (nl Z) (oc Z (oc Z (oc Z (oc Z (oc Z (oc Z (oc Z (oc Z (oc Z one_nil))))))))) ?_)
 refine ns (wm Z (wq Z (QV.lenS Tryd.underlying36 Z Z h_l.lenMap) ?_))
 obtain ⟨c3, c5, hm6⟩ := cs2 hm; clear hm
 refine wq Z (QV.sub Z Z Z Z c3) (wa Z (nt (WC.seq (sr (wm Z ?_)))))
 obtain ⟨p7, hp8⟩ := h_l.lenMap.ix (sz := 1) ln_len c5
 refine wq Z (QV.indexSlice sl36 Z Z Z Z hp8) (wl pl9 Z (fun w hw => CellsAt.one 0 (((Own.karr 2 Z hk h_l) w hw).ele hp8 c5) Z) (nt (WC.block (sr (wq Z (QV.strEql Z Z Z Z) (wa Z (nt ?_)))))))
 refine wc Z hm6 (fun h9 hm10 => ?_) (fun h9 hm21 => ?_) <;> clear hm6
 ·skip
  refine sr (wf fd47_0 Z (WL.effect Z ?_))
  refine (EV.store 0 Z Z Z Z Z Z (vs := [i_ 1]) (show Value.cells _ = List.toArray _ from Z) sz3 (nl Z) (oc Z one_nil) ?_)
  refine nt (WC.seq (sr (wm Z (wq Z (QV.neq Z Z Z Z) (nt ?_)))))
  refine wc Z hm10 (fun h11 hm12 => ?_) (fun h11 hm13 => ?_) <;> clear hm10
  ·skip
   refine sr (wq Z (QV.loadAgg ag47 Z Z Z (Own.cellsBlk 0 Z)) (WL.effect Z ?_))
   refine (EV.store 1 Z Z Z Z Z Z (vs := [i_ 1, i_ 0, i_ 0, i_ 0, i_ 0, i_ 0, i_ 0, i_ 0, i_ 0]) (show Value.cells _ = List.toArray _ from Z) sz47 (nl Z) (oc Z (oc Z (oc Z (oc Z (oc Z (oc Z (oc Z (oc Z (oc Z one_nil))))))))) ?_)
   refine wa Z (nt (WC.ret (tr (kr (tr ?_)))))
   obtain rfl := (eq_of_some hm12).symm
   exact WQ.retCellTmp Z ag47 Z Z Z (Own.cellsBlk 1 Z) fun w hw => kg hw
  refine sk (WQ.then (sr (wm Z ?_)))
  obtain ⟨c14, hm15⟩ := cs hm13; clear hm13
  obtain ⟨p16, hp17⟩ := h_l.lenMap.ix (sz := 1) ln_len c14
  refine wq Z (QV.indexSlice sl36 Z Z Z Z hp17) (wl pl9 Z (fun w hw => CellsAt.one 0 (((Own.karr 2 Z hk h_l) w hw).ele hp17 c14) Z) ?_)
  obtain ⟨x18, hx19, hm20⟩ := bd_some hm15; clear hm15
  refine wq Z (QV.call en14 (ec Z (ec Z eN)) (fun w hw => have h := R14_number_w w hx19 ; h)) (wm Z (wq Z (QV.extract Z Z Z) (wq Z (QV.extract Z Z Z) (wa Z (wa Z (ns (wm Z (wf fd47_6 Z (WL.effect Z ?_)))))))))
  refine (EV.store 0 Z Z Z Z Z Z (vs := [i_ x18.1]) (show Value.cells _ = List.toArray _ from Z) sz2 (nl Z) (oc Z one_nil) ?_)
  refine ns (wq Z (QV.loadAgg ag47 Z Z Z (Own.cellsBlk 0 Z)) (wm Z (WL.effect Z ?_)))
  refine (EV.store 1 Z Z Z Z Z Z (vs := [i_ 1, i_ 0, i_ 0, i_ 0, i_ 0, i_ 0, i_ 0, i_ 0, i_ x18.1]) (show Value.cells _ = List.toArray _ from Z) sz47 (nl Z) (oc Z (oc Z (oc Z (oc Z (oc Z (oc Z (oc Z (oc Z (oc Z one_nil))))))))) ?_)
  refine wa Z (nt (WC.ret (kr (tr ?_))))
  obtain rfl := (eq_of_some hm20).symm
  exact WQ.retCellTmp Z ag47 Z Z Z (Own.cellsBlk 1 Z) fun w hw => kg hw
 refine sr (wq Z (QV.strEql Z Z Z Z) (wa Z (nt ?_)))
 refine wc Z hm21 (fun h22 hm23 => ?_) (fun h22 hm24 => ?_) <;> clear hm21
 ·skip
  refine sr (wf fd47_0 Z (WL.effect Z ?_))
  refine (EV.store 0 Z Z Z Z Z Z (vs := [i_ 2]) (show Value.cells _ = List.toArray _ from Z) sz3 (nl Z) (oc Z one_nil) ?_)
  refine ns (wq Z (QV.loadAgg ag47 Z Z Z (Own.cellsBlk 0 Z)) (wm Z (wq Z (QV.eql Z Z Z Z) (WL.effect Z ?_))))
  refine (EV.store 1 Z Z Z Z Z Z (vs := [i_ 2, i_ 0, i_ 0, i_ 0, i_ 0, i_ 0, i_ 0, i_ 0, i_ 0]) (show Value.cells _ = List.toArray _ from Z) sz47 (nl Z) (oc Z (oc Z (oc Z (oc Z (oc Z (oc Z (oc Z (oc Z (oc Z one_nil))))))))) ?_)
  refine wa Z (nt (WC.ret (kr (tr ?_))))
  obtain rfl := (eq_of_some hm23).symm
  exact WQ.retCellTmp Z ag47 Z Z Z (Own.cellsBlk 1 Z) fun w hw => kg hw
 refine WC.seq (sr (wq Z (QV.strEql Z Z Z Z) (wa Z (nt ?_))))
 obtain ⟨o25, hj26, hm27⟩ := bd_some hm24; clear hm24
 refine WC.joint1 (H2 := [blk b2 [i_ 0, i_ 0, i_ 0, i_ 0, i_ 0, i_ 0, i_ 0, i_ 0, i_ 0] 47, blk b1 [i_ 0, i_ 0, i_ 0, i_ 0, i_ 0, i_ 0, i_ 0, i_ 0, i_ 0] 47, kn noM w.heap.size w w]) (τ := [u_ 0 _, u_ 2 _, u_ 4 _, u_ 5 _]) (fun (x53_1 : Bool) => [(53, (true, .bool x53_1))]) (fun x53_1 => []) (fun x53_1 => o25 = .go x53_1) ⟨Z, Z, Z, Z, trivial⟩ (pk [0, 1, 2]) ?_ ?_
 ·skip
  rintro x53_1 rfl
  refine wc Z hm27 (fun h28 hm29 => ?_) (fun h28 hm75 => ?_) <;> clear hm27
  ·skip
   refine sr (wf fd47_0 Z (WL.effect Z ?_))
   refine (EV.store 0 Z Z Z Z Z Z (vs := [i_ 3]) (show Value.cells _ = List.toArray _ from Z) sz3 (nl Z) (oc Z one_nil) ?_)
   refine ns (wa Z (nt (WC.seq (sr (wm Z ?_)))))
   obtain ⟨c30, hm31⟩ := cs hm29; clear hm29
   obtain ⟨p32, hp33⟩ := h_l.lenMap.ix (sz := 1) ln_len c30
   refine wq Z (QV.indexSlice sl36 Z Z Z Z hp33) (wl pl9 Z (fun w hw => CellsAt.one 0 (((Own.karr 2 Z hk h_l) w hw).ele hp33 c30) Z) (wq Z (QV.strEql Z Z Z Z) (nt ?_)))
   obtain ⟨o34, hj35, hm36⟩ := bd_some hm31; clear hm31
   refine WC.joint2 (H2 := [blk b1 [i_ 0, i_ 0, i_ 0, i_ 0, i_ 0, i_ 0, i_ 0, i_ 0, i_ 0] 47, kn noM w.heap.size w w]) (τ := [u_ 0 _, u_ 2 _, u_ 4 _, u_ 5 _]) (fun (b2c0_2 : Int) (want8_2 : Int) => [(8, (true, i_ want8_2))]) (fun b2c0_2 want8_2 => [blk b2 [i_ b2c0_2, i_ 0, i_ 0, i_ 0, i_ 0, i_ 0, i_ 0, i_ 0, i_ 0] 47]) (fun b2c0_2 want8_2 => o34 = .go (b2c0_2, want8_2)) ⟨Z, Z, Z, Z, trivial⟩ (pk [1, 2]) ?_ ?_
   ·skip
    rintro b2c0_2 want8_2 rfl
    refine WC.seq (sr (wm Z (wm Z (wq Z (QV.neq Z Z Z Z) (nt ?_)))))
    refine wc Z hm36 (fun h37 hm38 => ?_) (fun h37 hm39 => ?_) <;> clear hm36
    ·skip
     refine sr (wq Z (QV.loadAgg ag47 Z Z Z (Own.cellsBlk 0 Z)) (WL.effect Z ?_))
     refine (EV.store 1 Z Z Z Z Z Z (vs := [i_ b2c0_2, i_ 0, i_ 0, i_ 0, i_ 0, i_ 0, i_ 0, i_ 0, i_ 0]) (show Value.cells _ = List.toArray _ from Z) sz47 (nl Z) (oc Z (oc Z (oc Z (oc Z (oc Z (oc Z (oc Z (oc Z (oc Z one_nil))))))))) ?_)
     refine wa Z (nt (WC.ret (tr (kr (tr ?_)))))
     obtain rfl := (eq_of_some hm38).symm
     exact WQ.retCellTmp Z ag47 Z Z Z (Own.cellsBlk 1 Z) fun w hw => kg hw
    refine sk (WQ.then (sr (wm Z ?_)))
    obtain ⟨c40, hm41⟩ := cs hm39; clear hm39
    obtain ⟨p42, hp43⟩ := h_l.lenMap.ix (sz := 1) ln_len c40
    refine wq Z (QV.indexSlice sl36 Z Z Z Z hp43) (wl pl9 Z (fun w hw => CellsAt.one 0 (((Own.karr 2 Z hk h_l) w hw).ele hp43 c40) Z) ?_)
    obtain ⟨x44, hx45, hm46⟩ := bd_some hm41; clear hm41
    refine wq Z (QV.call en14 (ec Z (ec Z eN)) (fun w hw => have h := R14_number_w w hx45 ; h)) (wm Z (wq Z (QV.extract Z Z Z) (wq Z (QV.extract Z Z Z) (wa Z (wa Z (ns (wm Z ?_)))))))
    obtain ⟨c47, hm48⟩ := cs hm46; clear hm46
    obtain ⟨p49, hp50⟩ := h_l.lenMap.ix (sz := 1) ln_len c47
    refine wq Z (QV.indexSlice sl36 Z Z Z Z hp50) (wl pl9 Z (fun w hw => CellsAt.one 0 (((Own.karr 2 Z hk h_l) w hw).ele hp50 c47) Z) ?_)
    obtain ⟨x51, hx52, hm53⟩ := bd_some hm48; clear hm48
    refine wq Z (QV.call en14 (ec Z (ec Z eN)) (fun w hw => have h := R14_number_w w hx52 ; h)) (wm Z (wq Z (QV.extract Z Z Z) (wq Z (QV.extract Z Z Z) (wa Z (wa Z (ns (wm Z ?_)))))))
    obtain ⟨c54, hm55⟩ := cs hm53; clear hm53
    obtain ⟨p56, hp57⟩ := h_l.lenMap.ix (sz := 1) ln_len c54
    refine wq Z (QV.indexSlice sl36 Z Z Z Z hp57) (wl pl9 Z (fun w hw => CellsAt.one 0 (((Own.karr 2 Z hk h_l) w hw).ele hp57 c54) Z) ?_)
    obtain ⟨x58, hx59, hm60⟩ := bd_some hm55; clear hm55
    refine wq Z (QV.call en14 (ec Z (ec Z eN)) (fun w hw => have h := R14_number_w w hx59 ; h)) (wm Z (wq Z (QV.extract Z Z Z) (wq Z (QV.extract Z Z Z) (wa Z (wa Z (ns (wm Z (wf fd47_3 Z (WL.effect Z ?_)))))))))
    refine (EV.store 0 Z Z Z Z Z Z (vs := [i_ x44.1]) (show Value.cells _ = List.toArray _ from Z) sz3 (nl Z) (oc Z one_nil) ?_)
    refine ns (wm Z (wf fd47_4 Z (WL.effect Z ?_)))
    refine (EV.store 0 Z Z Z Z Z Z (vs := [i_ x51.1]) (show Value.cells _ = List.toArray _ from Z) sz3 (nl Z) (oc Z one_nil) ?_)
    refine ns (wm Z (wf fd47_5 Z (WL.effect Z ?_)))
    refine (EV.store 0 Z Z Z Z Z Z (vs := [i_ x58.1]) (show Value.cells _ = List.toArray _ from Z) sz3 (nl Z) (oc Z one_nil) ?_)
    refine nt (WC.seq (sr (wm Z (wq Z (QV.eql Z Z Z Z) (nt ?_)))))
    refine wc Z hm60 (fun h61 hm62 => ?_) (fun h61 hm63 => ?_) <;> clear hm60
    ·skip
     refine sr (wq Z (QV.loadAgg ag47 Z Z Z (Own.cellsBlk 0 Z)) (wm Z (wm Z (gp Z (fun hG => QV.move Z Z) (wq Z (QV.pickAnd Z Z Z (fun h => h)) (wm Z (gp Z (fun hG => QV.move Z Z) (wq Z (QV.pickAnd Z Z Z (fun h => h)) (WL.effect Z ?_)))))))))
     refine (EV.store 1 Z Z Z Z Z Z (vs := [i_ b2c0_2, i_ 0, i_ 0, i_ 0, i_ 0, i_ x44.1, i_ x51.1, i_ x58.1, i_ 0]) (show Value.cells _ = List.toArray _ from Z) sz47 (nl Z) (oc Z (oc Z (oc Z (oc Z (oc Z (oc Z (oc Z (oc Z (oc Z one_nil))))))))) ?_)
     refine wa Z (nt (WC.ret (tr (kr (tr ?_)))))
     obtain rfl := (eq_of_some hm62).symm
     exact WQ.retCellTmp Z ag47 Z Z Z (Own.cellsBlk 1 Z) fun w hw => kg hw
    refine sk (WQ.then (sr (wm Z ?_)))
    obtain ⟨c64, hm65⟩ := cs hm63; clear hm63
    obtain ⟨p66, hp67⟩ := h_l.lenMap.ix (sz := 1) ln_len c64
    refine wq Z (QV.indexSlice sl36 Z Z Z Z hp67) (wl pl9 Z (fun w hw => CellsAt.one 0 (((Own.karr 2 Z hk h_l) w hw).ele hp67 c64) Z) ?_)
    obtain ⟨x68, hx69, hm70⟩ := bd_some hm65; clear hm65
    refine wq Z (QV.call en28 (ec Z eN) (fun w hw => have h := R14_reads_w w hx69 ; h)) (wm Z (wq Z (QV.extract Z Z Z) (wq Z (QV.extract Z Z Z) (WL.effect Z ?_))))
    refine (EV.alloc (by decide) ze45 (fun b71 => ?_))
    refine WL.effect Z ?_
    refine (EV.store 0 Z Z Z Z Z Z (vs := [i_ x68.1.st, i_ x68.1.bk]) (show Value.cells _ = List.toArray _ from Z) sz45 (nl Z) (oc Z (oc Z one_nil)) ?_)
    refine wa Z (ns (wq Z (QV.loadAgg ag45 Z Z Z (Own.cellsBlk 0 Z)) (wf fd47_1 Z (WL.effect Z ?_))))
    refine (EV.store 1 Z Z Z Z Z Z (vs := [i_ x68.1.st, i_ x68.1.bk]) (show Value.cells _ = List.toArray _ from Z) sz45 (nl Z) (oc Z (oc Z one_nil)) ?_)
    refine ns (wq Z (QV.loadAgg ag47 Z Z Z (Own.cellsBlk 1 Z)) (wm Z (wm Z (gp Z (fun hG => QV.move Z Z) (wq Z (QV.pickAnd Z Z Z (fun h => h)) (wm Z (gp Z (fun hG => QV.move Z Z) (wq Z (QV.pickAnd Z Z Z (fun h => h)) (wm Z ?_)))))))))
    refine gp Z (fun hG => QV.move Z Z) (wq Z (QV.pickAnd Z Z Z (fun h => h)) (WL.effect Z ?_))
    refine (EV.store 2 Z Z Z Z Z Z (vs := [i_ b2c0_2, i_ x68.1.st, i_ x68.1.bk, i_ 0, i_ 0, i_ x44.1, i_ x51.1, i_ x58.1, i_ 0]) (show Value.cells _ = List.toArray _ from Z) sz47 (nl Z) (oc Z (oc Z (oc Z (oc Z (oc Z (oc Z (oc Z (oc Z (oc Z one_nil))))))))) ?_)
    refine wa Z (nt (WC.ret (kr (tr ?_))))
    obtain rfl := (eq_of_some hm70).symm
    exact WQ.retCellTmp Z ag47 Z Z Z (Own.cellsBlk 2 Z) fun w hw => kg hw
   refine WC.cond Z (fun h72 => ?_) (fun h72 => ?_)
   ·skip
    have hm73 := br_t h72 hj35; clear hj35
    refine sr (wf fd47_0 Z (WL.effect Z ?_))
    refine (EV.store 0 Z Z Z Z Z Z (vs := [i_ 4]) (show Value.cells _ = List.toArray _ from Z) sz3 (nl Z) (oc Z one_nil) ?_)
    refine nr (wa Z (WL.nil ?_))
    exact WQ.out2 4 4 (eq_of_some hm73) ⟨Z, Z, Z, Z, Z, trivial⟩ (pk [0, 1, 2])
   have hm74 := br_f h72 hj35; clear hj35
   refine sk ?_
   exact WQ.out2 3 3 (eq_of_some hm74) ⟨Z, Z, Z, Z, Z, trivial⟩ (pk [0, 1, 2])
  refine sk (WQ.block (WQ.then (sr (WL.effect Z ?_))))
  obtain ⟨x76, hx77, hm78⟩ := bd_some hm75; clear hm75
  refine EV.of (C' := Own noM w [kn noM w.heap.size w w, blk b2 [i_ 0, i_ 0, i_ 0, i_ 0, i_ 0, i_ 0, i_ 0, i_ 0, i_ 0] 47, blk b1 [i_ 0, i_ 0, i_ 0, i_ 0, i_ 0, i_ 0, i_ 0, i_ 0, i_ 0] 47]) (pk [2, 0, 1]) ?_
  refine (EV.callR (X := Value × World) (R := []) (fun X => X.1) (fun X => []) (fun X => X.2) (fun X => Arr X.2 X.1 1 (x76.map scell)) hk (fun _ h => by cases h; decide) en29 eN (fun M w h1 h2 => have h := R14_words_w hx77  M w h1 h2; h) (fun X79 hF79 hle79 => ?_))
  refine wa Z (nt (WC.seq (sr (wa Z (nt ?_)))))
  obtain ⟨o80, ho81, hm82⟩ := bd_some hm78; clear hm78; obtain ⟨n83, ho84⟩ := lp_some ho81
  refine WC.bloop1 (H2 := [kn noM w.heap.size w X79.2, blk b2 [i_ 0, i_ 0, i_ 0, i_ 0, i_ 0, i_ 0, i_ 0, i_ 0, i_ 0] 47, blk b1 [i_ 0, i_ 0, i_ 0, i_ 0, i_ 0, i_ 0, i_ 0, i_ 0, i_ 0] 47]) (τ := [u_ 0 _, u_ 2 _, u_ 4 _, u_ 5 _, u_ 17 _]) (fun (i18_3 : Int) => [(18, (true, i_ i18_3))]) (fun i18_3 => []) (fun i18_3 m => iter (R14_stmt_L1 l x76) m i18_3 = some o80) (fun i18_3 => o80 = .go i18_3) 0 n83 ho84 ⟨Z, Z, Z, Z, Z, Z, trivial⟩ (pk [0, 1, 2]) ?_ ?_
  ·skip
   rintro i18_3 rfl
   refine WQ.then (sr (wq Z (QV.loadAgg ag47 Z Z Z (Own.cellsBlk 1 Z)) (WL.effect Z ?_)))
   refine (EV.store 2 Z Z Z Z Z Z (vs := [i_ 0, i_ 0, i_ 0, i_ 0, i_ 0, i_ 0, i_ 0, i_ 0, i_ 0]) (show Value.cells _ = List.toArray _ from Z) sz47 (nl Z) (oc Z (oc Z (oc Z (oc Z (oc Z (oc Z (oc Z (oc Z (oc Z one_nil))))))))) ?_)
   refine wa Z (nt (WC.ret ?_))
   obtain rfl := (eq_of_some hm82).symm
   exact WQ.retCellTmp Z ag47 Z Z Z (Own.cellsBlk 2 Z) fun w hw => kg hw
  rintro i18_3 m85 hI86
  obtain ⟨m87, s88, rfl, hm89, hn90⟩ := iter_step hI86; clear hI86; unfold R14_stmt_L1 at hm89
  refine WC.seq (sr (wm Z (wm Z (wq Z (QV.lenS Tryd.underlying36 Z Z hF79.lenMap) (wq Z (QV.lss Z Z Z Z) (nt ?_))))))
  refine wc Z hm89 (fun h91 hm92 => ?_) (fun h91 hm126 => ?_) <;> clear hm89
  ·skip
   refine sk (WQ.then (WC.seq (WC.block (WC.seq (WC.dr (m := 12) (by kernel_rfl) (by kernel_rfl) (fun w hw => hw) (zm 0 Z Z (zm 1 Z Z ?_)))))))
   obtain ⟨c93, hm94⟩ := cs hm92; clear hm92
   obtain ⟨p95, hp96⟩ := hF79.lenMap.ix (sz := 1) ln_len c93
   refine wz 2 Z Z (QV.indexSlice sl36 Z Z Z Z hp96) (zl 3 pl9 Z Z (fun w hw => CellsAt.one 0 (((Own.karr 0 Z hk hF79) w hw).ele hp96 c93) Z) (zm 4 Z Z ?_))
   obtain ⟨c97, hm98⟩ := cs hm94; clear hm94
   obtain ⟨p99, hp100⟩ := (h_l.le hle79).lenMap.ix (sz := 1) ln_len c97
   refine wz 5 Z Z (QV.indexSlice sl36 Z Z Z Z hp100) (zl 6 pl9 Z Z (fun w hw => CellsAt.one 0 (((Own.karr 0 Z hk (h_l.le hle79)) w hw).ele hp100 c97) Z) (wz 7 Z Z (QV.strEql Z Z Z Z) (zm 8 Z Z (zp 9 Z Z (fun hG => QV.move Z Z) (zp 10 Z Z (fun hG => QV.eql Z hG Z Z) (wz 11 Z Z (QV.pickAnd Z Z Z (fun h => h)) ?_))))))
   refine WD.e (by kernel_rfl) ?_
   refine WQ.then ?_
   refine wc Z hm98 (fun h101 hm102 => ?_) (fun h101 hm123 => ?_) <;> clear hm98
   ·skip
    refine sr (wm Z ?_)
    obtain ⟨c103, hm104⟩ := cs hm102; clear hm102
    obtain ⟨p105, hp106⟩ := (h_l.le hle79).lenMap.ix (sz := 1) ln_len c103
    refine wq Z (QV.indexSlice sl36 Z Z Z Z hp106) (wl pl9 Z (fun w hw => CellsAt.one 0 (((Own.karr 0 Z hk (h_l.le hle79)) w hw).ele hp106 c103) Z) ?_)
    obtain ⟨x107, hx108, hm109⟩ := bd_some hm104; clear hm104
    refine wq Z (QV.call en28 (ec Z eN) (fun w hw => have h := R14_reads_w w hx108 ; h)) (wm Z (wq Z (QV.extract Z Z Z) (wq Z (QV.extract Z Z Z) (WL.effect Z ?_))))
    refine (EV.alloc (by decide) ze45 (fun b110 => ?_))
    refine WL.effect Z ?_
    refine (EV.store 0 Z Z Z Z Z Z (vs := [i_ x107.1.st, i_ x107.1.bk]) (show Value.cells _ = List.toArray _ from Z) sz45 (nl Z) (oc Z (oc Z one_nil)) ?_)
    refine wa Z (ns (wm Z ?_))
    obtain ⟨c111, hm112⟩ := cs hm109; clear hm109
    obtain ⟨p113, hp114⟩ := (h_l.le hle79).lenMap.ix (sz := 1) ln_len c111
    refine wq Z (QV.indexSlice sl36 Z Z Z Z hp114) (wl pl9 Z (fun w hw => CellsAt.one 0 (((Own.karr 1 Z hk (h_l.le hle79)) w hw).ele hp114 c111) Z) ?_)
    obtain ⟨x115, hx116, hm117⟩ := bd_some hm112; clear hm112
    refine wq Z (QV.call en28 (ec Z eN) (fun w hw => have h := R14_reads_w w hx116 ; h)) (wm Z (wq Z (QV.extract Z Z Z) (wq Z (QV.extract Z Z Z) (WL.effect Z ?_))))
    refine (EV.alloc (by decide) ze45 (fun b118 => ?_))
    refine WL.effect Z ?_
    refine (EV.store 0 Z Z Z Z Z Z (vs := [i_ x115.1.st, i_ x115.1.bk]) (show Value.cells _ = List.toArray _ from Z) sz45 (nl Z) (oc Z (oc Z one_nil)) ?_)
    refine wa Z (ns (wm Z ?_))
    obtain ⟨c119, c121, hm122⟩ := cs2 hm117; clear hm117
    refine wq Z (QV.add Z Z Z Z c119) (wq Z (QV.add Z Z Z Z c121) (wq Z (QV.loadAgg ag45 Z Z Z (Own.cellsBlk 1 Z)) (wq Z (QV.loadAgg ag45 Z Z Z (Own.cellsBlk 0 Z)) (wq Z (QV.build (ps := [(0, .tmp 158), (1, .tmp 159), (2, .tmp 160)]) (cells := [i_ ((10 + i18_3) + 1), i_ x107.1.st, i_ x107.1.bk, i_ x115.1.st, i_ x115.1.bk, i_ 0, i_ 0, i_ 0, i_ 0]) (ec Z (ec Z (ec Z eN))) (by kernel_rfl)) (wm Z (wm Z (gp Z (fun hG => QV.move Z Z) (wq Z (QV.pickAnd Z Z Z (fun h => h)) (WL.effect Z ?_)))))))))
    refine (EV.store 4 Z Z Z Z Z Z (vs := [i_ ((10 + i18_3) + 1), i_ x107.1.st, i_ x107.1.bk, i_ x115.1.st, i_ x115.1.bk, i_ 0, i_ 0, i_ 0, i_ 0]) (show Value.cells _ = List.toArray _ from Z) sz47 (nl Z) (oc Z (oc Z (oc Z (oc Z (oc Z (oc Z (oc Z (oc Z (oc Z one_nil))))))))) ?_)
    refine wa Z (nt (WC.ret (kr (tr (tr (kr (tr (tr ?_))))))))
    obtain rfl := up_ret hm122 hn90
    obtain rfl := (eq_of_some hm82).symm
    exact WQ.retCellTmp Z ag47 Z Z Z (Own.cellsBlk 4 Z) fun w hw => kg hw
   refine sk (WQ.block (WQ.then (WC.region (wm Z ?_))))
   obtain ⟨c124, hm125⟩ := cs hm123; clear hm123
   refine wq Z (QV.add Z Z Z Z c124) (wa Z (WL.nil ?_))
   exact WQ.again1 (i18_3 + 1) m87 (up_next hm125 hn90) (Nat.lt_succ_self _) ⟨Z, Z, Z, Z, Z, Z, trivial⟩ (pk [0, 1, 2])
  refine WC.exit (te (te (WQ.block_exit ?_)))
  exact WQ.out1 i18_3 (up_brk hm126 hn90) ⟨Z, Z, Z, Z, Z, Z, trivial⟩ (pk [0, 1, 2])
 refine WC.cond Z (fun h127 => ?_) (fun h127 => ?_)
 ·skip
  have hm128 := br_t h127 hj26; clear hj26
  refine sk ?_
  exact WQ.out1 ((ele l 0) == [108, 111, 97, 100]) (eq_of_some hm128) ⟨Z, Z, Z, Z, Z, trivial⟩ (pk [0, 1, 2])
 have hm129 := br_f h127 hj26; clear hj26
 refine WC.region (wq Z (QV.strEql Z Z Z Z) (wa Z (WL.nil ?_)))
 exact WQ.out1 ((ele l 0) == [115, 116, 111, 114, 101]) (eq_of_some hm129) ⟨Z, Z, Z, Z, Z, trivial⟩ (pk [0, 1, 2])
theorem R14_Parse_w {s : List UInt8} {r : Lp × Flt} {K0 : World} (hm : R14_Parse_m s = some r)  (M : Nat → Prop) (w : World) (hk : Base M K0 w) (hw0 : Own M w [] w) : Calls Tryd.prog 7 #[strV s] w (fun e w' => ∃ X : Value × Value × Value × World, e = .returned (.tuple #[.agg #[X.1, X.2.1, X.2.2.1], .agg #[.int .i64 r.2.code, .int .i64 r.2.at']]) ∧ Own M w (kn M w.heap.size K0 X.2.2.2 :: []) w' ∧ Arr X.2.2.2 X.1 1 (r.1.logs.map icell) ∧ Arr X.2.2.2 X.2.1 9 (r.1.body.map Stm.cells) ∧ Arr X.2.2.2 X.2.2.1 1 (r.1.outs.map icell)) := by
 unfold R14_Parse_m at hm
 refine calls_of_WC (n := 126) (args := [strV s]) Tryd.func7 Z Z (nl Z) ?_ (Own.startK hk hw0)
 refine sr (WL.effect Z ?_)
 refine (EV.alloc (by decide) ze25 (fun b1 => ?_))
 refine WL.effect Z ?_
 refine (EV.alloc (by decide) ze28 (fun b2 => ?_))
 refine ns (wm Z (WL.effect Z ?_))
 obtain ⟨x3, hx4, hm5⟩ := bd_some hm; clear hm
 refine EV.of (C' := Own M w [kn M w.heap.size K0 K0, blk b2 [i_ 0, i_ 0] 28, blk b1 [.slice none 0 0, .slice none 0 0, .slice none 0 0] 25]) (pk [2, 0, 1]) ?_
 refine (EV.callR (X := Value × World) (R := []) (fun X => X.1) (fun X => []) (fun X => X.2) (fun X => Arr X.2 X.1 1 (x3.map scell)) hk (fun _ h => by cases h; decide) en13 (ec Z (ec Z eN)) (fun M w h1 h2 => have h := R14_split_w hx4  M w h1 h2; h) (fun X6 hF6 hle6 => ?_))
 refine wa Z (ns (wm Z (wq Z (QV.lenS Tryd.underlying36 Z Z hF6.lenMap) ?_)))
 obtain ⟨c7, hm8⟩ := cs hm5; clear hm5
 refine wq Z (QV.sub Z Z Z Z c7) (wa Z (ns (wq Z (QV.build (ps := []) (cells := [.slice none 0 0, .slice none 0 0, .slice none 0 0]) eN (by kernel_rfl)) (WL.effect Z ?_))))
 refine (EV.alloc (by decide) ze25 (fun b9 => ?_))
 refine WL.effect Z ?_
 refine (EV.store 0 Z Z Z Z Z Z (vs := [.slice none 0 0, .slice none 0 0, .slice none 0 0]) (show Value.cells _ = List.toArray _ from Z) sz25 (nl Z) (oc Z (oc Z (oc Z one_nil))) ?_)
 refine nt (WC.seq (sr (wa Z (nt ?_))))
 refine WK.of (fun w hw => hw.vecNil (E := 3) (sz := 1) (enc := icell)) ?_
 refine WK.of (fun w hw => hw.vecNil (E := 3) (sz := 1) (enc := icell)) ?_
 refine WK.of (fun w hw => hw.vecNil (E := 47) (sz := 9) (enc := Stm.cells)) ?_
 obtain ⟨o13, ho14, hm15⟩ := bd_some hm8; clear hm8; obtain ⟨n16, ho17⟩ := lp_some ho14
 refine WC.bloop8 (H2 := [blk b2 [i_ 0, i_ 0] 28, blk b1 [.slice none 0 0, .slice none 0 0, .slice none 0 0] 25]) (τ := [u_ 2 _, u_ 3 _, u_ 4 _, u_ 5 _, u_ 6 _]) (fun (v10_1 : List Int) (v11_1 : List Int) (v12_1 : List Stm) (k7_1 : Int) (uv10_1 : Value) (uv11_1 : Value) (uv12_1 : Value) (k_1 : World) => [(7, (true, i_ k7_1))]) (fun v10_1 v11_1 v12_1 k7_1 uv10_1 uv11_1 uv12_1 k_1 => [vec uv12_1 47 9 (List.map Stm.cells v12_1), vec uv11_1 3 1 (List.map icell v11_1), vec uv10_1 3 1 (List.map icell v10_1), blk b9 [uv10_1, uv12_1, uv11_1] 25, kn M w.heap.size K0 k_1]) (fun v10_1 v11_1 v12_1 k7_1 uv10_1 uv11_1 uv12_1 k_1 m => iter (R14_Parse_L0 x3) m (v10_1, v11_1, v12_1, k7_1) = some o13 ∧ SliceLen uv10_1 v10_1.length ∧ SliceLen uv11_1 v11_1.length ∧ SliceLen uv12_1 v12_1.length ∧ Le X6.2 k_1) (fun v10_1 v11_1 v12_1 k7_1 uv10_1 uv11_1 uv12_1 k_1 => o13 = .go (v10_1, v11_1, v12_1, k7_1) ∧ SliceLen uv10_1 v10_1.length ∧ SliceLen uv11_1 v11_1.length ∧ SliceLen uv12_1 v12_1.length ∧ Le X6.2 k_1) [] [] [] 0 (.slice none 0 0) (.slice none 0 0) (.slice none 0 0) X6.2 n16 ⟨ho17, SliceLen.nil, SliceLen.nil, SliceLen.nil, (Le.refl _)⟩ ⟨Z, Z, Z, Z, Z, Z, trivial⟩ (pk [0, 1, 2, 3, 4, 5, 6]) ?_ ?_
 ·skip
  rintro v10_1 v11_1 v12_1 k7_1 uv10_1 uv11_1 uv12_1 k_1 ⟨rfl, hlv10_1, hlv11_1, hlv12_1, hle_1⟩
  refine WQ.then (WC.seq (sr (wm Z (wm Z ?_))))
  obtain ⟨c18, hm19⟩ := cs hm15; clear hm15
  obtain ⟨p20, hp21⟩ := (hF6.le hle_1).lenMap.ix (sz := 1) ln_len c18
  refine wq Z (QV.indexSlice sl36 Z Z Z Z hp21) (wl pl9 Z (fun w hw => CellsAt.one 0 (((Own.karr 4 Z hk (hF6.le hle_1)) w hw).ele hp21 c18) Z) (wq Z (QV.strNeq Z Z Z Z) (wm Z (gn Z (fun hG => QV.loadAgg ag25 Z Z Z (Own.cellsBlk 3 Z)) ?_))))
  obtain ⟨x22, hx23, hm24⟩ := bdG_some hm19; clear hm19
  refine gn Z (fun hG => QV.call en16 (EvAll.cons Z hG eN) (fun w hw => have h := R2_May_w w (hx23 hG) ((Own.vecArr 2 Z) w hw) ((Own.vecArr 0 Z) w hw) ((Own.vecArr 1 Z) w hw); h)) (gn Z (fun hG => QV.not Z hG) (wq Z (QV.pickOr Z Z Z (fun h => notF h)) (nt ?_)))
  refine wc Z hm24 (fun h25 hm26 => ?_) (fun h25 hm27 => ?_) <;> clear hm24
  ·skip
   refine sr (wq Z (QV.build (ps := []) (cells := [.slice none 0 0, .slice none 0 0, .slice none 0 0]) eN (by kernel_rfl)) (wm Z (wq Z (QV.build (ps := [(0, .const (i_ 2)), (1, .tmp 122)]) (cells := [i_ 2, i_ ((ln x3) - 1)]) (ec Z (ec Z eN)) (by kernel_rfl)) (WL.effect Z ?_))))
   refine (EV.store 6 Z Z Z Z Z Z (vs := [.slice none 0 0, .slice none 0 0, .slice none 0 0]) (show Value.cells _ = List.toArray _ from Z) sz25 (nl Z) (oc Z (oc Z (oc Z one_nil))) ?_)
   refine WL.effect Z ?_
   refine (EV.store 5 Z Z Z Z Z Z (vs := [i_ 2, i_ ((ln x3) - 1)]) (show Value.cells _ = List.toArray _ from Z) sz28 (nl Z) (oc Z (oc Z one_nil)) ?_)
   refine nt (WC.ret (tr ?_))
   obtain rfl := (eq_of_some hm26).symm
   refine WQ.retCell2 Z ag25 Z Z (Own.cellsBlk 6 Z) ag28 Z Z (Own.cellsBlk 5 Z) (fun w hw => ?_)
   exact ⟨(.slice none 0 0, .slice none 0 0, .slice none 0 0, k_1), Z, hw.pick [4] (by decide), Arr.nil, Arr.nil, Arr.nil⟩
  refine sk (WQ.then (sr (wq Z (QV.loadAgg ag25 Z Z Z (Own.cellsBlk 3 Z)) (wq Z (QV.build (ps := []) (cells := [i_ 0, i_ 0]) eN (by kernel_rfl)) (WL.effect Z ?_)))))
  refine (EV.store 6 Z Z Z Z Z Z (vs := [uv10_1, uv12_1, uv11_1]) (show Value.cells _ = List.toArray _ from Z) sz25 (nl Z) (oc (SliceLen.one hlv10_1) (oc (SliceLen.one hlv12_1) (oc (SliceLen.one hlv11_1) one_nil))) ?_)
  refine WL.effect Z ?_
  refine (EV.store 5 Z Z Z Z Z Z (vs := [i_ 0, i_ 0]) (show Value.cells _ = List.toArray _ from Z) sz28 (nl Z) (oc Z (oc Z one_nil)) ?_)
  refine nt (WC.ret ?_)
  obtain rfl := (eq_of_some hm27).symm
  refine WK.of (C' := Own M w [kn M w.heap.size K0 k_1, vec uv10_1 3 1 (List.map icell v10_1), vec uv12_1 47 9 (List.map Stm.cells v12_1), vec uv11_1 3 1 (List.map icell v11_1), blk b9 [uv10_1, uv12_1, uv11_1] 25, blk b2 [i_ 0, i_ 0] 28, blk b1 [uv10_1, uv12_1, uv11_1] 25]) (pk [4, 2, 0, 1, 3, 5, 6]) ?_
  refine WK.freeze hk (fun k28 hle28 hr28 => ?_)
  have hA28 := vec_arr hr28
  refine WK.freeze hk (fun k29 hle29 hr29 => ?_)
  have hA29 := vec_arr hr29
  refine WK.freeze hk (fun k30 hle30 hr30 => ?_)
  have hA30 := vec_arr hr30
  refine WQ.retCell2 Z ag25 Z Z (Own.cellsBlk 3 Z) ag28 Z Z (Own.cellsBlk 2 Z) (fun w hw => ?_)
  exact ⟨(uv10_1, uv12_1, uv11_1, k30), Z, hw.pick [0] (by decide), (hA28.le (hle29.trans hle30)), (hA29.le hle30), hA30⟩
 rintro v10_1 v11_1 v12_1 k7_1 uv10_1 uv11_1 uv12_1 k_1 m31 ⟨hI32, hlv10_1, hlv11_1, hlv12_1, hle_1⟩
 obtain ⟨m33, s34, rfl, hm35, hn36⟩ := iter_step hI32; clear hI32; unfold R14_Parse_L0 at hm35; simp only at hm35
 refine WC.seq (sr (wm Z (wm Z (wq Z (QV.lss Z Z Z Z) (nt ?_)))))
 refine wc Z hm35 (fun h37 hm38 => ?_) (fun h37 hm113 => ?_) <;> clear hm35
 ·skip
  refine sk (WQ.then (WC.seq (WC.block (sr (wm Z (wm Z ?_))))))
  obtain ⟨c39, hm40⟩ := cs hm38; clear hm38
  obtain ⟨p41, hp42⟩ := (hF6.le hle_1).lenMap.ix (sz := 1) ln_len c39
  refine wq Z (QV.indexSlice sl36 Z Z Z Z hp42) (wl pl9 Z (fun w hw => CellsAt.one 0 (((Own.karr 4 Z hk (hF6.le hle_1)) w hw).ele hp42 c39) Z) (WL.effect Z ?_))
  obtain ⟨x43, hx44, hm45⟩ := bd_some hm40; clear hm40
  refine EV.of (C' := Own M w [kn M w.heap.size K0 k_1, vec uv12_1 47 9 (List.map Stm.cells v12_1), vec uv11_1 3 1 (List.map icell v11_1), vec uv10_1 3 1 (List.map icell v10_1), blk b9 [uv10_1, uv12_1, uv11_1] 25, blk b2 [i_ 0, i_ 0] 28, blk b1 [.slice none 0 0, .slice none 0 0, .slice none 0 0] 25]) (pk [4, 0, 1, 2, 3, 5, 6]) ?_
  refine (EV.callR (X := Value × World) (R := []) (fun X => X.1) (fun X => []) (fun X => X.2) (fun X => Arr X.2 X.1 1 (x43.map scell)) hk (fun _ h => by cases h; decide) en13 (ec Z (ec Z eN)) (fun M w h1 h2 => have h := R14_split_w hx44  M w h1 h2; h) (fun X46 hF46 hle46 => ?_))
  refine wa Z (ns (wm Z (wq Z (QV.build (ps := [(0, .const (i_ 2)), (1, .tmp 30)]) (cells := [i_ 2, i_ k7_1]) (ec Z (ec Z eN)) (by kernel_rfl)) (WL.effect Z ?_))))
  refine (EV.alloc (by decide) ze28 (fun b47 => ?_))
  refine WL.effect Z ?_
  refine (EV.store 0 Z Z Z Z Z Z (vs := [i_ 2, i_ k7_1]) (show Value.cells _ = List.toArray _ from Z) sz28 (nl Z) (oc Z (oc Z one_nil)) ?_)
  refine nt (WC.seq (sr (wm Z ?_)))
  obtain ⟨c48, hm49⟩ := cs hm45; clear hm45
  obtain ⟨p50, hp51⟩ := hF46.lenMap.ix (sz := 1) ln_len c48
  refine wq Z (QV.indexSlice sl36 Z Z Z Z hp51) (wl pl9 Z (fun w hw => CellsAt.one 0 (((Own.karr 1 Z hk hF46) w hw).ele hp51 c48) Z) (wq Z (QV.strEql Z Z Z Z) (wm Z (gn Z (fun hG => QV.move Z Z) ?_))))
  obtain ⟨c52, hm53⟩ := cs hm49; clear hm49
  obtain ⟨p54, hp55⟩ := hF46.lenMap.ixG (sz := 1) ln_len c52
  refine gn Z (fun hG => QV.indexSlice sl36 Z hG Z Z (hp55 hG)) (gn Z (fun hG => QV.load pl9 Z hG (fun w hw => CellsAt.one 0 (((Own.karr 1 Z hk hF46) w hw).ele (hp55 hG) (c52 hG)) Z)) (gn Z (fun hG => QV.strEql Z hG Z Z) (wq Z (QV.pickOr Z Z Z (fun h => notF h)) (nt ?_))))
  refine wc Z hm53 (fun h56 hm57 => ?_) (fun h56 hm98 => ?_) <;> clear hm53
  ·skip
   refine WC.seq (sr (wm Z (wq Z (QV.lenS Tryd.underlying36 Z Z hF46.lenMap) (wq Z (QV.neq Z Z Z Z) (wm Z (gn Z (fun hG => QV.move Z Z) ?_))))))
   obtain ⟨c58, hm59⟩ := cs hm57; clear hm57
   obtain ⟨p60, hp61⟩ := hF46.lenMap.ixG (sz := 1) ln_len c58
   refine gn Z (fun hG => QV.indexSlice sl36 Z hG Z Z (hp61 hG)) (gn Z (fun hG => QV.load pl9 Z hG (fun w hw => CellsAt.one 0 (((Own.karr 1 Z hk hF46) w hw).ele (hp61 hG) (c58 hG)) Z)) (gn Z (fun hG => QV.strEql Z hG Z Z) (gn Z (fun hG => QV.move Z hG) (gpC Z (fun hG => QV.fieldAddr fd25_1 Z Z) (gpC Z (fun hG => QV.load pl23 Z hG (Own.cell 5 Z Z)) (gpC Z (fun hG => QV.lenS Tryd.underlying23 Z hG hlv12_1) (gpC Z (fun hG => QV.fieldAddr fd25_2 Z Z) (gpC Z (fun hG => QV.load pl22 Z hG (Own.cell 5 Z Z)) (gpC Z (fun hG => QV.lenS Tryd.underlying22 Z hG hlv11_1) ?_)))))))))
   obtain ⟨c62, hm63⟩ := cs hm59; clear hm59
   refine gpC Z (fun hG => QV.add Z hG Z hG (c62 hG)) (gpC Z (fun hG => QV.gtr Z hG Z Z) (gn Z (fun hG => QV.pickAnd Z hG Z (fun h => andT hG h)) (wq Z (QV.pickOr Z Z Z (fun h => notF h)) (nt ?_))))
   refine wc Z hm63 (fun h64 hm65 => ?_) (fun h64 hm66 => ?_) <;> clear hm63
   ·skip
    refine WC.seq (WC.dr (m := 4) (S := Own M w [kn M w.heap.size K0 X46.2, blk b47 [i_ 2, i_ k7_1] 28, vec uv12_1 47 9 (List.map Stm.cells v12_1), vec uv11_1 3 1 (List.map icell v11_1), vec uv10_1 3 1 (List.map icell v10_1), blk b9 [uv10_1, uv12_1, uv11_1] 25, blk b2 [i_ 0, i_ 0] 28, blk b1 [.slice none 0 0, .slice none 0 0, .slice none 0 0] 25]) (by kernel_rfl) (by kernel_rfl) (pk [1, 0, 2, 3, 4, 5, 6, 7]) (wz 0 Z Z (QV.build (ps := []) (cells := [.slice none 0 0, .slice none 0 0, .slice none 0 0]) eN (by kernel_rfl)) (wz 1 Z Z (QV.loadAgg ag28 Z Z Z (Own.cellsBlk 1 Z)) ?_)))
    refine WD.o 2 Z (by kernel_rfl) Z ?_
    refine (EV.store 7 Z Z Z Z Z Z (vs := [.slice none 0 0, .slice none 0 0, .slice none 0 0]) (show Value.cells _ = List.toArray _ from Z) sz25 (nl Z) (oc Z (oc Z (oc Z one_nil))) ?_)
    refine WD.b (H' := [kn M w.heap.size K0 X46.2, blk b47 [i_ 2, i_ k7_1] 28, vec uv12_1 47 9 (List.map Stm.cells v12_1), vec uv11_1 3 1 (List.map icell v11_1), vec uv10_1 3 1 (List.map icell v10_1), blk b9 [uv10_1, uv12_1, uv11_1] 25, blk b2 [i_ 0, i_ 0] 28, blk b1 [.slice none 0 0, .slice none 0 0, .slice none 0 0] 25]) (pk [1, 0, 2, 3, 4, 5, 6, 7]) (pk [0, 1, 2, 3, 4, 5, 6, 7]) ?_
    refine WD.l 3 Z (by kernel_rfl) Z ?_
    refine (EV.store 6 Z Z Z Z Z Z (vs := [i_ 2, i_ k7_1]) (show Value.cells _ = List.toArray _ from Z) sz28 (nl Z) (oc Z (oc Z one_nil)) ?_)
    refine WQ.then (WC.ret (tr (tr (kr (tr (tr (kr (tr (tr ?_)))))))))
    obtain rfl := up_ret hm65 hn36
    obtain rfl := (eq_of_some hm15).symm
    refine WQ.retCell2 Z ag25 Z Z (Own.cellsBlk 7 Z) ag28 Z Z (Own.cellsBlk 6 Z) (fun w hw => ?_)
    exact ⟨(.slice none 0 0, .slice none 0 0, .slice none 0 0, X46.2), Z, hw.pick [1] (by decide), Arr.nil, Arr.nil, Arr.nil⟩
   refine sk (WQ.then (sr (wm Z ?_)))
   obtain ⟨c67, hm68⟩ := cs hm66; clear hm66
   obtain ⟨p69, hp70⟩ := hF46.lenMap.ix (sz := 1) ln_len c67
   refine wq Z (QV.indexSlice sl36 Z Z Z Z hp70) (wl pl9 Z (fun w hw => CellsAt.one 0 (((Own.karr 1 Z hk hF46) w hw).ele hp70 c67) Z) ?_)
   obtain ⟨x71, hx72, hm73⟩ := bd_some hm68; clear hm68
   refine wq Z (QV.call en14 (ec Z (ec Z eN)) (fun w hw => have h := R14_number_w w hx72 ; h)) (wm Z (wq Z (QV.extract Z Z Z) (wq Z (QV.extract Z Z Z) (wa Z (wa Z (nt (WC.seq (sr (wm Z (wq Z (QV.not Z Z) (nt ?_)))))))))))
   refine wc Z hm73 (fun h74 hm75 => ?_) (fun h74 hm76 => ?_) <;> clear hm73
   ·skip
    refine WC.seq (WC.dr (m := 4) (S := Own M w [kn M w.heap.size K0 X46.2, blk b47 [i_ 2, i_ k7_1] 28, vec uv12_1 47 9 (List.map Stm.cells v12_1), vec uv11_1 3 1 (List.map icell v11_1), vec uv10_1 3 1 (List.map icell v10_1), blk b9 [uv10_1, uv12_1, uv11_1] 25, blk b2 [i_ 0, i_ 0] 28, blk b1 [.slice none 0 0, .slice none 0 0, .slice none 0 0] 25]) (by kernel_rfl) (by kernel_rfl) (pk [1, 0, 2, 3, 4, 5, 6, 7]) (wz 0 Z Z (QV.build (ps := []) (cells := [.slice none 0 0, .slice none 0 0, .slice none 0 0]) eN (by kernel_rfl)) (wz 1 Z Z (QV.loadAgg ag28 Z Z Z (Own.cellsBlk 1 Z)) ?_)))
    refine WD.o 2 Z (by kernel_rfl) Z ?_
    refine (EV.store 7 Z Z Z Z Z Z (vs := [.slice none 0 0, .slice none 0 0, .slice none 0 0]) (show Value.cells _ = List.toArray _ from Z) sz25 (nl Z) (oc Z (oc Z (oc Z one_nil))) ?_)
    refine WD.b (H' := [kn M w.heap.size K0 X46.2, blk b47 [i_ 2, i_ k7_1] 28, vec uv12_1 47 9 (List.map Stm.cells v12_1), vec uv11_1 3 1 (List.map icell v11_1), vec uv10_1 3 1 (List.map icell v10_1), blk b9 [uv10_1, uv12_1, uv11_1] 25, blk b2 [i_ 0, i_ 0] 28, blk b1 [.slice none 0 0, .slice none 0 0, .slice none 0 0] 25]) (pk [1, 0, 2, 3, 4, 5, 6, 7]) (pk [0, 1, 2, 3, 4, 5, 6, 7]) ?_
    refine WD.l 3 Z (by kernel_rfl) Z ?_
    refine (EV.store 6 Z Z Z Z Z Z (vs := [i_ 2, i_ k7_1]) (show Value.cells _ = List.toArray _ from Z) sz28 (nl Z) (oc Z (oc Z one_nil)) ?_)
    refine WQ.then (WC.ret (tr (tr (kr (tr (tr (kr (tr (tr ?_)))))))))
    obtain rfl := up_ret hm75 hn36
    obtain rfl := (eq_of_some hm15).symm
    refine WQ.retCell2 Z ag25 Z Z (Own.cellsBlk 7 Z) ag28 Z Z (Own.cellsBlk 6 Z) (fun w hw => ?_)
    exact ⟨(.slice none 0 0, .slice none 0 0, .slice none 0 0, X46.2), Z, hw.pick [1] (by decide), Arr.nil, Arr.nil, Arr.nil⟩
   refine sk (WQ.then (WC.seq (sr (wm Z ?_))))
   obtain ⟨c77, hm78⟩ := cs hm76; clear hm76
   obtain ⟨p79, hp80⟩ := hF46.lenMap.ix (sz := 1) ln_len c77
   refine wq Z (QV.indexSlice sl36 Z Z Z Z hp80) (wl pl9 Z (fun w hw => CellsAt.one 0 (((Own.karr 1 Z hk hF46) w hw).ele hp80 c77) Z) (wq Z (QV.strEql Z Z Z Z) (nt ?_)))
   refine wc Z hm78 (fun h81 hm82 => ?_) (fun h81 hm90 => ?_) <;> clear hm78
   ·skip
    refine WC.region (wf fd25_0 Z (wl pl22 Z (Own.cell 5 Z Z) (wm Z (WL.effect Z ?_))))
    refine (EV.buildSlice (by decide) sz_22 (by decide) (by decide) (ps := [(0, .tmp 80)]) (cells := [i_ x71.1]) (ec Z eN) (by kernel_rfl) (fun b83 => ?_))
    refine WL.effect Z ?_
    obtain ⟨c84, c88, hm89⟩ := cs2 hm82; clear hm82
    refine (EV.appendL (enc := icell) (xs := v10_1) (ys := [x71.1]) ((v10_1 ++ [x71.1])) 5 (by decide) ve22 Z Z Z Z Z (Own.blkArr 0 (rows := [x71.1].map icell) Z Z (rows_len icell_len)) icell_len (icell_one _) Z c84.1 c84.2 (fun u86 hu87 => ?_))
    refine wf fd25_0 Z (WL.effect Z ?_)
    refine (EV.store 6 Z Z Z Z Z Z (vs := [u86]) (SliceLen.cells hu87) sz22 (nl Z) (oc (SliceLen.one hu87) one_nil) ?_)
    refine nt (WC.exit (te (WQ.block_exit (WQ.then (WC.region (wm Z (wq Z (QV.add Z Z Z Z c88) (wa Z (WL.nil ?_)))))))))
    exact WQ.again8 (v10_1 ++ [x71.1]) v11_1 v12_1 (k7_1 + 1) u86 uv11_1 uv12_1 X46.2 m33 ⟨up_next hm89 hn36, hu87, hlv11_1, hlv12_1, (hle_1.trans hle46)⟩ (Nat.lt_succ_self _) ⟨Z, Z, Z, Z, Z, Z, trivial⟩ (pk [3, 4, 5, 6, 2, 7, 8])
   refine WC.region (wf fd25_2 Z (wl pl22 Z (Own.cell 5 Z Z) (wm Z (WL.effect Z ?_))))
   refine (EV.buildSlice (by decide) sz_22 (by decide) (by decide) (ps := [(0, .tmp 86)]) (cells := [i_ x71.1]) (ec Z eN) (by kernel_rfl) (fun b91 => ?_))
   refine WL.effect Z ?_
   obtain ⟨c92, c96, hm97⟩ := cs2 hm90; clear hm90
   refine (EV.appendL (enc := icell) (xs := v11_1) (ys := [x71.1]) ((v11_1 ++ [x71.1])) 4 (by decide) ve22 Z Z Z Z Z (Own.blkArr 0 (rows := [x71.1].map icell) Z Z (rows_len icell_len)) icell_len (icell_one _) Z c92.1 c92.2 (fun u94 hu95 => ?_))
   refine wf fd25_2 Z (WL.effect Z ?_)
   refine (EV.store 6 Z Z Z Z Z Z (vs := [u94]) (SliceLen.cells hu95) sz22 (nl Z) (oc (SliceLen.one hu95) one_nil) ?_)
   refine nt (WC.exit (te (WQ.block_exit (WQ.then (WC.region (wm Z (wq Z (QV.add Z Z Z Z c96) (wa Z (WL.nil ?_)))))))))
   exact WQ.again8 v10_1 (v11_1 ++ [x71.1]) v12_1 (k7_1 + 1) uv10_1 u94 uv12_1 X46.2 m33 ⟨up_next hm97 hn36, hlv10_1, hu95, hlv12_1, (hle_1.trans hle46)⟩ (Nat.lt_succ_self _) ⟨Z, Z, Z, Z, Z, Z, trivial⟩ (pk [3, 4, 5, 6, 2, 7, 8])
  refine sk (WQ.then (sr (wm Z ?_)))
  obtain ⟨x99, hx100, hm101⟩ := bd_some hm98; clear hm98
  refine wq Z (QV.call en15 (ec Z eN) (fun w hw => have h := R14_stmt_w w hx100 ((Own.karr 1 Z hk hF46) w hw); h)) (wm Z (wq Z (QV.extract Z Z Z) (wq Z (QV.extract Z Z Z) (WL.effect Z ?_))))
  refine (EV.alloc (by decide) ze47 (fun b102 => ?_))
  refine WL.effect Z ?_
  refine (EV.store 0 Z Z Z Z Z Z (vs := (Stm.cells x99.1)) (show Value.cells _ = List.toArray _ from Z) sz47 (nl Z) (oc Z (oc Z (oc Z (oc Z (oc Z (oc Z (oc Z (oc Z (oc Z one_nil))))))))) ?_)
  refine wa Z (nt (WC.seq (sr (wm Z (wq Z (QV.not Z Z) (wm Z (gn Z (fun hG => QV.fieldAddr fd25_2 Z Z) (gn Z (fun hG => QV.load pl22 Z hG (Own.cell 6 Z Z)) (gn Z (fun hG => QV.lenS Tryd.underlying22 Z hG hlv11_1) (gn Z (fun hG => QV.gtr Z hG Z Z) (wq Z (QV.pickOr Z Z Z (fun h => notF h)) ?_)))))))))))
  refine nt ?_
  refine wc Z hm101 (fun h103 hm104 => ?_) (fun h103 hm105 => ?_) <;> clear hm101
  ·skip
   refine WC.seq (WC.dr (m := 4) (S := Own M w [kn M w.heap.size K0 X46.2, blk b102 (Stm.cells x99.1) 47, blk b47 [i_ 2, i_ k7_1] 28, vec uv12_1 47 9 (List.map Stm.cells v12_1), vec uv11_1 3 1 (List.map icell v11_1), vec uv10_1 3 1 (List.map icell v10_1), blk b9 [uv10_1, uv12_1, uv11_1] 25, blk b2 [i_ 0, i_ 0] 28, blk b1 [.slice none 0 0, .slice none 0 0, .slice none 0 0] 25]) (by kernel_rfl) (by kernel_rfl) (pk [2, 0, 1, 3, 4, 5, 6, 7, 8]) (wz 0 Z Z (QV.build (ps := []) (cells := [.slice none 0 0, .slice none 0 0, .slice none 0 0]) eN (by kernel_rfl)) (wz 1 Z Z (QV.loadAgg ag28 Z Z Z (Own.cellsBlk 2 Z)) ?_)))
   refine WD.o 2 Z (by kernel_rfl) Z ?_
   refine (EV.store 8 Z Z Z Z Z Z (vs := [.slice none 0 0, .slice none 0 0, .slice none 0 0]) (show Value.cells _ = List.toArray _ from Z) sz25 (nl Z) (oc Z (oc Z (oc Z one_nil))) ?_)
   refine WD.b (H' := [kn M w.heap.size K0 X46.2, blk b102 (Stm.cells x99.1) 47, blk b47 [i_ 2, i_ k7_1] 28, vec uv12_1 47 9 (List.map Stm.cells v12_1), vec uv11_1 3 1 (List.map icell v11_1), vec uv10_1 3 1 (List.map icell v10_1), blk b9 [uv10_1, uv12_1, uv11_1] 25, blk b2 [i_ 0, i_ 0] 28, blk b1 [.slice none 0 0, .slice none 0 0, .slice none 0 0] 25]) (pk [2, 0, 1, 3, 4, 5, 6, 7, 8]) (pk [0, 1, 2, 3, 4, 5, 6, 7, 8]) ?_
   refine WD.l 3 Z (by kernel_rfl) Z ?_
   refine (EV.store 7 Z Z Z Z Z Z (vs := [i_ 2, i_ k7_1]) (show Value.cells _ = List.toArray _ from Z) sz28 (nl Z) (oc Z (oc Z one_nil)) ?_)
   refine WQ.then (WC.ret (tr (kr (tr (tr (kr (tr (tr ?_))))))))
   obtain rfl := up_ret hm104 hn36
   obtain rfl := (eq_of_some hm15).symm
   refine WQ.retCell2 Z ag25 Z Z (Own.cellsBlk 8 Z) ag28 Z Z (Own.cellsBlk 7 Z) (fun w hw => ?_)
   exact ⟨(.slice none 0 0, .slice none 0 0, .slice none 0 0, X46.2), Z, hw.pick [2] (by decide), Arr.nil, Arr.nil, Arr.nil⟩
  refine sk (WQ.then (WC.region (wf fd25_1 Z (wl pl23 Z (Own.cell 6 Z Z) (wq Z (QV.loadAgg ag47 Z Z Z (Own.cellsBlk 0 Z)) (WL.effect Z ?_))))))
  refine (EV.buildSlice (by decide) sz_23 (by decide) (by decide) (ps := [(0, .tmp 107)]) (cells := (Stm.cells x99.1)) (ec Z eN) (by kernel_rfl) (fun b106 => ?_))
  refine WL.effect Z ?_
  obtain ⟨c107, c111, hm112⟩ := cs2 hm105; clear hm105
  refine (EV.appendL (enc := Stm.cells) (xs := v12_1) (ys := [x99.1]) ((v12_1 ++ [x99.1])) 4 (by decide) ve23 Z Z Z Z Z (Own.blkArr 0 (rows := [x99.1].map Stm.cells) Z Z (rows_len Stm.cells_len)) Stm.cells_len (Stm.cells_one _) Z c107.1 c107.2 (fun u109 hu110 => ?_))
  refine wf fd25_1 Z (WL.effect Z ?_)
  refine (EV.store 7 Z Z Z Z Z Z (vs := [u109]) (SliceLen.cells hu110) sz23 (nl Z) (oc (SliceLen.one hu110) one_nil) ?_)
  refine WL.nil (WQ.block (WQ.then (WC.region (wm Z (wq Z (QV.add Z Z Z Z c111) (wa Z (WL.nil ?_)))))))
  exact WQ.again8 v10_1 v11_1 (v12_1 ++ [x99.1]) (k7_1 + 1) uv10_1 uv11_1 u109 X46.2 m33 ⟨up_next hm112 hn36, hlv10_1, hlv11_1, hu110, (hle_1.trans hle46)⟩ (Nat.lt_succ_self _) ⟨Z, Z, Z, Z, Z, Z, trivial⟩ (pk [4, 5, 6, 7, 3, 8, 9])
 refine WC.exit (te (te (WQ.block_exit ?_)))
 exact WQ.out8 v10_1 v11_1 v12_1 k7_1 uv10_1 uv11_1 uv12_1 k_1 ⟨up_brk hm113 hn36, hlv10_1, hlv11_1, hlv12_1, hle_1⟩ ⟨Z, Z, Z, Z, Z, Z, trivial⟩ (pk [0, 1, 2, 3, 4, 5, 6])
theorem R14_Same_w {v_a_logs v_a_body v_a_outs v_b_logs v_b_body v_b_outs : Value} {a b : Lp} {r : Bool} (w : World) (hm : R14_Same_m a b = some r) (h_a_logs : Arr w v_a_logs 1 (a.logs.map icell)) (h_a_body : Arr w v_a_body 9 (a.body.map Stm.cells)) (h_a_outs : Arr w v_a_outs 1 (a.outs.map icell)) (h_b_logs : Arr w v_b_logs 1 (b.logs.map icell)) (h_b_body : Arr w v_b_body 9 (b.body.map Stm.cells)) (h_b_outs : Arr w v_b_outs 1 (b.outs.map icell)) : Calls Tryd.prog 8 #[.agg #[v_a_logs, v_a_body, v_a_outs], .agg #[v_b_logs, v_b_body, v_b_outs]] w (fun e w' => e = .returned (.bool r) ∧ Grow w w') := by
 unfold R14_Same_m at hm
 have hk := Base.rfl (w := w)
 refine calls_of_WC (n := 87) (args := [.agg #[v_a_logs, v_a_body, v_a_outs], .agg #[v_b_logs, v_b_body, v_b_outs]]) Tryd.func8 Z Z (nl Z) ?_ (Own.startK hk (Own.start w))
 refine sr (WL.effect Z ?_)
 refine (EV.boxAgg (by decide) Z Z (fun b1 => ?_))
 refine WL.effect Z ?_
 refine (EV.boxAgg (by decide) Z Z (fun b2 => ?_))
 refine wa Z (nt (WC.seq (sr (wf fd25_0 Z (wl pl22 Z (Own.cell 1 Z Z) (wq Z (QV.lenS Tryd.underlying22 Z Z h_a_logs.lenMap) (wf fd25_0 Z (wl pl22 Z (Own.cell 0 Z Z) (wq Z (QV.lenS Tryd.underlying22 Z Z h_b_logs.lenMap) (wq Z (QV.neq Z Z Z Z) (wm Z ?_)))))))))))
 refine gn Z (fun hG => QV.fieldAddr fd25_1 Z Z) (gn Z (fun hG => QV.load pl23 Z hG (Own.cell 1 Z Z)) (gn Z (fun hG => QV.lenS Tryd.underlying23 Z hG h_a_body.lenMap) (gn Z (fun hG => QV.fieldAddr fd25_1 Z Z) (gn Z (fun hG => QV.load pl23 Z hG (Own.cell 0 Z Z)) (gn Z (fun hG => QV.lenS Tryd.underlying23 Z hG h_b_body.lenMap) (gn Z (fun hG => QV.neq Z hG Z hG) (wq Z (QV.pickOr Z Z Z (fun h => notF h)) (wm Z (gn Z (fun hG => QV.fieldAddr fd25_2 Z Z) ?_)))))))))
 refine gn Z (fun hG => QV.load pl22 Z hG (Own.cell 1 Z Z)) (gn Z (fun hG => QV.lenS Tryd.underlying22 Z hG h_a_outs.lenMap) (gn Z (fun hG => QV.fieldAddr fd25_2 Z Z) (gn Z (fun hG => QV.load pl22 Z hG (Own.cell 0 Z Z)) (gn Z (fun hG => QV.lenS Tryd.underlying22 Z hG h_b_outs.lenMap) (gn Z (fun hG => QV.neq Z hG Z hG) (wq Z (QV.pickOr Z Z Z (fun h => notF h)) (nt ?_)))))))
 refine wc Z hm (fun h3 hm4 => ?_) (fun h3 hm5 => ?_) <;> clear hm
 ·skip
  refine sr (wa Z (nt (WC.ret (tr ?_))))
  obtain rfl := (eq_of_some hm4).symm
  exact WQ.ret1 Z Z fun w hw => kg hw
 refine sk (WQ.then (WC.seq (sr (wa Z (nt ?_)))))
 obtain ⟨o6, ho7, hm8⟩ := bd_some hm5; clear hm5; obtain ⟨n9, ho10⟩ := lp_some ho7
 refine WC.bloop1 (H2 := [blk b2 [v_b_logs, v_b_body, v_b_outs] 25, blk b1 [v_a_logs, v_a_body, v_a_outs] 25, kn noM w.heap.size w w]) (τ := [u_ 2 _, u_ 3 _]) (fun (i5_1 : Int) => [(5, (true, i_ i5_1))]) (fun i5_1 => []) (fun i5_1 m => iter (R14_Same_L0 a b) m i5_1 = some o6) (fun i5_1 => o6 = .go i5_1) 0 n9 ho10 ⟨Z, Z, Z, trivial⟩ (pk [0, 1, 2]) ?_ ?_
 ·skip
  rintro i5_1 rfl
  refine WQ.then (WC.seq (sr (wa Z (nt ?_))))
  obtain ⟨o11, ho12, hm13⟩ := bd_some hm8; clear hm8; obtain ⟨n14, ho15⟩ := lp_some ho12
  refine WC.bloop1 (H2 := [blk b2 [v_b_logs, v_b_body, v_b_outs] 25, blk b1 [v_a_logs, v_a_body, v_a_outs] 25, kn noM w.heap.size w w]) (τ := [u_ 2 _, u_ 3 _]) (fun (i6_2 : Int) => [(6, (true, i_ i6_2))]) (fun i6_2 => []) (fun i6_2 m => iter (R14_Same_L2 a b) m i6_2 = some o11) (fun i6_2 => o11 = .go i6_2) 0 n14 ho15 ⟨Z, Z, Z, trivial⟩ (pk [0, 1, 2]) ?_ ?_
  ·skip
   rintro i6_2 rfl
   refine WQ.then (WC.seq (sr (wa Z (nt ?_))))
   obtain ⟨o16, ho17, hm18⟩ := bd_some hm13; clear hm13; obtain ⟨n19, ho20⟩ := lp_some ho17
   refine WC.bloop1 (H2 := [blk b2 [v_b_logs, v_b_body, v_b_outs] 25, blk b1 [v_a_logs, v_a_body, v_a_outs] 25, kn noM w.heap.size w w]) (τ := [u_ 2 _, u_ 3 _]) (fun (i7_3 : Int) => [(7, (true, i_ i7_3))]) (fun i7_3 => []) (fun i7_3 m => iter (R14_Same_L4 a b) m i7_3 = some o16) (fun i7_3 => o16 = .go i7_3) 0 n19 ho20 ⟨Z, Z, Z, trivial⟩ (pk [0, 1, 2]) ?_ ?_
   ·skip
    rintro i7_3 rfl
    refine WQ.then (sr (wa Z (nt (WC.ret ?_))))
    obtain rfl := (eq_of_some hm18).symm
    exact WQ.ret1 Z Z fun w hw => kg hw
   rintro i7_3 m21 hI22
   obtain ⟨m23, s24, rfl, hm25, hn26⟩ := iter_step hI22; clear hI22; unfold R14_Same_L4 at hm25
   refine WC.seq (sr (wm Z (wf fd25_2 Z (wl pl22 Z (Own.cell 1 Z Z) (wq Z (QV.lenS Tryd.underlying22 Z Z h_a_outs.lenMap) (wq Z (QV.lss Z Z Z Z) (nt ?_)))))))
   refine wc Z hm25 (fun h27 hm28 => ?_) (fun h27 hm42 => ?_) <;> clear hm25
   ·skip
    refine sk (WQ.then (WC.seq (WC.block (WC.seq (WC.dr (m := 11) (S := Own noM w [kn noM w.heap.size w w, blk b2 [v_b_logs, v_b_body, v_b_outs] 25, blk b1 [v_a_logs, v_a_body, v_a_outs] 25]) (by kernel_rfl) (by kernel_rfl) (pk [2, 0, 1]) (zf 0 fd25_2 Z Z (zl 1 pl22 Z Z (Own.cell 2 Z Z) (zm 2 Z Z ?_))))))))
    obtain ⟨c29, hm30⟩ := cs hm28; clear hm28
    obtain ⟨p31, hp32⟩ := h_a_outs.lenMap.ix (sz := 1) ln_len c29
    refine wz 3 Z Z (QV.indexSlice sl22 Z Z Z Z hp32) (zl 4 pl3 Z Z (fun w hw => CellsAt.one 0 (((Own.karr 0 Z hk h_a_outs) w hw).ele hp32 c29) Z) (zf 5 fd25_2 Z Z (zl 6 pl22 Z Z (Own.cell 1 Z Z) (zm 7 Z Z ?_))))
    obtain ⟨c33, hm34⟩ := cs hm30; clear hm30
    obtain ⟨p35, hp36⟩ := h_b_outs.lenMap.ix (sz := 1) ln_len c33
    refine wz 8 Z Z (QV.indexSlice sl22 Z Z Z Z hp36) (zl 9 pl3 Z Z (fun w hw => CellsAt.one 0 (((Own.karr 0 Z hk h_b_outs) w hw).ele hp36 c33) Z) (wz 10 Z Z (QV.neq Z Z Z Z) ?_))
    refine WD.e (by kernel_rfl) ?_
    refine WQ.then ?_
    refine wc Z hm34 (fun h37 hm38 => ?_) (fun h37 hm39 => ?_) <;> clear hm34
    ·skip
     refine sr (wa Z (nt (WC.ret (kr (tr (tr (kr (tr (tr ?_)))))))))
     obtain rfl := up_ret hm38 hn26
     obtain rfl := (eq_of_some hm18).symm
     exact WQ.ret1 Z Z fun w hw => kg hw
    refine sk (WQ.block (WQ.then (WC.region (wm Z ?_))))
    obtain ⟨c40, hm41⟩ := cs hm39; clear hm39
    refine wq Z (QV.add Z Z Z Z c40) (wa Z (WL.nil ?_))
    exact WQ.again1 (i7_3 + 1) m23 (up_next hm41 hn26) (Nat.lt_succ_self _) ⟨Z, Z, Z, trivial⟩ (pk [0, 1, 2])
   refine WC.exit (te (te (WQ.block_exit ?_)))
   exact WQ.out1 i7_3 (up_brk hm42 hn26) ⟨Z, Z, Z, trivial⟩ (pk [0, 1, 2])
  rintro i6_2 m43 hI44
  obtain ⟨m45, s46, rfl, hm47, hn48⟩ := iter_step hI44; clear hI44; unfold R14_Same_L2 at hm47
  refine WC.seq (sr (wm Z (wf fd25_1 Z (wl pl23 Z (Own.cell 1 Z Z) (wq Z (QV.lenS Tryd.underlying23 Z Z h_a_body.lenMap) (wq Z (QV.lss Z Z Z Z) (nt ?_)))))))
  refine wc Z hm47 (fun h49 hm50 => ?_) (fun h49 hm64 => ?_) <;> clear hm47
  ·skip
   refine sk (WQ.then (WC.seq (WC.block (WC.seq (WC.dr (m := 11) (S := Own noM w [kn noM w.heap.size w w, blk b2 [v_b_logs, v_b_body, v_b_outs] 25, blk b1 [v_a_logs, v_a_body, v_a_outs] 25]) (by kernel_rfl) (by kernel_rfl) (pk [2, 0, 1]) (zf 0 fd25_1 Z Z (zl 1 pl23 Z Z (Own.cell 2 Z Z) (zm 2 Z Z ?_))))))))
   obtain ⟨c51, hm52⟩ := cs hm50; clear hm50
   obtain ⟨p53, hp54⟩ := h_a_body.lenMap.ix (sz := 9) ln_len c51
   refine wz 3 Z Z (QV.indexSlice sl23 Z Z Z Z hp54) (wz 4 Z Z (QV.loadAgg ag47 Z Z Z (fun w hw => ((Own.karr 0 Z hk h_a_body) w hw).ele hp54 c51)) (zf 5 fd25_1 Z Z (zl 6 pl23 Z Z (Own.cell 1 Z Z) (zm 7 Z Z ?_))))
   obtain ⟨c55, hm56⟩ := cs hm52; clear hm52
   obtain ⟨p57, hp58⟩ := h_b_body.lenMap.ix (sz := 9) ln_len c55
   refine wz 8 Z Z (QV.indexSlice sl23 Z Z Z Z hp58) (wz 9 Z Z (QV.loadAgg ag47 Z Z Z (fun w hw => ((Own.karr 0 Z hk h_b_body) w hw).ele hp58 c55)) (wz 10 Z Z (QV.neqF eq47 (ns := [(ele a.body i6_2).op, ((ele a.body i6_2).a).st, ((ele a.body i6_2).a).bk, ((ele a.body i6_2).b).st, ((ele a.body i6_2).b).bk, (ele a.body i6_2).ar, (ele a.body i6_2).sp, (ele a.body i6_2).pl, (ele a.body i6_2).n]) (ms := [(ele b.body i6_2).op, ((ele b.body i6_2).a).st, ((ele b.body i6_2).a).bk, ((ele b.body i6_2).b).st, ((ele b.body i6_2).b).bk, (ele b.body i6_2).ar, (ele b.body i6_2).sp, (ele b.body i6_2).pl, (ele b.body i6_2).n]) Z Z Z Z Z Z) ?_))
   refine WD.e (by kernel_rfl) ?_
   refine WQ.then ?_
   refine wc Z hm56 (fun h59 hm60 => ?_) (fun h59 hm61 => ?_) <;> clear hm56
   ·skip
    refine sr (wa Z (nt (WC.ret (kr (tr (tr (kr (tr (tr ?_)))))))))
    obtain rfl := up_ret hm60 hn48
    obtain rfl := (eq_of_some hm13).symm
    exact WQ.ret1 Z Z fun w hw => kg hw
   refine sk (WQ.block (WQ.then (WC.region (wm Z ?_))))
   obtain ⟨c62, hm63⟩ := cs hm61; clear hm61
   refine wq Z (QV.add Z Z Z Z c62) (wa Z (WL.nil ?_))
   exact WQ.again1 (i6_2 + 1) m45 (up_next hm63 hn48) (Nat.lt_succ_self _) ⟨Z, Z, Z, trivial⟩ (pk [0, 1, 2])
  refine WC.exit (te (te (WQ.block_exit ?_)))
  exact WQ.out1 i6_2 (up_brk hm64 hn48) ⟨Z, Z, Z, trivial⟩ (pk [0, 1, 2])
 rintro i5_1 m65 hI66
 obtain ⟨m67, s68, rfl, hm69, hn70⟩ := iter_step hI66; clear hI66; unfold R14_Same_L0 at hm69
 refine WC.seq (sr (wm Z (wf fd25_0 Z (wl pl22 Z (Own.cell 1 Z Z) (wq Z (QV.lenS Tryd.underlying22 Z Z h_a_logs.lenMap) (wq Z (QV.lss Z Z Z Z) (nt ?_)))))))
 refine wc Z hm69 (fun h71 hm72 => ?_) (fun h71 hm86 => ?_) <;> clear hm69
 ·skip
  refine sk (WQ.then (WC.seq (WC.block (WC.seq (WC.dr (m := 11) (S := Own noM w [kn noM w.heap.size w w, blk b2 [v_b_logs, v_b_body, v_b_outs] 25, blk b1 [v_a_logs, v_a_body, v_a_outs] 25]) (by kernel_rfl) (by kernel_rfl) (pk [2, 0, 1]) (zf 0 fd25_0 Z Z (zl 1 pl22 Z Z (Own.cell 2 Z Z) (zm 2 Z Z ?_))))))))
  obtain ⟨c73, hm74⟩ := cs hm72; clear hm72
  obtain ⟨p75, hp76⟩ := h_a_logs.lenMap.ix (sz := 1) ln_len c73
  refine wz 3 Z Z (QV.indexSlice sl22 Z Z Z Z hp76) (zl 4 pl3 Z Z (fun w hw => CellsAt.one 0 (((Own.karr 0 Z hk h_a_logs) w hw).ele hp76 c73) Z) (zf 5 fd25_0 Z Z (zl 6 pl22 Z Z (Own.cell 1 Z Z) (zm 7 Z Z ?_))))
  obtain ⟨c77, hm78⟩ := cs hm74; clear hm74
  obtain ⟨p79, hp80⟩ := h_b_logs.lenMap.ix (sz := 1) ln_len c77
  refine wz 8 Z Z (QV.indexSlice sl22 Z Z Z Z hp80) (zl 9 pl3 Z Z (fun w hw => CellsAt.one 0 (((Own.karr 0 Z hk h_b_logs) w hw).ele hp80 c77) Z) (wz 10 Z Z (QV.neq Z Z Z Z) ?_))
  refine WD.e (by kernel_rfl) ?_
  refine WQ.then ?_
  refine wc Z hm78 (fun h81 hm82 => ?_) (fun h81 hm83 => ?_) <;> clear hm78
  ·skip
   refine sr (wa Z (nt (WC.ret (kr (tr (tr (kr (tr (tr ?_)))))))))
   obtain rfl := up_ret hm82 hn70
   obtain rfl := (eq_of_some hm8).symm
   exact WQ.ret1 Z Z fun w hw => kg hw
  refine sk (WQ.block (WQ.then (WC.region (wm Z ?_))))
  obtain ⟨c84, hm85⟩ := cs hm83; clear hm83
  refine wq Z (QV.add Z Z Z Z c84) (wa Z (WL.nil ?_))
  exact WQ.again1 (i5_1 + 1) m67 (up_next hm85 hn70) (Nat.lt_succ_self _) ⟨Z, Z, Z, trivial⟩ (pk [0, 1, 2])
 refine WC.exit (te (te (WQ.block_exit ?_)))
 exact WQ.out1 i5_1 (up_brk hm86 hn70) ⟨Z, Z, Z, trivial⟩ (pk [0, 1, 2])
end Go.Proofs.YtaimbkndebaaiacDoor
end
section
namespace Go.Proofs.YtaimbkndebaaiacDoor
open Go.Rd
open TLib TLibR TNum0 TNum TLoop TPar TR14 TR14p
namespace TLawPar
theorem en6 : Go.Rd.Enters Tryd.prog 6 := eT Tryd.func6
theorem en7 : Go.Rd.Enters Tryd.prog 7 := eT Tryd.func7
theorem en8 : Go.Rd.Enters Tryd.prog 8 := eT Tryd.func8
theorem eq28 : EqT Tryd.prog 28 2 := ⟨by kernel_rfl, ⟨_, Tryd.underlying28⟩, by kernel_rfl, by kernel_rfl⟩
end TLawPar
open TLawPar
theorem roundelaylaw_TextParses_w {s : List UInt8} {r : Bool} (w : World) (hm : roundelaylaw_TextParses_m s = some r) (hGl0 : Glb Tryd.prog w) : Calls Tryd.prog 3 #[strV s] w (fun e w' => e = .returned (.bool r) ∧ Grow w w') := by
 unfold roundelaylaw_TextParses_m at hm
 have hk := Base.rfl (w := w)
 refine calls_of_WC (n := 25) (args := [strV s]) Tryd.func3 Z Z (nl Z) ?_ (Own.startK hk (Own.start w))
 have hGl := GlbM.of hGl0
 refine sr (wa Z (ns (wm Z (WL.effect Z ?_))))
 obtain ⟨x1, hx2, hm3⟩ := bd_some hm; clear hm
 refine (EV.callRG (X := Value × Value × Value × World) (R := []) (fun X => .tuple #[.agg #[X.1, X.2.1, X.2.2.1], .agg #[i_ x1.2.code, i_ x1.2.at']]) (fun X => []) (fun X => X.2.2.2) (fun X => Arr X.2.2.2 X.1 1 (x1.1.logs.map icell) ∧ Arr X.2.2.2 X.2.1 9 (x1.1.body.map Stm.cells) ∧ Arr X.2.2.2 X.2.2.1 1 (x1.1.outs.map icell)) hGl hk (fun _ h => by cases h; decide) en6 (ec Z eN) (fun M w hG h1 h2 => have h := text_Parse_w hx2  M w hG h1 h2; h) (fun X4 hF4 hle4 => ?_))
 refine wm Z (wq Z (QV.extract Z Z Z) (wq Z (QV.extract Z Z Z) (WL.effect Z ?_)))
 refine (EV.alloc (by decide) ze25 (fun b5 => ?_))
 refine WL.effect Z ?_
 refine (EV.alloc (by decide) ze28 (fun b6 => ?_))
 refine WL.effect Z ?_
 refine (EV.store 1 Z Z Z Z Z Z (vs := [X4.1, X4.2.1, X4.2.2.1]) (show Value.cells _ = List.toArray _ from Z) sz25 (nl Z) (oc (SliceLen.one hF4.1.lenMap) (oc (SliceLen.one hF4.2.1.lenMap) (oc (SliceLen.one hF4.2.2.lenMap) one_nil))) ?_)
 refine WL.effect Z ?_
 refine (EV.store 0 Z Z Z Z Z Z (vs := [i_ x1.2.code, i_ x1.2.at']) (show Value.cells _ = List.toArray _ from Z) sz28 (nl Z) (oc Z (oc Z one_nil)) ?_)
 refine ns (wm Z (WL.effect Z ?_))
 obtain ⟨x7, hx8, hm9⟩ := bd_some hm3; clear hm3
 refine EV.of (C' := Own noM w [kn noM w.heap.size w X4.2.2.2, blk b6 [i_ x1.2.code, i_ x1.2.at'] 28, blk b5 [X4.1, X4.2.1, X4.2.2.1] 25]) (pk [2, 0, 1]) ?_
 refine (EV.callR (X := Value × Value × Value × World) (R := []) (fun X => .tuple #[.agg #[X.1, X.2.1, X.2.2.1], .agg #[i_ x7.2.code, i_ x7.2.at']]) (fun X => []) (fun X => X.2.2.2) (fun X => Arr X.2.2.2 X.1 1 (x7.1.logs.map icell) ∧ Arr X.2.2.2 X.2.1 9 (x7.1.body.map Stm.cells) ∧ Arr X.2.2.2 X.2.2.1 1 (x7.1.outs.map icell)) hk (fun _ h => by cases h; decide) en7 (ec Z eN) (fun M w h1 h2 => have h := R14_Parse_w hx8  M w h1 h2; h) (fun X10 hF10 hle10 => ?_))
 refine wm Z (wq Z (QV.extract Z Z Z) (wq Z (QV.extract Z Z Z) (WL.effect Z ?_)))
 refine (EV.alloc (by decide) ze25 (fun b11 => ?_))
 refine WL.effect Z ?_
 refine (EV.alloc (by decide) ze28 (fun b12 => ?_))
 refine WL.effect Z ?_
 refine (EV.store 1 Z Z Z Z Z Z (vs := [X10.1, X10.2.1, X10.2.2.1]) (show Value.cells _ = List.toArray _ from Z) sz25 (nl Z) (oc (SliceLen.one hF10.1.lenMap) (oc (SliceLen.one hF10.2.1.lenMap) (oc (SliceLen.one hF10.2.2.lenMap) one_nil))) ?_)
 refine WL.effect Z ?_
 refine (EV.store 0 Z Z Z Z Z Z (vs := [i_ x7.2.code, i_ x7.2.at']) (show Value.cells _ = List.toArray _ from Z) sz28 (nl Z) (oc Z (oc Z one_nil)) ?_)
 refine ns (wq Z (QV.loadAgg ag28 Z Z Z (Own.cellsBlk 3 Z)) (wq Z (QV.loadAgg ag28 Z Z Z (Own.cellsBlk 0 Z)) (wq Z (QV.eqlF eq28 (ns := [x1.2.code, x1.2.at']) (ms := [x7.2.code, x7.2.at']) Z Z Z Z Z Z) (wm Z (gp Z (fun hG => QV.loadAgg ag25 Z Z Z (Own.cellsBlk 4 Z)) (gp Z (fun hG => QV.loadAgg ag25 Z Z Z (Own.cellsBlk 1 Z)) ?_))))))
 obtain ⟨x13, hx14, hm15⟩ := bdG_some hm9; clear hm9
 refine gp Z (fun hG => QV.call en8 (EvAll.cons Z hG (EvAll.cons Z hG eN)) (fun w hw => have h := R14_Same_w w (hx14 hG) ((Own.karr 2 Z hk (hF4.1.le hle10)) w hw) ((Own.karr 2 Z hk (hF4.2.1.le hle10)) w hw) ((Own.karr 2 Z hk (hF4.2.2.le hle10)) w hw) ((Own.karr 2 Z hk hF10.1) w hw) ((Own.karr 2 Z hk hF10.2.1) w hw) ((Own.karr 2 Z hk hF10.2.2) w hw); h)) (wq Z (QV.pickAnd Z Z Z (fun h => h)) (wa Z (nt (WC.ret ?_))))
 obtain rfl := (eq_of_some hm15).symm
 exact WQ.ret1 Z Z fun w hw => kg hw
end Go.Proofs.YtaimbkndebaaiacDoor
end
section
namespace Go.Rd
open Go.RowKit
theorem laid_vars {P : Program} {W : World} : ∀ {l : List (String × DataW Unit)} {ps : List MemPlace}, DataW.LaidVars P W l ps → ∀ {nm : String} {d : DataW Unit}, (nm, d) ∈ l →
  ∃ g t cs fuel p, P.globalNamed nm = some g ∧ (P.globals[g]?).map (·.type) = some t ∧ W.var? P nm = some cs ∧ DataW.trod (fun _ => ()) P W 0 (fun _ => true) false fuel t cs.toList = some (d, p)
 | [], _, _, _, _, hm => absurd hm (by simp)
 | (n, d0) :: r, ps, ⟨g, t, cs, fuel, p, q, h1, h2, h3, h4, h5, _⟩, nm, d, hm => by
  rcases List.mem_cons.1 hm with e | hm
  ·cases e; exact ⟨g, t, cs, fuel, p, h1, h2, h3, h4⟩
  ·exact laid_vars h5 hm
theorem laid_at {P : Program} {W : World} {l : List (String × DataW Unit)} (h : laidMet P l W) (i : Nat) {nm : String} {d : DataW Unit} (hi : l[i]? = some (nm, d)) :
  ∃ g t cs fuel p, P.globalNamed nm = some g ∧ (P.globals[g]?).map (·.type) = some t ∧ W.var? P nm = some cs ∧ DataW.trod (fun _ => ()) P W 0 (fun _ => true) false fuel t cs.toList = some (d, p) := by
 obtain ⟨ps, h, _⟩ := h
 exact laid_vars h (List.mem_of_getElem? hi)
theorem laid_tab {P : Program} {W : World} {l : List (String × DataW Unit)} (h : laidMet P l W) (i : Nat) {nm : String} {k : IntKind} {zs : List Int} (hi : l[i]? = some (nm, Lib.tabData k zs)) {g : Nat} {t e : TypeId} {n : Nat}
  (hg : P.globalNamed nm = some g) (hty : (P.globals[g]?).map (·.type) = some t) (ht : P.underlying t = some (.array n e)) (he : P.underlying e = some (.int k)) (hce : P.cellsOf e = 1) (hct : P.cellsOf t = n) : Lib.TabIs P W nm k zs := by
 obtain ⟨g', t', cs, fuel, p, h1, h2, h3, h4⟩ := laid_at h i hi
 obtain rfl := Option.some.inj (hg.symm.trans h1)
 obtain rfl := Option.some.inj (hty.symm.trans h2)
 unfold Lib.TabIs
 rw [h3, ← Lib.cells_of_tab ht he hce hct h4]
theorem laid_err {P : Program} {W : World} {l : List (String × DataW Unit)} (h : laidMet P l W) (i : Nat) {nm s : String} {d : DataW Unit} (hi : l[i]? = some (nm, .iface s d)) {g : Nat} {t : TypeId} {ms : Array (String × TypeId)}
  (hg : P.globalNamed nm = some g) (hty : (P.globals[g]?).map (·.type) = some t) (ht : P.underlying t = some (.interface ms)) : ∃ t p, W.var? P nm = some #[.iface t p] := by
 obtain ⟨g', t', cs, fuel, p, h1, h2, h3, h4⟩ := laid_at h i hi
 obtain rfl := Option.some.inj (hg.symm.trans h1)
 obtain rfl := Option.some.inj (hty.symm.trans h2)
 obtain ⟨f2, u, v, hc, _⟩ := iface_of_trod ht h4
 exact ⟨u, v, by rw [h3]; congr 1; exact Array.ext' hc⟩
def errAt (l : List (String × DataW Unit)) (i : Nat) (nm : String) : Bool := match l[i]? with
 | some (n, .iface _ _) => decide (n = nm)
 | _ => false
theorem laid_errB {P : Program} {W : World} {l : List (String × DataW Unit)} (h : laidMet P l W) (i : Nat) {nm : String} (hi : errAt l i nm = true) {g : Nat} {t : TypeId} {ms : Array (String × TypeId)}
  (hg : P.globalNamed nm = some g) (hty : (P.globals[g]?).map (·.type) = some t) (ht : P.underlying t = some (.interface ms)) : ∃ t p, W.var? P nm = some #[.iface t p] := by
 unfold errAt at hi
 split at hi
 ·rename_i n s d e
  obtain rfl := of_decide_eq_true hi
  exact laid_err h i e hg hty ht
 ·cases hi
def seenB : Nat → List Nat → Bool
 | _, [] => true
 | m, k :: r => !(m.testBit k) && seenB (m ||| (1 <<< k)) r
theorem seenB_nodup : ∀ {l : List Nat} {m : Nat}, seenB m l = true → l.Nodup ∧ ∀ k ∈ l, m.testBit k = false
 | [], m, _ => ⟨List.nodup_nil, by simp⟩
 | k :: r, m, h => by
  simp only [seenB, Bool.and_eq_true, Bool.not_eq_true'] at h
  obtain ⟨h1, h2⟩ := seenB_nodup h.2
  have bit : ∀ j ∈ r, m.testBit j = false ∧ k ≠ j := fun j hj => by
   have := h2 j hj
   rw [Nat.testBit_or, Bool.or_eq_false_iff, Nat.one_shiftLeft, Nat.testBit_two_pow] at this
   exact ⟨this.1, of_decide_eq_false this.2⟩
  refine ⟨List.nodup_cons.2 ⟨fun hk => (bit k hk).2 rfl, h1⟩, fun j hj => ?_⟩
  rcases List.mem_cons.1 hj with rfl | hj
  ·exact h.1
  ·exact (bit j hj).1
def placeKey : MemPlace → Nat
 | .cell b off => b * 512 + off
 | .map b => b * 512 + 511
theorem laidMet_of_run2 {P : Program} {w : World} {l : List (String × DataW Unit)} (fuel : Nat) (h : (DataW.laidRun P w fuel (l.map (·.1))).map (·.1) = some l)
  (hn : (DataW.laidRun P w fuel (l.map (·.1))).map (fun x => seenB 0 (x.2.map placeKey)) = some true) (hr : (DataW.laidRun P w fuel (l.map (·.1))).map (fun x => laidRowsB P w x.2) = some true) : laidMet P l w := by
 cases hx : DataW.laidRun P w fuel (l.map (·.1)) with
 | none => simp [hx] at h
 | some x =>
  obtain ⟨l', ps⟩ := x
  simp only [hx, Option.map_some, Option.some.injEq] at h hr hn
  subst h
  exact laidMet_of_run fuel hx (decide_eq_true (List.Pairwise.of_map placeKey (fun a b hab e => hab (congrArg placeKey e)) (seenB_nodup hn).1)) hr
noncomputable def doorWith (P : Program) (n g : Nat) (cs : Array Value) (os : Os) : World :=
 { World.doorLaid P n os with heap := match (World.doorLaid P n os).heap[g]? with
  | some (.cells _ e f) => (World.doorLaid P n os).heap.setIfInBounds g (.cells cs e f)
  | _ => (World.doorLaid P n os).heap }
end Go.Rd
end