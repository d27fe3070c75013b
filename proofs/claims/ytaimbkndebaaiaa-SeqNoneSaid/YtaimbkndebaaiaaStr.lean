/- Strings and bytes. -/
import Derived.Test.YtaimbkndebaaiaaKn
import Derived.Laws.IdiomStrings
import Derived.Laws.Strings
namespace Go.Rd
open Go.RowKit
set_option linter.unusedVariables false
set_option linter.unusedSimpArgs false

def strV (l : List UInt8) : Value := .string ⟨l.toArray⟩
def bcell (b : UInt8) : List Value := [.int .u8 (b.toNat : Int)]
theorem bcell_len : ∀ b : UInt8, (bcell b).length = 1 := fun _ => rfl
theorem bcell_one (ys : List UInt8) : ∀ u ∈ ys, ∀ c ∈ bcell u, c.oneCell' = true := fun n _ c hc => by simp [bcell] at hc; subst hc; rfl
theorem bcell_flat : ∀ l : List UInt8, (l.map bcell).flatten = l.map fun b => Value.int .u8 (b.toNat : Int)
  | [] => rfl
  | q :: r => by rw [List.map_cons, List.flatten_cons, bcell_flat r]; rfl
theorem toList_ba (l : List UInt8) : (ByteArray.mk l.toArray).toList = l := by
  simp

section
variable {P : Program} {n : Nat} {σ : Env} {C : World → Prop} {d : Option Tmp} {T U D E z : TypeId} {pos : String} {after : Array Edge} {gd : Option (Nat × Bool)} {x y : Operand} {g g' : Bool} {v : Value} {a b l : List UInt8}

theorem QV.strAdd (hx : σ.ev x = some (g, strV a)) (hg : g = true) (hy : σ.ev y = some (g', strV b)) (hg' : g' = true) (hl : a.length + b.length ≤ 9223372036854775807) : QV P ⟨d, .binOp .add U x y z, T, pos, after, gd⟩ σ C (strV (a ++ b)) := .of_run fun n ac ha w hw => by
  have e1 := ha.ev hx hg
  have e2 := ha.ev hy hg'
  have e3 : (eqGuard .add U x y (strV a) (strV b)).run P w = .ok () w := by simp [eqGuard]
  have e4 : (binOp .add U (strV a) (strV b)).run P w = .ok (strV (a ++ b)) w := by
    unfold strV
    rw [binOp_string_add]
    have h1 : ¬ (((ByteArray.mk a.toArray).size + (ByteArray.mk b.toArray).size : Nat) : Int) > IntKind.i64.max := by
      have : IntKind.i64.max = 9223372036854775807 := by decide
      rw [this]
      simp [ByteArray.size]
      omega
    have h2 : (ByteArray.mk a.toArray) ++ (ByteArray.mk b.toArray) = ByteArray.mk (a ++ b).toArray := by
      apply ByteArray.ext
      simp
    simp only [Op.stringOp, if_neg h1, h2]
    rfl
  simp only [execOp, e1, e2, Sem.run_bind, e3, e4, Result.andThen_ok, Sem.run_pure]
theorem QV.strEql (hx : σ.ev x = some (g, strV a)) (hg : g = true) (hy : σ.ev y = some (g', strV b)) (hg' : g' = true) : QV P ⟨d, .binOp .eql U x y z, T, pos, after, gd⟩ σ C (.bool (a == b)) := .of_run fun n ac ha w hw => by
  have e1 := ha.ev hx hg
  have e2 := ha.ev hy hg'
  have e3 : (eqGuard .eql U x y (strV a) (strV b)).run P w = .ok () w := by simp [eqGuard, strV]
  have e4 : (binOp .eql U (strV a) (strV b)).run P w = .ok (.bool (a == b)) w := by
    unfold strV
    rw [binOp_string_eql, toList_ba, toList_ba]
    simp
  simp only [execOp, e1, e2, Sem.run_bind, e3, e4, Result.andThen_ok, Sem.run_pure]
/-- string(b), b a row of bytes. -/
theorem QV.strOf (hs : P.underlying U = some (.slice E)) (he : P.underlying E = some (.int .u8)) (hd : P.underlying D = some .string) (hx : σ.ev x = some (g, v)) (hg : g = true) (hA : ∀ w, C w → Arr w v 1 (l.map bcell)) :
    QV P ⟨d, .convert U D x, T, pos, after, gd⟩ σ C (strV l) := .of_run fun n ac ha w hw => by
  have e1 := ha.ev hx hg
  have h := hA w hw
  obtain ⟨ad, c, rfl, hsome, _⟩ := h.len
  rw [List.length_map] at *
  have e4 : (convert U D (.slice ad l.length c)).run P w = .ok (strV l) w := by
    cases ad with
    | some ad =>
      refine run_convert_bytes_back (P := P) w U D E ad c l hs he hd fun j hj => ?_
      have := h.cell (rows_len bcell_len) j (.int .u8 (l[j].toNat : Int)) ?_
      · exact this
      · have : (l.map bcell).flatten = l.map fun b => Value.int .u8 (b.toNat : Int) := by
          exact bcell_flat l
        rw [this]
        rw [List.getElem?_map, List.getElem?_eq_getElem hj]; rfl
    | none =>
      have : l = [] := by
        cases l with
        | nil => rfl
        | cons q r => exact absurd (hsome (by simp)) (by simp)
      subst this
      rw [run_convert_bytes_string w U D E none _ c hs he hd]
      simp [Conv.bytesToString, strV]
      rfl
  simp [execOp, e1, e4]
end
end Go.Rd
