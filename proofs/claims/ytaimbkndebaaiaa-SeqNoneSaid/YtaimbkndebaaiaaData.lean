/- Plain data of the program beside loops: kernels, plans, edges and the like. -/
import Derived.Test.YtaimbkndebaaiaaOps
namespace Go.Rd
set_option linter.unusedVariables false
set_option linter.unusedSimpArgs false
structure Opr where
  (slot stage op dest a b ar sp pl n : Int)
def Opr.cells (o : Opr) : List Value := [.int .i64 o.slot, .int .i64 o.stage, .int .i64 o.op, .int .i64 o.dest, .int .i64 o.a, .int .i64 o.b, .int .i64 o.ar, .int .i64 o.sp, .int .i64 o.pl, .int .i64 o.n]
instance : Inhabited Opr := ⟨⟨0, 0, 0, 0, 0, 0, 0, 0, 0, 0⟩⟩
structure Krn where
  (pace stages : Int)
  (ops : List Opr)
instance : Inhabited Krn := ⟨⟨0, 0, []⟩⟩
structure Edg where
  (fr to bk wt : Int)
def Edg.cells (e : Edg) : List Value := [.int .i64 e.fr, .int .i64 e.to, .int .i64 e.bk, .int .i64 e.wt]
instance : Inhabited Edg := ⟨⟨0, 0, 0, 0⟩⟩
structure Pln where
  (pace : Int)
  (times : List Int)
instance : Inhabited Pln := ⟨⟨0, []⟩⟩
structure Flt where
  (code at' : Int)
def Flt.cells (e : Flt) : List Value := [.int .i64 e.code, .int .i64 e.at']
instance : Inhabited Flt := ⟨⟨0, 0⟩⟩
structure Due where
  (due reg v : Int)
def Due.cells (e : Due) : List Value := [.int .i64 e.due, .int .i64 e.reg, .int .i64 e.v]
instance : Inhabited Due := ⟨⟨0, 0, 0⟩⟩
structure Off where
  (time ready place : Int)
def Off.cells (e : Off) : List Value := [.int .i64 e.time, .int .i64 e.ready, .int .i64 e.place]
instance : Inhabited Off := ⟨⟨0, 0, 0⟩⟩
structure Use where
  (til : Int)
  (later : Bool)
def Use.cells (e : Use) : List Value := [.int .i64 e.til, .bool e.later]
instance : Inhabited Use := ⟨⟨0, false⟩⟩
structure Sta where
  (bef mem : List (List Int))
instance : Inhabited Sta := ⟨⟨[], []⟩⟩
structure Rst where
  (outs : List Int)
  (mem : List (List Int))
instance : Inhabited Rst := ⟨⟨[], []⟩⟩
structure Lay where
  (lp : Lp)
  (pace regs : Int)
  (time ready places : List Int)
instance : Inhabited Lay := ⟨⟨default, 0, 0, [], [], []⟩⟩
theorem Opr.cells_len : ∀ e : Opr, e.cells.length = 10 := fun _ => rfl
theorem Opr.cells_one (ys : List Opr) : ∀ u ∈ ys, ∀ c ∈ u.cells, c.oneCell' = true := fun n _ c hc => by simp [Opr.cells] at hc; rcases hc with h | h | h | h | h | h | h | h | h | h <;> subst h <;> rfl
theorem Edg.cells_len : ∀ e : Edg, e.cells.length = 4 := fun _ => rfl
theorem Edg.cells_one (ys : List Edg) : ∀ u ∈ ys, ∀ c ∈ u.cells, c.oneCell' = true := fun n _ c hc => by simp [Edg.cells] at hc; rcases hc with h | h | h | h <;> subst h <;> rfl
theorem Due.cells_len : ∀ e : Due, e.cells.length = 3 := fun _ => rfl
theorem Due.cells_one (ys : List Due) : ∀ u ∈ ys, ∀ c ∈ u.cells, c.oneCell' = true := fun n _ c hc => by simp [Due.cells] at hc; rcases hc with h | h | h <;> subst h <;> rfl
theorem Off.cells_len : ∀ e : Off, e.cells.length = 3 := fun _ => rfl
theorem Off.cells_one (ys : List Off) : ∀ u ∈ ys, ∀ c ∈ u.cells, c.oneCell' = true := fun n _ c hc => by simp [Off.cells] at hc; rcases hc with h | h | h <;> subst h <;> rfl
theorem Use.cells_len : ∀ e : Use, e.cells.length = 2 := fun _ => rfl
theorem Use.cells_one (ys : List Use) : ∀ u ∈ ys, ∀ c ∈ u.cells, c.oneCell' = true := fun n _ c hc => by simp [Use.cells] at hc; rcases hc with h | h <;> subst h <;> rfl
theorem Rf.cells_len : ∀ e : Rf, e.cells.length = 2 := fun _ => rfl
theorem Rf.cells_one (ys : List Rf) : ∀ u ∈ ys, ∀ c ∈ u.cells, c.oneCell' = true := fun n _ c hc => by simp [Rf.cells] at hc; rcases hc with h | h <;> subst h <;> rfl
theorem Stm.cells_len : ∀ e : Stm, e.cells.length = 9 := fun _ => rfl
theorem Stm.cells_one (ys : List Stm) : ∀ u ∈ ys, ∀ c ∈ u.cells, c.oneCell' = true := fun n _ c hc => by simp [Stm.cells] at hc; rcases hc with h | h | h | h | h | h | h | h | h <;> subst h <;> rfl
end Go.Rd
