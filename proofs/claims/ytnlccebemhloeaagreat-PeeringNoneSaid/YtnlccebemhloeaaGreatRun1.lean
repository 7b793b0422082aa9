/- Proved here: what the functions Ln, Hash2 and Hash3 answer at the few arguments that the law's own example calls them with, by running the abstract machine; no condition. -/
import Derived.Test.YtnlccebemhloeaaGreatAbF
import Derived.Test.YtnlccebemhloeaaGreatProg
import Derived.KernelRfl
set_option linter.all false
namespace Go.Proofs.YtnlccebemhloeaaGreat
open Go Go.Ab

noncomputable def C0 : Ctx where
  P := Tryz.prog
  ng := 0
  types := Tr.ofList Tryz.prog.types.toList
  funcs := Tr.ofList Tryz.prog.funcs.toList
  ext := fun _ => none
  sum := fun _ => none
  all := fun i => Nat.beq i 20 || Nat.beq i 96

theorem mixed : Tryz.prog.follows .mixedOrders = true := by kernel_rfl
theorem named : (Tryz.prog.funcs.toList.all fun fn => !(fn.name == "runtime.NumGoroutine")) = true := by kernel_rfl

theorem names (f : Nat) (fn : Func) (h : Tryz.prog.funcs[f]? = some fn) : (fn.name == "runtime.NumGoroutine") = false := by
  have h1 := named
  rw [List.all_eq_true] at h1
  have h2 := h1 fn (by
    obtain ⟨hlt, rfl⟩ := Array.getElem?_eq_some_iff.1 h
    simp)
  simpa using h2

theorem full0 : CtxFull C0 := ⟨CtxOk.of C0 Tryz.prog (by kernel_rfl) (by kernel_rfl) (by kernel_rfl) mixed, names, fun i e h => (by cases h), fun i g h => (by cases h)⟩

def tabLn : List (List AV × AV) := [
  ([.int .i64 (.ofNat 1115)], .int .i64 (.ofNat 178105425652154)),
  ([.int .i64 (.ofNat 49536)], .int .i64 (.ofNat 274371584124145)),
  ([.int .i64 (.ofNat 64021)], .int .i64 (.ofNat 280881770409290)),
  ([.int .i64 (.ofNat 5115)], .int .i64 (.ofNat 216749815471406))]
def tabHash2 : List (List AV × AV) := [
  ([.int .u32 (.ofNat 0), .int .u32 (.ofNat 1)], .int .u32 (.ofNat 91478055)),
  ([.int .u32 (.ofNat 91478055), .int .u32 (.ofNat 1)], .int .u32 (.ofNat 1100058965)),
  ([.int .u32 (.ofNat 91478055), .int .u32 (.ofNat 0)], .int .u32 (.ofNat 1664072771))]
def tabHash3 : List (List AV × AV) := [
  ([.int .u32 (.ofNat 91478055), .int .u32 (.ofNat 0), .int .u32 (.ofNat 0)], .int .u32 (.ofNat 3668706395)),
  ([.int .u32 (.ofNat 91478055), .int .u32 (.ofNat 1), .int .u32 (.ofNat 0)], .int .u32 (.ofNat 1875296640)),
  ([.int .u32 (.ofNat 91478055), .int .u32 (.ofNat 0), .int .u32 (.ofNat 1)], .int .u32 (.ofNat 1286863381)),
  ([.int .u32 (.ofNat 91478055), .int .u32 (.ofNat 1), .int .u32 (.ofNat 1)], .int .u32 (.ofNat 1173492731))]

theorem rowsLn : tabLn.all (rowOk (callT2 C0 1000 30 .no (.func (.func 166) [] [])) false) = true := by kernel_rfl
theorem rowsHash2 : tabHash2.all (rowOk (callT2 C0 1000 30 .no (.func (.func 120) [] [])) true) = true := by kernel_rfl
theorem rowsHash3 : tabHash3.all (rowOk (callT2 C0 1000 30 .no (.func (.func 164) [] [])) true) = true := by kernel_rfl
end Go.Proofs.YtnlccebemhloeaaGreat
