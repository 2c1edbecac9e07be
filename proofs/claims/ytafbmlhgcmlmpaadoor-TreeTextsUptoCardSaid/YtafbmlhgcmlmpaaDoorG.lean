/- What the package variables that are read hold (a premise of the contracts), and that it stays so. -/
import Derived.Test.YtafbmlhgcmlmpaaDoorProg
import Derived.WalkSmall
import Derived.Below
import Derived.Lib.LaidTab
import Derived.Lib.ItoaNum
import Derived.KernelRfl
namespace Go.Proofs.YtafbmlhgcmlmpaaDoor
open Go.RowKit
def kwGrammar : ByteArray := ⟨#[103, 114, 97, 109, 109, 97, 114]⟩
def kwLook : ByteArray := ⟨#[108, 111, 111, 107]⟩
def kwSync : ByteArray := ⟨#[115, 121, 110, 99]⟩
def kwToken : ByteArray := ⟨#[116, 111, 107, 101, 110]⟩
theorem gKw : Tryd.prog.globalNamed "gramarye/name.keywords" = some 0 := by kernel_rfl
theorem gPow : Tryd.prog.globalNamed "internal/strconv.uint64pow10" = some 2 := by kernel_rfl
structure GL (w : World) : Prop where
  kw : w.var? Tryd.prog "gramarye/name.keywords" = some #[.string kwGrammar, .string kwLook, .string kwSync, .string kwToken]
  pow : Lib.TabIs Tryd.prog w "internal/strconv.uint64pow10" .u64 Lib.pow10Tab
theorem var_lt {P : Program} {g : Nat} {W : World} {n : String} {cs : Array Value} (hg : P.globalNamed n = some g) (hv : W.var? P n = some cs) : g < W.heap.size := by
  unfold World.var? at hv
  simp only [hg, Option.bind_some] at hv
  split at hv
  · rename_i h
    exact (Array.getElem?_eq_some_iff.1 h).1
  · cases hv
theorem GL_below {w w' : World} (h : GL w) (hb : Below w.heap.size w w') : GL w' :=
  ⟨var?_below hb gKw (var_lt gKw h.kw) h.kw, var?_below hb gPow (var_lt gPow h.pow) h.pow⟩
theorem GL.cell {w : World} (h : GL w) (i : Nat) : w.cell? ⟨0, i, none⟩ = (#[.string kwGrammar, .string kwLook, .string kwSync, .string kwToken] : Array Value)[i]? := World.var?_cell gKw h.kw i
theorem GL.block {w : World} (h : GL w) : ∃ t fr, w.heap[0]? = some (.cells #[.string kwGrammar, .string kwLook, .string kwSync, .string kwToken] t fr) := by
  have hv := h.kw
  unfold World.var? at hv
  simp only [gKw, Option.bind_some] at hv
  split at hv
  · rename_i cs t fr hc
    obtain rfl := Option.some.inj hv
    exact ⟨_, _, hc⟩
  · cases hv
end Go.Proofs.YtafbmlhgcmlmpaaDoor
