/- WHAT THE PACKAGE-LEVEL VARIABLES HOLD, and that it stays so while only new memory is written. -/
import Derived.Test.YtomglbjcfcijkaaDoorLibL
import Derived.Lib.LaidTab
import Derived.Lib.ItoaNum
import Derived.WalkSmall
import Derived.KernelRfl
namespace Go.Proofs.YtomglbjcfcijkaaDoor.PLx
open Go.RowKit
/-- What the package-level variables hold. -/
structure Laid (w : World) : Prop where
  tab : Lib.TabIs Tryd.prog w "internal/strconv.uint64pow10" .u64 Lib.pow10Tab
  syn : ∃ tp p, w.var? Tryd.prog "strconv.ErrSyntax" = some #[.iface tp p]
  rng : ∃ tp p, w.var? Tryd.prog "strconv.ErrRange" = some #[.iface tp p]
theorem named_tab : Tryd.prog.globalNamed "internal/strconv.uint64pow10" = some 4 := by kernel_rfl
theorem named_syn : Tryd.prog.globalNamed "strconv.ErrSyntax" = some 1 := by kernel_rfl
theorem named_rng : Tryd.prog.globalNamed "strconv.ErrRange" = some 2 := by kernel_rfl
theorem lt_of_var {P : Program} {w : World} {n : String} {g : Nat} {cs : Array Value} (h : w.var? P n = some cs) (hg : P.globalNamed n = some g) : g < w.heap.size := by
  unfold World.var? at h
  simp only [hg, Option.bind_some] at h
  rcases Nat.lt_or_ge g w.heap.size with h' | h'
  · exact h'
  · simp [Array.getElem?_eq_none h'] at h
theorem Laid.below {w w1 : World} (h : Laid w) (hb : Below w.heap.size w w1) : Laid w1 := by
  obtain ⟨t1, p1, h1⟩ := h.syn
  obtain ⟨t2, p2, h2⟩ := h.rng
  exact ⟨var?_below hb named_tab (lt_of_var h.tab named_tab) h.tab, ⟨t1, p1, var?_below hb named_syn (lt_of_var h1 named_syn) h1⟩, ⟨t2, p2, var?_below hb named_rng (lt_of_var h2 named_rng) h2⟩⟩
end Go.Proofs.YtomglbjcfcijkaaDoor.PLx
