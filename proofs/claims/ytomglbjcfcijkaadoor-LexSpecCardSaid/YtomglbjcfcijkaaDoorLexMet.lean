/- WHAT A ROW's LISTED VARIABLES GIVE THE WALKS, and a start that meets the condition. -/
import Derived.Test.YtomglbjcfcijkaaDoorRows
import Derived.Test.YtomglbjcfcijkaaDoorLexLaid
import Derived.Stop.LaidErr
import Derived.Lib.LaidTab
import Derived.LaidMore
import Derived.LaidHandle
import Derived.MakeChecks
import Derived.ProofKit
import Derived.JoinedOf
namespace Go.Proofs.YtomglbjcfcijkaaDoor.PLx
open Go.RowKit Go.ChangeShapes

theorem gvTab : (Tryd.prog.globals[4]?).map (·.type) = some 163 := by kernel_rfl
theorem gvSyn : (Tryd.prog.globals[1]?).map (·.type) = some 112 := by kernel_rfl
theorem gvRng : (Tryd.prog.globals[2]?).map (·.type) = some 112 := by kernel_rfl
theorem cellsTab : Tryd.prog.cellsOf 163 = 20 := by kernel_rfl
theorem cellsU64 : Tryd.prog.cellsOf 148 = 1 := by kernel_rfl
theorem cellsErr : Tryd.prog.cellsOf 171 = 1 := by kernel_rfl
theorem cellsStr : Tryd.prog.cellsOf 9 = 1 := by kernel_rfl
theorem starErr : "*" ++ "errors.errorString" = "*errors.errorString" := by decide
theorem rowErr (u : TypeId) (h : Tryd.prog.typeName? 3 u = some "*errors.errorString") : u = 169 :=
  typeName_ptr_named (nm := "errors.errorString") (by rw [starErr]; kernel_rfl) (by kernel_rfl) (by decide) u (by rw [starErr]; exact h)
/-- What the rows of the lexer's laws list. -/
theorem laid_of_met {W : World} (h : laidMet Tryd.prog (("math/bits.deBruijn32tab", Rows.laid_math_bits_deBruijn32tab) :: ("math/bits.deBruijn64tab", Rows.laid_math_bits_deBruijn64tab) :: ("internal/strconv.uint64pow10", Rows.laid_internal_strconv_uint64pow10) :: ("strconv.ErrRange", Rows.laid_strconv_ErrRange) :: ("strconv.ErrSyntax", Rows.laid_strconv_ErrSyntax) :: []) W) : Laid W := by
  have h2 : laidMet Tryd.prog (("internal/strconv.uint64pow10", Lib.tabData .u64 Lib.pow10Tab) :: ("strconv.ErrRange", Rows.laid_strconv_ErrRange) :: ("strconv.ErrSyntax", Rows.laid_strconv_ErrSyntax) :: []) W := h.tail.tail
  obtain ⟨a0, s0, hv0, -, -, -⟩ := laid_sentinel h2.tail named_rng gvRng Tryd.underlying112 rowErr Tryd.underlying169 Tryd.underlying171 rfl rfl Tryd.underlying9 cellsErr cellsStr
  obtain ⟨a1, s1, hv1, -, -, -⟩ := laid_sentinel h2.tail.tail named_syn gvSyn Tryd.underlying112 rowErr Tryd.underlying169 Tryd.underlying171 rfl rfl Tryd.underlying9 cellsErr cellsStr
  exact ⟨Lib.tabIs_of_head named_tab gvTab Tryd.underlying163 Tryd.underlying148 cellsU64 cellsTab h2, ⟨_, _, hv1⟩, ⟨_, _, hv0⟩⟩
theorem laid_of_row {W : World} (h : laidMetH Tryd.prog Rows.lexNamesRow.laid W) : Laid W := by
  rw [MakeChecks.laidMetH_plain _ _ _ (by kernel_rfl)] at h
  exact laid_of_met h
/-- The heap that the door's own run leaves. -/
noncomputable def doorW (os : Os) : World := World.doorLaid Tryd.prog 67 os
theorem door_met (os : Os) (args : Array Value) : laidMetH Tryd.prog Rows.lexNamesRow.laid ((doorW os).forCall (fun _ _ => 0) ⟨#[], args, []⟩).memory := by
  rw [MakeChecks.laidMetH_plain _ _ _ (by kernel_rfl)]
  exact laidMet_of_run' 8 (by kernel_rfl) (by kernel_rfl)
theorem ownNone : ownKnob Tryd.prog.godebug = none := by kernel_rfl
end Go.Proofs.YtomglbjcfcijkaaDoor.PLx
