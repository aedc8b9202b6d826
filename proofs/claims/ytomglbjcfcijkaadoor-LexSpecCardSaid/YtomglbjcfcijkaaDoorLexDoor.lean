/- THE CLOSURE that lex.Lex defers: what it does when the body panics, and when it does not. -/
import Derived.Test.YtomglbjcfcijkaaDoorLexSign
import Derived.Defers
import Derived.Recover
import Derived.Laws.Pointers
import Derived.RegionTactic
import Derived.Outline
namespace Go.Proofs.YtomglbjcfcijkaaDoor.PLx
open Go.RowKit Go.Proofs.YtomglbjcfcijkaaDoorW.PrintWords Go.Proofs.YtomglbjcfcijkaaDoorW.PrintLast Go.Proofs.YtomglbjcfcijkaaDoorW.PrintMore

theorem catch_idle (a b c : Addr) (w : World) :
    CallsD Tryd.prog 34 #[.pointer (some a), .pointer (some b), .pointer (some c)] .returning w fun e u' w' => e = .returned (.tuple #[]) ∧ u' = .returning ∧ w' = w := by
  have hu20 := Tryd.underlying20
  refine callsD_of_wpS Tryd.func34 rfl fun c₀ cs hu => ?_
  apply wpS_seq
  apply wpS_region
  simp [wpOpsS, go_sem, recoverD, hu, Tryd.ntmps34, Exit.thenS]
  apply wpS_seq
  apply wpS_region
  simp [wpOpsS, go_sem, Exit.thenS]
  refine wpS_cond (t := false) (by simp [Act.eval, Array.replicate]) ?_
  simp only [Bool.false_eq_true, if_false]
  refine wpS_of_wp (wp_skip ?_)
  cases c₀
  simp_all [bodyPostS, results, Tryd.results34]

theorem catch_panicking (A B C : Nat) (v0 v1 v2 : Value) (p : Int) (older : List PanicEntry) (w : World)
    (ha : w.heap[A]? = some (.cells #[v0] 23 (0, 0))) (hb : w.heap[B]? = some (.cells #[v1] 3 (0, 0))) (hc : w.heap[C]? = some (.cells #[v2] 24 (0, 0))) (hab : A ≠ B) (hac : A ≠ C) (hbc : B ≠ C) :
    CallsD Tryd.prog 34 #[.pointer (some ⟨A, 0, none⟩), .pointer (some ⟨B, 0, none⟩), .pointer (some ⟨C, 0, none⟩)] (.panicking ({ v := .iface 56 (.int .i64 p), recovered := false } :: older)) w fun e u' w' =>
      e = .returned (.tuple #[]) ∧ u' = .panicking ({ v := .iface 56 (.int .i64 p), recovered := true } :: older) ∧ w' = (((w.setCell ⟨A, 0, none⟩ (.slice none 0 0)).setCell ⟨B, 0, none⟩ (.int .i64 p)).setCell ⟨C, 0, none⟩ (.int .i64 90)).drew := by
  have hu20 := Tryd.underlying20
  have hu56 := Tryd.underlying56
  refine callsD_of_wpS Tryd.func34 rfl fun c₀ cs hu => ?_
  apply wpS_seq
  apply wpS_region
  simp [wpOpsS, go_sem, recoverD, hu, Tryd.ntmps34, Exit.thenS]
  apply wpS_seq
  apply wpS_region
  simp [wpOpsS, go_sem, Exit.thenS, hu20]
  refine wpS_cond (t := true) (by simp [Act.eval, Array.replicate]) ?_
  simp only [if_true]
  refine wpS_of_wp ?_
  change Code.wp _ _ _ ⟨#[.pointer (some ⟨A, 0, none⟩), .pointer (some ⟨B, 0, none⟩), .pointer (some ⟨C, 0, none⟩), .iface 56 (.int .i64 p), .iface 56 (.int .i64 p), .iface 56 (.int .i64 p), .bool true, undef, undef], []⟩ w
  have a0 : w.cell? ⟨A, 0, none⟩ = some v0 := (blk_cell ha 0).trans rfl
  have b0 : w.cell? ⟨B, 0, none⟩ = some v1 := (blk_cell hb 0).trans rfl
  have c0 : w.cell? ⟨C, 0, none⟩ = some v2 := (blk_cell hc 0).trans rfl
  have a1 : w.frozen? ⟨A, 0, none⟩ = false := blk_frozen ha 0
  have b1 : w.frozen? ⟨B, 0, none⟩ = false := blk_frozen hb 0
  have c1 : w.frozen? ⟨C, 0, none⟩ = false := blk_frozen hc 0
  have hab' : B ≠ A := hab.symm
  have hac' : C ≠ A := hac.symm
  have hbc' : C ≠ B := hbc.symm
  have H := Aside0.mk hu
  clear hu ha hb hc
  have hta : ∀ W, (Instr.typeAssert (.iface 56 (.int .i64 p)) 20 56 false).run Tryd.prog W = .ok (.int .i64 p) W := fun W => by kernel_rfl
  go_region
  all_goals
    cases c₀
    simp_all [bodyPostS, results, Tryd.results34]
end Go.Proofs.YtomglbjcfcijkaaDoor.PLx
