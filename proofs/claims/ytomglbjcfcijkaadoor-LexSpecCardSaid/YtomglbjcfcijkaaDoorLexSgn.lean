/- THE REFERENCE's Sign by its contract: a loop over thirteen constant bytes. -/
import Derived.Test.YtomglbjcfcijkaaDoorLexM
import Derived.WalkLawsBesides
import Derived.WalkSpells
import Derived.Lib.Hide
namespace Go.Proofs.YtomglbjcfcijkaaDoor.PLx
open Go.RowKit Go.Proofs.YtomglbjcfcijkaaDoorW.PrintWords Go.Proofs.YtomglbjcfcijkaaDoorW.PrintLast Go.Proofs.YtomglbjcfcijkaaDoorW.PrintMore
theorem sign_at (k : Nat) (h : k < (⟨#[123, 125, 40, 41, 59, 44, 61, 35, 47, 60, 33, 45, 46]⟩ : ByteArray).size) : (((⟨#[123, 125, 40, 41, 59, 44, 61, 35, 47, 60, 33, 45, 46]⟩ : ByteArray)[k].toNat : Nat) : Int) = signBytes.getD k 0 := by
  have hs : (⟨#[123, 125, 40, 41, 59, 44, 61, 35, 47, 60, 33, 45, 46]⟩ : ByteArray).size = 13 := rfl
  rw [hs] at h
  match k, h with
  | 0, _ => rfl
  | 1, _ => rfl
  | 2, _ => rfl
  | 3, _ => rfl
  | 4, _ => rfl
  | 5, _ => rfl
  | 6, _ => rfl
  | 7, _ => rfl
  | 8, _ => rfl
  | 9, _ => rfl
  | 10, _ => rfl
  | 11, _ => rfl
  | 12, _ => rfl
  | n + 13, h => omega
theorem refSign_any (c : Int) (w : World) :
    Calls Tryd.prog 45 #[.int .u8 c] w fun e w' => e = .returned (.bool (decide (c ∈ signBytes))) ∧ Drawn0 w w' := by
  go_enter Tryd.func45, Tryd.ntmps45
  go_wp2
  go_loopw [4] (fun n wr => ∃ k : Nat, k ≤ 13 ∧ n = .int .i64 k ∧ Aside0 (∀ j : Nat, j < k → signBytes.getD j 0 ≠ c) ∧ Drawn0 w wr) (fun n _ => 13 - (intOf n).toNat)
  case atStart => exact ⟨0, by omega, rfl, ⟨by omega⟩, ⟨⟨0, rfl⟩⟩⟩
  case round =>
    obtain ⟨k, hk, rfl, HR, hd⟩ := hrel
    obtain ⟨⟨nq, rfl⟩⟩ := hd
    by_cases hlt : k < 13
    · have hsa := sign_at k hlt
      by_cases he : signBytes.getD k 0 = c
      · have H1 := Aside0.mk he
        have H2 := Aside0.mk hsa
        clear he hsa
        have hq : ((((⟨#[123, 125, 40, 41, 59, 44, 61, 35, 47, 60, 33, 45, 46]⟩ : ByteArray)[k].toNat : Nat) : Int) == c) = true := by rw [H2.out, H1.out]; exact beq_self_eq_true c
        go_wp2
        go_ret
        refine ⟨?_, ⟨⟨_, rfl⟩⟩⟩
        have : c ∈ signBytes := by
          rw [← H1.out, List.getD_eq_getElem?_getD, List.getElem?_eq_getElem (show k < signBytes.length from hlt)]
          exact List.getElem_mem _
        simp [this]
      · have H1 := Aside0.mk he
        have H2 := Aside0.mk hsa
        clear he hsa
        have hq : ((((⟨#[123, 125, 40, 41, 59, 44, 61, 35, 47, 60, 33, 45, 46]⟩ : ByteArray)[k].toNat : Nat) : Int) == c) = false := by rw [H2.out]; exact beq_eq_false_iff_ne.2 H1.out
        go_wp2
        go_roundw
        case rel =>
          refine ⟨k + 1, by omega, by go_num, ⟨fun j hj => ?_⟩, ⟨⟨_, rfl⟩⟩⟩
          rcases Nat.lt_or_eq_of_le (Nat.le_of_lt_succ hj) with h | rfl
          · exact HR.out j h
          · exact H1.out
        case measure => simp [intOf]; omega
    · obtain rfl : k = 13 := by omega
      go_wp2
      go_ret
      refine ⟨?_, ⟨⟨_, rfl⟩⟩⟩
      have : c ∉ signBytes := by
        intro hm
        obtain ⟨j, hj, he⟩ := List.getElem_of_mem hm
        refine HR.out j hj ?_
        rw [List.getD_eq_getElem?_getD, List.getElem?_eq_getElem hj]
        exact he
      simp [this]
def sizarref09_Sign.f (a0 : Int) : Option Bool := some (decide (a0 ∈ signBytes))
theorem sizarref09_Sign.calls (a0 : Int) (r : Bool) (w : World) (h : sizarref09_Sign.f a0 = some r) :
    Calls Tryd.prog 45 #[.int .u8 a0] w fun e w' => e = .returned (.bool r) ∧ Drawn0 w w' := by
  injection h with h
  subst h
  exact refSign_any a0 w
end Go.Proofs.YtomglbjcfcijkaaDoor.PLx
