/- THE CLASS OF A BYTE: lex.class by its contract. -/
import Derived.Test.YtomglbjcfcijkaaDoorLexM
import Derived.Test.YtomglbjcfcijkaaDoorLibL
import Derived.WalkKit
import Derived.WalkLawsBesides
namespace Go.Proofs.YtomglbjcfcijkaaDoor.PLx
open Go.RowKit Go.Proofs.YtomglbjcfcijkaaDoorW.PrintWords Go.Proofs.YtomglbjcfcijkaaDoorW.PrintLast Go.Proofs.YtomglbjcfcijkaaDoorW.PrintMore
theorem sign_index (c : Int) (h0 : 0 ≤ c) (h1 : c ≤ 255) : 0 ≤ Lib.indexByte [123, 125, 40, 41, 59, 44, 61, 35, 47, 60, 33, 45, 46] c.toNat.toUInt8 ↔ c ∈ signBytes := by
  obtain ⟨n, rfl⟩ := Int.eq_ofNat_of_zero_le h0
  have : ∀ n : Nat, n < 256 → (0 ≤ Lib.indexByte [123, 125, 40, 41, 59, 44, 61, 35, 47, 60, 33, 45, 46] ((n : Int).toNat.toUInt8) ↔ (n : Int) ∈ signBytes) := by decide +kernel
  exact this n (by omega)
theorem class_letter (c : Int) (h : 97 ≤ c ∧ c ≤ 122 ∨ 65 ≤ c ∧ c ≤ 90) (w : World) :
    Calls Tryd.prog 40 #[.int .u8 c] w fun e w' => e = .returned (.int .i64 2) ∧ w = w' := by
  by_cases hlow : 97 ≤ c
  · rcases h with ⟨h1, h2⟩ | ⟨h1, h2⟩
    · go_enter Tryd.func40, Tryd.ntmps40
      go_wp2
      go_ret
      exact ⟨rfl, rfl⟩
    · omega
  · rcases h with ⟨h1, h2⟩ | ⟨h1, h2⟩
    · omega
    · go_enter Tryd.func40, Tryd.ntmps40
      go_wp2
      go_ret
      exact ⟨rfl, rfl⟩
theorem class_digit (c : Int) (h1 : 48 ≤ c) (h2 : c ≤ 57) (w : World) :
    Calls Tryd.prog 40 #[.int .u8 c] w fun e w' => e = .returned (.int .i64 3) ∧ w = w' := by
  go_enter Tryd.func40, Tryd.ntmps40
  go_wp2
  go_ret
  exact ⟨rfl, rfl⟩
theorem class_one (c : Int) (h : c = 95 ∨ c = 32 ∨ c = 9 ∨ c = 10 ∨ c = 13) (w : World) :
    Calls Tryd.prog 40 #[.int .u8 c] w fun e w' => e = .returned (.int .i64 (if c = 95 then 5 else 1)) ∧ w = w' := by
  rcases h with rfl | rfl | rfl | rfl | rfl <;>
  · go_enter Tryd.func40, Tryd.ntmps40
    go_wp2
    go_ret
    exact ⟨rfl, rfl⟩
theorem class_rest (c : Int) (h : c < 48 ∨ 57 < c ∧ c < 65 ∨ 90 < c ∧ c < 97 ∨ 122 < c) (h95 : (c == 95) = false) (h32 : (c == 32) = false) (h9 : (c == 9) = false) (h10 : (c == 10) = false) (h13 : (c == 13) = false) (w : World) :
    Calls Tryd.prog 40 #[.int .u8 c] w fun e w' => e = .returned (.int .i64 (if 0 ≤ Lib.indexByte [123, 125, 40, 41, 59, 44, 61, 35, 47, 60, 33, 45, 46] c.toNat.toUInt8 then 4 else 0)) ∧ w = w' := by
  have hi := fun w => Tryd.strings_IndexByte ⟨#[123, 125, 40, 41, 59, 44, 61, 35, 47, 60, 33, 45, 46]⟩ c w
  simp only [] at hi
  generalize Lib.indexByte [123, 125, 40, 41, 59, 44, 61, 35, 47, 60, 33, 45, 46] c.toNat.toUInt8 = x at hi ⊢
  by_cases hx : 0 ≤ x
  all_goals
    rcases h with h | ⟨h, h'⟩ | ⟨h, h'⟩ | h <;>
    · go_enter Tryd.func40, Tryd.ntmps40
      go_wp2_with (go_at_call 72; refine (hi _).mono ?_; rintro e w' ⟨rfl, rfl⟩)
      go_ret
      exact ⟨by simp, rfl⟩
theorem class_any (c : Int) (h0 : 0 ≤ c) (h255 : c ≤ 255) (w : World) :
    Calls Tryd.prog 40 #[.int .u8 c] w fun e w' => e = .returned (.int .i64 (cls c)) ∧ w = w' := by
  unfold cls
  split
  · exact class_letter c (by assumption) w
  split
  · rename_i h; exact class_digit c h.1 h.2 w
  split
  · rename_i h; have := class_one c (.inl h) w; rwa [if_pos h] at this
  split
  · rename_i h1 h; have := class_one c (.inr h) w; rwa [if_neg h1] at this
  · rename_i h1 h2 h3 h4
    have := class_rest c (by omega) (beq_eq_false_iff_ne.2 (by omega)) (beq_eq_false_iff_ne.2 (by omega)) (beq_eq_false_iff_ne.2 (by omega)) (beq_eq_false_iff_ne.2 (by omega)) (beq_eq_false_iff_ne.2 (by omega)) w
    simp only [sign_index c h0 h255] at this ⊢
    exact this
/-- lex.class: of a byte. -/
def lex_class.f (a0 : Int) : Option Int := if 0 ≤ a0 ∧ a0 ≤ 255 then some (cls a0) else none
theorem lex_class.calls (a0 : Int) (r : Int) (w : World) (h : lex_class.f a0 = some r) :
    Calls Tryd.prog 40 #[.int .u8 a0] w fun e w' => e = .returned (.int .i64 r) ∧ Drawn0 w w' := by
  unfold lex_class.f at h
  split at h
  · rename_i hc
    injection h with h
    subst h
    refine (class_any a0 hc.1 hc.2 w).mono ?_
    rintro e w' ⟨he, rfl⟩
    exact ⟨he, Drawn0.refl _⟩
  · cases h
end Go.Proofs.YtomglbjcfcijkaaDoor.PLx
