/- LexWrong, AS A PLAIN LAW: what stands before the place of an error has tokens, and the error remains whatever follows behind a space. -/
import Derived.Test.YtomglbjcfcijkaaDoorPLxx9
import Derived.Test.YtomglbjcfcijkaaDoorLexSane
import Derived.Test.YtomglbjcfcijkaaDoorLexErr
namespace Go.Proofs.YtomglbjcfcijkaaDoor.PLx
open Go.RowKit Go.Proofs.YtomglbjcfcijkaaDoorW.PrintWords Go.Proofs.YtomglbjcfcijkaaDoorW.PrintLast Go.Proofs.YtomglbjcfcijkaaDoorW.PrintMore
theorem pureLexWrong : sizarlaw09_LexWrong.Pure := by
  intro a b _ _
  refine ⟨42, ?_⟩
  unfold sizarlaw09_LexWrong.f
  rw [sane_all _ (by omega), Option.bind_some, if_pos rfl]
  by_cases h3000 : wrap64 ((a.size : Int) + (b.size : Int)) > 3000
  · rw [if_pos h3000]
  rw [if_neg h3000]
  have hab : a.size + b.size ≤ 3000 := by unfold wrap64 at h3000; omega
  have hsz := size_data a
  cases hl : lexOf a.data.toList with
  | ok l =>
    rw [Lex_ok (by omega) hl]
    simp
  | error p =>
    rw [Lex_err (by omega) hl]
    rw [lexOf_R] at hl
    obtain ⟨d, hp, hd, ⟨ts, ht⟩, hm, hw⟩ := lexR_error _ _ _ _ (Nat.lt_succ_self _) hl
    rw [Nat.zero_add] at hp
    subst hp
    have e1 : (a.extract 0 ((p : Int)).toNat).data.toList = a.data.toList.take p := by
      rw [Lib.extract_data, List.drop_zero, Nat.sub_zero, Int.toNat_natCast]
    have e2 : ((a ++ (⟨#[32]⟩ : ByteArray)) ++ b).data.toList = a.data.toList ++ 32 :: b.data.toList := by
      simp [ByteArray.data_append]
    have e3 : (a.extract ((p : Int)).toNat a.size).data.toList = a.data.toList.drop p := by
      rw [Lib.extract_data, Int.toNat_natCast, List.take_of_length_le (by rw [List.length_drop, hsz]; omega)]
    have s1 : (a.extract 0 ((p : Int)).toNat).size ≤ 65536 := by rw [← size_data, e1, List.length_take]; omega
    have s2 : ((a ++ (⟨#[32]⟩ : ByteArray)) ++ b).size ≤ 65536 := by rw [← size_data, e2, List.length_append, List.length_cons, size_data, size_data]; omega
    have s3 : (a.extract ((p : Int)).toNat a.size).size ≤ 65536 := by rw [← size_data, e3, List.length_drop]; omega
    have f1 := Lex_ok (a := a.extract 0 ((p : Int)).toNat) s1 (l := ts) (by rw [e1, lexOf_R]; exact ht)
    have f2 := Lex_err (a := (a ++ (⟨#[32]⟩ : ByteArray)) ++ b) s2 (p := p) (by rw [e2, lexOf_R]; exact hm _)
    have f3 := Lex_err (a := a.extract ((p : Int)).toNat a.size) s3 (p := 0) (by rw [e3, lexOf_R]; exact hw 0)
    have n1 : ¬ (p : Int) < 0 := by omega
    have n2 : ¬ (a.size : Int) ≤ (p : Int) := by omega
    have n3 : (p : Int) ≤ (a.size : Int) := by omega
    have n4 : a.size + 1 ≤ 9223372036854775807 := by omega
    have n5 : (a ++ (⟨#[32]⟩ : ByteArray)).size + b.size ≤ 9223372036854775807 := by
      have : (a ++ (⟨#[32]⟩ : ByteArray)).size = a.size + 1 := by rw [ByteArray.size_append]; rfl
      omega
    have n0 : (0 : Int) ≤ (p : Int) := by omega
    simp only [Option.bind_some, show ¬ (90 : Int) = 0 by decide, if_false, if_true, if_neg n1, sizarlaw09_LexWrong.j0]
    rw [decide_eq_false (by omega : ¬ (p : Int) ≥ (a.size : Int))]
    simp only [Bool.false_eq_true, if_false, if_pos n0, if_pos n3, if_pos n4, if_pos n5, f1, f2, f3, Option.bind_some, if_true]
    rfl
end Go.Proofs.YtomglbjcfcijkaaDoor.PLx
