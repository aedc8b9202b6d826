/- LexNames, AS A PLAIN LAW: a string is a name exactly if the lexer returns it as a single token of this kind. -/
import Derived.Test.YtomglbjcfcijkaaDoorPLxx8
import Derived.Test.YtomglbjcfcijkaaDoorLexSane
namespace Go.Proofs.YtomglbjcfcijkaaDoor.PLx
open Go.RowKit Go.Proofs.YtomglbjcfcijkaaDoorW.PrintWords Go.Proofs.YtomglbjcfcijkaaDoorW.PrintLast Go.Proofs.YtomglbjcfcijkaaDoorW.PrintMore
theorem Text_name (a : ByteArray) : lex_Text.f [⟨1, a, 0, 0⟩] = some (if isName a.data.toList = true then (a, 0) else (bs [], 90)) := by
  have hv : validT ⟨1, a, 0, 0⟩ = isName a.data.toList := by
    show (isName a.data.toList && (0 : Int) == 0) = _
    simp
  have hw : textOf [⟨1, a, 0, 0⟩] = a.data.toList := rfl
  unfold lex_Text.f
  rw [if_neg (by unfold textMost; simp), hw]
  simp only [List.all_cons, List.all_nil, Bool.and_true, hv]
  by_cases h : isName a.data.toList = true
  · have := name_size _ h
    rw [if_pos h, if_pos h, if_pos (by unfold textMost; omega)]; rfl
  · rw [if_neg h, if_neg h]
theorem pureLexNames : sizarlaw09_LexNames.Pure := by
  intro a _
  refine ⟨a.size + 42, ?_⟩
  unfold sizarlaw09_LexNames.f
  rw [sane_all _ (by omega), Option.bind_some, if_pos rfl]
  by_cases h1000 : (a.size : Int) > 1000
  · rw [if_pos h1000]
  rw [if_neg h1000, Text_name a, name_f a _ (by omega)]
  have hsz := size_data a
  have hrow : ∀ t r, rd_T35 (t :: r) 0 = t := fun t r => rfl
  cases hl : lexOf a.data.toList with
  | error p =>
    have hn : isName a.data.toList = false := by
      cases h : isName a.data.toList
      · rfl
      · rw [name_lex _ h] at hl; cases hl
    rw [Lex_err (by omega) hl, hn]
    simp
  | ok l =>
    rw [Lex_ok (by omega) hl]
    cases hn : isName a.data.toList with
    | true =>
      rw [name_lex _ hn] at hl
      injection hl with hl
      subst hl
      rw [bs_data]
      simp [hrow, toList_eq]
    | false =>
      have hval := lexOf_valid hl
      match l, hval with
      | [], _ => simp
      | [t], hval =>
        have hv := hval t List.mem_cons_self
        by_cases h0 : t.f0 = 1
        · have h1 : ¬ t.f1.data.toList = a.data.toList := fun he => by
            unfold validT at hv
            rw [if_pos h0, he, hn] at hv
            cases hv
          have h2 : ¬ t.f1.data = a.data := fun he => h1 (by rw [he])
          simp [hrow, h0, h2, toList_eq]
        · simp [hrow, h0]
      | t :: u :: r, _ => simp; omega
end Go.Proofs.YtomglbjcfcijkaaDoor.PLx
