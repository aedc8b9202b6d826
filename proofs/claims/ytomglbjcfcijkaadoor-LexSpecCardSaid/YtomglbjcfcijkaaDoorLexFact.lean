/- PLAIN FACTS ABOUT THE LEXER: its tokens are valid; a name is one token; more rounds tell the same; the examples hold. -/
import Derived.Test.YtomglbjcfcijkaaDoorLexStep
namespace Go.Proofs.YtomglbjcfcijkaaDoor.PLx
open Go.RowKit Go.Proofs.YtomglbjcfcijkaaDoorW.PrintWords Go.Proofs.YtomglbjcfcijkaaDoorW.PrintLast Go.Proofs.YtomglbjcfcijkaaDoorW.PrintMore

/-- More rounds tell the same. -/
theorem more_rounds {α : Type} {f : Nat → Option α} (h : ∀ k, LeO (f k) (f (k + 1))) {n m : Nat} {r : α} (hn : f n = some r) (hm : n ≤ m) : f m = some r := by
  induction hm with
  | refl => exact hn
  | step _ ih => exact h _ _ ih
theorem cons1_ok {t : Tok} {x : Except Nat (List Tok)} {l : List Tok} (h : cons1 t x = .ok l) : ∃ r, x = .ok r ∧ l = t :: r := by
  cases x with
  | error p => cases h
  | ok r => injection h with h; exact ⟨r, rfl, h.symm⟩
theorem cons1_err {t : Tok} {x : Except Nat (List Tok)} {p : Nat} (h : cons1 t x = .error p) : x = .error p := by
  cases x with
  | error q => injection h with h; rw [h]
  | ok r => cases h
theorem isName_of (c : UInt8) (cs : List UInt8) (h : kl c = 2) : isName (c :: cs.takeWhile isPart) = decide ((cs.takeWhile isPart).length < 32) := by
  show (decide _ && kl c == 2 && _) = _
  rw [h, is_parts]; simp
/-- Every token that the lexer returns is valid. -/
theorem lexR_valid : ∀ (n : Nat) (l : List UInt8) (p : Nat) (ts : List Tok), l.length < n → lexR l p = .ok ts → ∀ t ∈ ts, validT t = true
  | 0, _, _, _, h, _ => absurd h (Nat.not_lt_zero _)
  | n + 1, [], p, ts, _, h => by
    rw [lexR_nil] at h; injection h with h; subst h; intro t ht; cases ht
  | n + 1, c :: cs, p, ts, hn, h => by
    have hn' : cs.length < n := by simpa using hn
    have d1 := drop_while_le isPart cs
    have d2 := drop_while_le isDig cs
    have d3 := drop_while_le (fun b => b != 10) cs
    rw [lexR_cons] at h
    split at h
    · exact lexR_valid n _ _ _ hn' h
    split at h
    · rename_i h2
      split at h
      · rename_i h32
        obtain ⟨r, hr, rfl⟩ := cons1_ok h
        intro t ht
        rcases List.mem_cons.1 ht with rfl | ht
        · show (if (1 : Int) = 1 then isName (c :: cs.takeWhile isPart) && (0 : Int) == 0 else _) = true
          rw [if_pos rfl, isName_of c cs h2, decide_eq_true h32]; rfl
        · exact lexR_valid n _ _ _ (by omega) hr t ht
      · cases h
    split at h
    · split at h
      · rename_i h3 hok
        obtain ⟨r, hr, rfl⟩ := cons1_ok h
        intro t ht
        rcases List.mem_cons.1 ht with rfl | ht
        · have hle : numVal (c :: cs.takeWhile isDig) ≤ 1099511627776 := by
            unfold okNum at hok
            simp only [Bool.and_eq_true, decide_eq_true_eq] at hok
            exact hok.2
          unfold validT
          simp only [show ¬ (2 : Int) = 1 by decide, if_false, if_true]
          simp [bs]; omega
        · exact lexR_valid n _ _ _ (by omega) hr t ht
      · cases h
    split at h
    · rename_i h4
      split at h
      · exact lexR_valid n _ _ _ (by omega) h
      · obtain ⟨r, hr, rfl⟩ := cons1_ok h
        intro t ht
        rcases List.mem_cons.1 ht with rfl | ht
        · unfold validT
          simp only [show ¬ (3 : Int) = 1 by decide, show ¬ (3 : Int) = 2 by decide, if_false, if_true]
          simp [bs, h4]
        · exact lexR_valid n _ _ _ hn' hr t ht
    · cases h
theorem lexOf_valid {l : List UInt8} {ts : List Tok} (h : lexOf l = .ok ts) : ∀ t ∈ ts, validT t = true := lexR_valid (l.length + 1) l 0 ts (Nat.lt_succ_self _) (by rw [← lexOf_R]; exact h)
theorem while_all (P : UInt8 → Bool) : ∀ l : List UInt8, l.all P = true → l.takeWhile P = l ∧ l.dropWhile P = []
  | [], _ => ⟨rfl, rfl⟩
  | c :: r, h => by
    rw [List.all_cons, Bool.and_eq_true] at h
    obtain ⟨h1, h2⟩ := while_all P r h.2
    rw [List.takeWhile_cons_of_pos h.1, List.dropWhile_cons_of_pos h.1, h1, h2]
    exact ⟨rfl, rfl⟩
/-- A name is one token. -/
theorem name_lex (l : List UInt8) (h : isName l = true) : lexOf l = .ok [⟨1, bs l, 0, 0⟩] := by
  rw [lexOf_R]
  cases l with
  | nil => cases h
  | cons c cs =>
    have h' : (decide (cs.length < 32) && kl c == 2 && cs.all isPart) = true := h
    simp only [Bool.and_eq_true, decide_eq_true_eq, beq_iff_eq] at h'
    obtain ⟨⟨h1, h2⟩, h3⟩ := h'
    obtain ⟨h4, h5⟩ := while_all isPart cs h3
    rw [lexR_cons, if_neg (by omega), if_pos h2, h4, h5, if_pos h1]; rfl
theorem name_size (l : List UInt8) (h : isName l = true) : l.length ≤ 32 := by
  cases l with
  | nil => simp
  | cons c cs =>
    have h' : (decide (cs.length < 32) && kl c == 2 && cs.all isPart) = true := h
    simp only [Bool.and_eq_true, decide_eq_true_eq, beq_iff_eq] at h'
    simp; omega
theorem bs_data (a : ByteArray) : bs a.data.toList = a := rfl
theorem Lex_ok {a : ByteArray} {l : List Tok} (hs : a.size ≤ 65536) (h : lexOf a.data.toList = .ok l) : lex_Lex.f a = some (l, 0, 0) := by
  unfold lex_Lex.f; rw [if_neg (by omega), h]
theorem Lex_err {a : ByteArray} {p : Nat} (hs : a.size ≤ 65536) (h : lexOf a.data.toList = .error p) : lex_Lex.f a = some ([], (p : Int), 90) := by
  unfold lex_Lex.f; rw [if_neg (by omega), h]
end Go.Proofs.YtomglbjcfcijkaaDoor.PLx
