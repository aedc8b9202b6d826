/- PLAIN FACTS ABOUT THE LEXER's ERRORS: what stands before the place has tokens, an error remains whatever follows behind a space, and what begins at the place has it at once. -/
import Derived.Test.YtomglbjcfcijkaaDoorLexFact
set_option linter.unusedSimpArgs false
namespace Go.Proofs.YtomglbjcfcijkaaDoor.PLx
open Go.RowKit Go.Proofs.YtomglbjcfcijkaaDoorW.PrintWords Go.Proofs.YtomglbjcfcijkaaDoorW.PrintLast Go.Proofs.YtomglbjcfcijkaaDoorW.PrintMore

theorem while_split (P : UInt8 → Bool) (l : List UInt8) : l.takeWhile P ++ l.dropWhile P = l := List.takeWhile_append_dropWhile
theorem while_take (P : UInt8 → Bool) : ∀ (l y : List UInt8), (l.takeWhile P).length < l.length ∨ (∀ a ∈ y.head?, P a = false) → (l ++ y).takeWhile P = l.takeWhile P ∧ (l ++ y).dropWhile P = l.dropWhile P ++ y
  | [], [], _ => ⟨rfl, rfl⟩
  | [], b :: y, h => by
    rcases h with h | h
    · exact absurd h (by simp)
    · have hb := h b (by simp)
      simp [List.takeWhile_cons, List.dropWhile_cons, hb]
  | c :: l, y, h => by
    cases hc : P c
    · simp [List.takeWhile_cons, List.dropWhile_cons, hc]
    · have ih := while_take P l y (by
        rcases h with h | h
        · left; rw [List.takeWhile_cons_of_pos hc] at h; simpa using h
        · exact .inr h)
      rw [List.cons_append, List.takeWhile_cons_of_pos hc, List.takeWhile_cons_of_pos hc, List.dropWhile_cons_of_pos hc, List.dropWhile_cons_of_pos hc, ih.1, ih.2]
      exact ⟨rfl, rfl⟩
/-- A piece that ends in the rest: the run stays. -/
theorem while_cut (P : UInt8 → Bool) (l : List UInt8) (d : Nat) : (l.take ((l.takeWhile P).length + d)).takeWhile P = l.takeWhile P ∧ (l.take ((l.takeWhile P).length + d)).dropWhile P = (l.dropWhile P).take d := by
  have hs := while_split P l
  have hd := drop_while_drop P l
  have e : l.take ((l.takeWhile P).length + d) = l.takeWhile P ++ (l.dropWhile P).take d := by
    rw [List.take_add, take_while, hd]
  rw [e]
  have hh : ∀ x ∈ ((l.dropWhile P).take d).head?, P x = false := by
    intro x hx
    cases hr : l.dropWhile P with
    | nil => rw [hr] at hx; simp at hx
    | cons b r =>
      rw [hr] at hx
      have hb : P b = false := by
        have := List.head?_dropWhile_not P l
        rw [hr] at this
        simpa using this
      cases d with
      | zero => simp at hx
      | succ d => simp at hx; subst hx; exact hb
  have ha : (l.takeWhile P).all P = true := by
    rw [List.all_eq_true]; exact fun x hx => mem_while P l x hx
  obtain ⟨h1, h2⟩ := while_all P _ ha
  obtain ⟨h3, h4⟩ := while_take P (l.takeWhile P) ((l.dropWhile P).take d) (.inr hh)
  rw [h3, h4, h1, h2]
  exact ⟨rfl, rfl⟩
theorem head_take (l : List UInt8) (d : Nat) (x : UInt8) (h : (l.take d).head? = some x) : l.head? = some x := by
  cases l with
  | nil => simp at h
  | cons a l => cases d with
    | zero => simp at h
    | succ d => simpa using h
theorem kl32 : kl 32 = 1 := by decide
theorem part32 : isPart 32 = false := by decide
theorem dig32 : isDig 32 = false := by decide
/-- What an error means. -/
theorem lexR_error : ∀ (n : Nat) (l : List UInt8) (q p : Nat), l.length < n → lexR l q = .error p →
    ∃ d, p = q + d ∧ d < l.length ∧ (∃ ts, lexR (l.take d) q = .ok ts) ∧ (∀ more, lexR (l ++ 32 :: more) q = .error p) ∧ (∀ q', lexR (l.drop d) q' = .error q')
  | 0, _, _, _, h, _ => absurd h (Nat.not_lt_zero _)
  | n + 1, [], q, p, _, h => by rw [lexR_nil] at h; cases h
  | n + 1, c :: cs, q, p, hn, h => by
    have hn' : cs.length < n := by simpa using hn
    rw [lexR_cons] at h
    split at h
    · rename_i h1
      obtain ⟨d, rfl, hd, ⟨ts, ht⟩, hm, hw⟩ := lexR_error n _ _ _ hn' h
      refine ⟨d + 1, by omega, by simpa using hd, ⟨ts, ?_⟩, fun more => ?_, fun q' => ?_⟩
      · rw [List.take_succ_cons, lexR_cons, if_pos h1, ht]
      · rw [List.cons_append, lexR_cons, if_pos h1, hm]
      · rw [List.drop_succ_cons, hw]
    rename_i h1
    split at h
    · rename_i h2
      split at h
      · rename_i h32
        obtain ⟨d, rfl, hd, ⟨ts, ht⟩, hm, hw⟩ := lexR_error n _ _ _ (Nat.lt_of_le_of_lt (drop_while_le isPart cs) hn') (cons1_err h)
        have hl : (cs.takeWhile isPart).length + (cs.dropWhile isPart).length = cs.length := by rw [← List.length_append, while_split]
        obtain ⟨e1, e2⟩ := while_cut isPart cs d
        refine ⟨(cs.takeWhile isPart).length + d + 1, by omega, by simp; omega, ⟨⟨1, bs (c :: cs.takeWhile isPart), 0, q⟩ :: ts, ?_⟩, fun more => ?_, fun q' => ?_⟩
        · rw [List.take_succ_cons, lexR_cons, if_neg h1, if_pos h2, e1, e2, if_pos h32, ht]; rfl
        · obtain ⟨e3, e4⟩ := while_take isPart cs (32 :: more) (.inl (by omega))
          rw [List.cons_append, lexR_cons, if_neg h1, if_pos h2, e3, e4, if_pos h32, hm]; rfl
        · rw [List.drop_succ_cons, ← List.drop_drop, ← drop_while_drop, hw]
      · rename_i h32
        injection h with h
        subst h
        refine ⟨0, rfl, by simp, ⟨[], rfl⟩, fun more => ?_, fun q' => ?_⟩
        · obtain ⟨e3, e4⟩ := while_take isPart cs (32 :: more) (.inr (by simp [part32]))
          rw [List.cons_append, lexR_cons, if_neg h1, if_pos h2, e3, if_neg h32]
        · rw [List.drop_zero, lexR_cons, if_neg h1, if_pos h2, if_neg h32]
    rename_i h2
    split at h
    · rename_i h3
      split at h
      · rename_i h32
        obtain ⟨d, rfl, hd, ⟨ts, ht⟩, hm, hw⟩ := lexR_error n _ _ _ (Nat.lt_of_le_of_lt (drop_while_le isDig cs) hn') (cons1_err h)
        have hl : (cs.takeWhile isDig).length + (cs.dropWhile isDig).length = cs.length := by rw [← List.length_append, while_split]
        obtain ⟨e1, e2⟩ := while_cut isDig cs d
        refine ⟨(cs.takeWhile isDig).length + d + 1, by omega, by simp; omega, ⟨⟨2, bs [], numVal (c :: cs.takeWhile isDig), q⟩ :: ts, ?_⟩, fun more => ?_, fun q' => ?_⟩
        · rw [List.take_succ_cons, lexR_cons, if_neg h1, if_neg h2, if_pos h3, e1, e2, if_pos h32, ht]; rfl
        · obtain ⟨e3, e4⟩ := while_take isDig cs (32 :: more) (.inl (by omega))
          rw [List.cons_append, lexR_cons, if_neg h1, if_neg h2, if_pos h3, e3, e4, if_pos h32, hm]; rfl
        · rw [List.drop_succ_cons, ← List.drop_drop, ← drop_while_drop, hw]
      · rename_i h32
        injection h with h
        subst h
        refine ⟨0, rfl, by simp, ⟨[], rfl⟩, fun more => ?_, fun q' => ?_⟩
        · obtain ⟨e3, e4⟩ := while_take isDig cs (32 :: more) (.inr (by simp [dig32]))
          rw [List.cons_append, lexR_cons, if_neg h1, if_neg h2, if_pos h3, e3, if_neg h32]
        · rw [List.drop_zero, lexR_cons, if_neg h1, if_neg h2, if_pos h3, if_neg h32]
    rename_i h3
    split at h
    · rename_i h4
      split at h
      · rename_i h47
        obtain ⟨d, rfl, hd, ⟨ts, ht⟩, hm, hw⟩ := lexR_error n _ _ _ (Nat.lt_of_le_of_lt (drop_while_le _ cs) hn') h
        have hl : (cs.takeWhile fun b => b != 10).length + (cs.dropWhile fun b => b != 10).length = cs.length := by rw [← List.length_append, while_split]
        obtain ⟨e1, e2⟩ := while_cut (fun b => b != 10) cs d
        have hne : ∃ r, cs = 47 :: r := by
          cases cs with
          | nil => exact absurd h47.2 (by simp)
          | cons b r => exact ⟨r, by have := h47.2; simp at this; rw [this]⟩
        obtain ⟨r, hr⟩ := hne
        have hpos : 0 < (cs.takeWhile fun b => b != 10).length := by rw [hr, List.takeWhile_cons_of_pos (by decide)]; simp
        refine ⟨(cs.takeWhile fun b => b != 10).length + d + 1, by omega, by simp; omega, ⟨ts, ?_⟩, fun more => ?_, fun q' => ?_⟩
        · have hq : c = 47 ∧ (cs.take ((cs.takeWhile fun b => b != 10).length + d)).head? = some 47 := by
            obtain ⟨m, hm'⟩ : ∃ m, (cs.takeWhile fun b => b != 10).length + d = m + 1 := ⟨(cs.takeWhile fun b => b != 10).length + d - 1, by omega⟩
            refine ⟨h47.1, ?_⟩
            rw [hm', hr]; rfl
          rw [List.take_succ_cons, lexR_cons, if_neg h1, if_neg h2, if_neg h3, if_pos h4, e1, e2, if_pos hq, ht]
        · obtain ⟨e3, e4⟩ := while_take (fun b => b != 10) cs (32 :: more) (.inl (by omega))
          rw [List.cons_append, lexR_cons, if_neg h1, if_neg h2, if_neg h3, if_pos h4, e3, e4, if_pos ⟨h47.1, by rw [hr]; rfl⟩, hm]
        · rw [List.drop_succ_cons, ← List.drop_drop, ← drop_while_drop, hw]
      · rename_i h47
        obtain ⟨d, rfl, hd, ⟨ts, ht⟩, hm, hw⟩ := lexR_error n _ _ _ hn' (cons1_err h)
        refine ⟨d + 1, by omega, by simpa using hd, ⟨⟨3, bs [c], 0, q⟩ :: ts, ?_⟩, fun more => ?_, fun q' => ?_⟩
        · rw [List.take_succ_cons, lexR_cons, if_neg h1, if_neg h2, if_neg h3, if_pos h4, if_neg (fun hc => h47 ⟨hc.1, head_take _ _ _ hc.2⟩), ht]; rfl
        · have hq : ¬ (c = 47 ∧ (cs ++ 32 :: more).head? = some 47) := by
            rintro ⟨hc, hh⟩
            cases cs with
            | nil => simp at hd
            | cons b r => exact h47 ⟨hc, by simpa using hh⟩
          rw [List.cons_append, lexR_cons, if_neg h1, if_neg h2, if_neg h3, if_pos h4, if_neg hq, hm]; rfl
        · rw [List.drop_succ_cons, hw]
    · rename_i h4
      injection h with h
      subst h
      refine ⟨0, rfl, by simp, ⟨[], rfl⟩, fun more => ?_, fun q' => ?_⟩
      · rw [List.cons_append, lexR_cons, if_neg h1, if_neg h2, if_neg h3, if_neg h4]
      · rw [List.drop_zero, lexR_cons, if_neg h1, if_neg h2, if_neg h3, if_neg h4]
end Go.Proofs.YtomglbjcfcijkaaDoor.PLx
