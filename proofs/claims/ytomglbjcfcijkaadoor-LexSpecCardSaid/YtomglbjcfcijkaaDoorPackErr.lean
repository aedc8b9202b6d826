/- PLAIN FACTS ABOUT THE LEXER's ERRORS: what stands before the place has tokens, an error remains whatever follows behind a space, and what begins at the place has it at once. -/
import Derived.Test.YtomglbjcfcijkaaDoorLexFact
import Derived.Test.YtomglbjcfcijkaaDoorLexText
set_option linter.unusedSimpArgs false
namespace Go.Proofs.YtomglbjcfcijkaaDoor.PLx
open Go.RowKit Go.Proofs.YtomglbjcfcijkaaDoorW.PrintWords Go.Proofs.YtomglbjcfcijkaaDoorW.PrintLast Go.Proofs.YtomglbjcfcijkaaDoorW.PrintMore

theorem while_split (P : UInt8 → Bool) (l : List UInt8) : l.takeWhile P ++ l.dropWhile P = l := List.takeWhile_append_dropWhile
theorem while_take (P : UInt8 → Bool) : ∀ (l y : List UInt8), (l.takeWhile P).length < l.length ∨ (∀ a ∈ y.head?, P a = false) → (l ++ y).takeWhile P = l.takeWhile P ∧ (l ++ y).dropWhile P = l.dropWhile P ++ y
  | [], [], _ => ⟨rfl, rfl⟩
  | [], b :: y, h => by
    rcases h with h | h
    · exact absurd h (by simp)
    · have hb := h b (by simp)
      simp [List.takeWhile_cons, List.dropWhile_cons, hb]
  | c :: l, y, h => by
    cases hc : P c
    · simp [List.takeWhile_cons, List.dropWhile_cons, hc]
    · have ih := while_take P l y (by
        rcases h with h | h
        · left; rw [List.takeWhile_cons_of_pos hc] at h; simpa using h
        · exact .inr h)
      rw [List.cons_append, List.takeWhile_cons_of_pos hc, List.takeWhile_cons_of_pos hc, List.dropWhile_cons_of_pos hc, List.dropWhile_cons_of_pos hc, ih.1, ih.2]
      exact ⟨rfl, rfl⟩
/-- A piece that ends in the rest: the run stays. -/
theorem while_cut (P : UInt8 → Bool) (l : List UInt8) (d : Nat) : (l.take ((l.takeWhile P).length + d)).takeWhile P = l.takeWhile P ∧ (l.take ((l.takeWhile P).length + d)).dropWhile P = (l.dropWhile P).take d := by
  have hs := while_split P l
  have hd := drop_while_drop P l
  have e : l.take ((l.takeWhile P).length + d) = l.takeWhile P ++ (l.dropWhile P).take d := by
    rw [List.take_add, take_while, hd]
  rw [e]
  have hh : ∀ x ∈ ((l.dropWhile P).take d).head?, P x = false := by
    intro x hx
    cases hr : l.dropWhile P with
    | nil => rw [hr] at hx; simp at hx
    | cons b r =>
      rw [hr] at hx
      have hb : P b = false := by
        have := List.head?_dropWhile_not P l
        rw [hr] at this
        simpa using this
      cases d with
      | zero => simp at hx
      | succ d => simp at hx; subst hx; exact hb
  have ha : (l.takeWhile P).all P = true := by
    rw [List.all_eq_true]; exact fun x hx => mem_while P l x hx
  obtain ⟨h1, h2⟩ := while_all P _ ha
  obtain ⟨h3, h4⟩ := while_take P (l.takeWhile P) ((l.dropWhile P).take d) (.inr hh)
  rw [h3, h4, h1, h2]
  exact ⟨rfl, rfl⟩
theorem head_take (l : List UInt8) (d : Nat) (x : UInt8) (h : (l.take d).head? = some x) : l.head? = some x := by
  cases l with
  | nil => simp at h
  | cons a l => cases d with
    | zero => simp at h
    | succ d => simpa using h
theorem kl32 : kl 32 = 1 := by decide
theorem part32 : isPart 32 = false := by decide
theorem dig32 : isDig 32 = false := by decide
/-- What an error means. -/
theorem lexR_error : ∀ (n : Nat) (l : List UInt8) (q p : Nat), l.length < n → lexR l q = .error p →
    ∃ d, p = q + d ∧ d < l.length ∧ (∃ ts, lexR (l.take d) q = .ok ts) ∧ (∀ more, lexR (l ++ 32 :: more) q = .error p) ∧ (∀ q', lexR (l.drop d) q' = .error q')
  | 0, _, _, _, h, _ => absurd h (Nat.not_lt_zero _)
  | n + 1, [], q, p, _, h => by rw [lexR_nil] at h; cases h
  | n + 1, c :: cs, q, p, hn, h => by
    have hn' : cs.length < n := by simpa using hn
    rw [lexR_cons] at h
    split at h
    · rename_i h1
      obtain ⟨d, rfl, hd, ⟨ts, ht⟩, hm, hw⟩ := lexR_error n _ _ _ hn' h
      refine ⟨d + 1, by omega, by simpa using hd, ⟨ts, ?_⟩, fun more => ?_, fun q' => ?_⟩
      · rw [List.take_succ_cons, lexR_cons, if_pos h1, ht]
      · rw [List.cons_append, lexR_cons, if_pos h1, hm]
      · rw [List.drop_succ_cons, hw]
    rename_i h1
    split at h
    · rename_i h2
      split at h
      · rename_i h32
        obtain ⟨d, rfl, hd, ⟨ts, ht⟩, hm, hw⟩ := lexR_error n _ _ _ (Nat.lt_of_le_of_lt (drop_while_le isPart cs) hn') (cons1_err h)
        have hl : (cs.takeWhile isPart).length + (cs.dropWhile isPart).length = cs.length := by rw [← List.length_append, while_split]
        obtain ⟨e1, e2⟩ := while_cut isPart cs d
        refine ⟨(cs.takeWhile isPart).length + d + 1, by omega, by simp; omega, ⟨⟨1, bs (c :: cs.takeWhile isPart), 0, q⟩ :: ts, ?_⟩, fun more => ?_, fun q' => ?_⟩
        · rw [List.take_succ_cons, lexR_cons, if_neg h1, if_pos h2, e1, e2, if_pos h32, ht]; rfl
        · obtain ⟨e3, e4⟩ := while_take isPart cs (32 :: more) (.inl (by omega))
          rw [List.cons_append, lexR_cons, if_neg h1, if_pos h2, e3, e4, if_pos h32, hm]; rfl
        · rw [List.drop_succ_cons, ← List.drop_drop, ← drop_while_drop, hw]
      · rename_i h32
        injection h with h
        subst h
        refine ⟨0, rfl, by simp, ⟨[], rfl⟩, fun more => ?_, fun q' => ?_⟩
        · obtain ⟨e3, e4⟩ := while_take isPart cs (32 :: more) (.inr (by simp [part32]))
          rw [List.cons_append, lexR_cons, if_neg h1, if_pos h2, e3, if_neg h32]
        · rw [List.drop_zero, lexR_cons, if_neg h1, if_pos h2, if_neg h32]
    rename_i h2
    split at h
    · rename_i h3
      split at h
      · rename_i h32
        obtain ⟨d, rfl, hd, ⟨ts, ht⟩, hm, hw⟩ := lexR_error n _ _ _ (Nat.lt_of_le_of_lt (drop_while_le isDig cs) hn') (cons1_err h)
        have hl : (cs.takeWhile isDig).length + (cs.dropWhile isDig).length = cs.length := by rw [← List.length_append, while_split]
        obtain ⟨e1, e2⟩ := while_cut isDig cs d
        refine ⟨(cs.takeWhile isDig).length + d + 1, by omega, by simp; omega, ⟨⟨2, bs [], numVal (c :: cs.takeWhile isDig), q⟩ :: ts, ?_⟩, fun more => ?_, fun q' => ?_⟩
        · rw [List.take_succ_cons, lexR_cons, if_neg h1, if_neg h2, if_pos h3, e1, e2, if_pos h32, ht]; rfl
        · obtain ⟨e3, e4⟩ := while_take isDig cs (32 :: more) (.inl (by omega))
          rw [List.cons_append, lexR_cons, if_neg h1, if_neg h2, if_pos h3, e3, e4, if_pos h32, hm]; rfl
        · rw [List.drop_succ_cons, ← List.drop_drop, ← drop_while_drop, hw]
      · rename_i h32
        injection h with h
        subst h
        refine ⟨0, rfl, by simp, ⟨[], rfl⟩, fun more => ?_, fun q' => ?_⟩
        · obtain ⟨e3, e4⟩ := while_take isDig cs (32 :: more) (.inr (by simp [dig32]))
          rw [List.cons_append, lexR_cons, if_neg h1, if_neg h2, if_pos h3, e3, if_neg h32]
        · rw [List.drop_zero, lexR_cons, if_neg h1, if_neg h2, if_pos h3, if_neg h32]
    rename_i h3
    split at h
    · rename_i h4
      split at h
      · rename_i h47
        obtain ⟨d, rfl, hd, ⟨ts, ht⟩, hm, hw⟩ := lexR_error n _ _ _ (Nat.lt_of_le_of_lt (drop_while_le _ cs) hn') h
        have hl : (cs.takeWhile fun b => b != 10).length + (cs.dropWhile fun b => b != 10).length = cs.length := by rw [← List.length_append, while_split]
        obtain ⟨e1, e2⟩ := while_cut (fun b => b != 10) cs d
        have hne : ∃ r, cs = 47 :: r := by
          cases cs with
          | nil => exact absurd h47.2 (by simp)
          | cons b r => exact ⟨r, by have := h47.2; simp at this; rw [this]⟩
        obtain ⟨r, hr⟩ := hne
        have hpos : 0 < (cs.takeWhile fun b => b != 10).length := by rw [hr, List.takeWhile_cons_of_pos (by decide)]; simp
        refine ⟨(cs.takeWhile fun b => b != 10).length + d + 1, by omega, by simp; omega, ⟨ts, ?_⟩, fun more => ?_, fun q' => ?_⟩
        · have hq : c = 47 ∧ (cs.take ((cs.takeWhile fun b => b != 10).length + d)).head? = some 47 := by
            obtain ⟨m, hm'⟩ : ∃ m, (cs.takeWhile fun b => b != 10).length + d = m + 1 := ⟨(cs.takeWhile fun b => b != 10).length + d - 1, by omega⟩
            refine ⟨h47.1, ?_⟩
            rw [hm', hr]; rfl
          rw [List.take_succ_cons, lexR_cons, if_neg h1, if_neg h2, if_neg h3, if_pos h4, e1, e2, if_pos hq, ht]
        · obtain ⟨e3, e4⟩ := while_take (fun b => b != 10) cs (32 :: more) (.inl (by omega))
          rw [List.cons_append, lexR_cons, if_neg h1, if_neg h2, if_neg h3, if_pos h4, e3, e4, if_pos ⟨h47.1, by rw [hr]; rfl⟩, hm]
        · rw [List.drop_succ_cons, ← List.drop_drop, ← drop_while_drop, hw]
      · rename_i h47
        obtain ⟨d, rfl, hd, ⟨ts, ht⟩, hm, hw⟩ := lexR_error n _ _ _ hn' (cons1_err h)
        refine ⟨d + 1, by omega, by simpa using hd, ⟨⟨3, bs [c], 0, q⟩ :: ts, ?_⟩, fun more => ?_, fun q' => ?_⟩
        · rw [List.take_succ_cons, lexR_cons, if_neg h1, if_neg h2, if_neg h3, if_pos h4, if_neg (fun hc => h47 ⟨hc.1, head_take _ _ _ hc.2⟩), ht]; rfl
        · have hq : ¬ (c = 47 ∧ (cs ++ 32 :: more).head? = some 47) := by
            rintro ⟨hc, hh⟩
            cases cs with
            | nil => simp at hd
            | cons b r => exact h47 ⟨hc, by simpa using hh⟩
          rw [List.cons_append, lexR_cons, if_neg h1, if_neg h2, if_neg h3, if_pos h4, if_neg hq, hm]; rfl
        · rw [List.drop_succ_cons, hw]
    · rename_i h4
      injection h with h
      subst h
      refine ⟨0, rfl, by simp, ⟨[], rfl⟩, fun more => ?_, fun q' => ?_⟩
      · rw [List.cons_append, lexR_cons, if_neg h1, if_neg h2, if_neg h3, if_neg h4]
      · rw [List.drop_zero, lexR_cons, if_neg h1, if_neg h2, if_neg h3, if_neg h4]
end Go.Proofs.YtomglbjcfcijkaaDoor.PLx

namespace Go.Proofs.YtomglbjcfcijkaaDoor.PLx
open Go.RowKit Go.Proofs.YtomglbjcfcijkaaDoorW.PrintWords Go.Proofs.YtomglbjcfcijkaaDoorW.PrintLast Go.Proofs.YtomglbjcfcijkaaDoorW.PrintMore

/-- A gap, byte by byte; the Bool: inside a comment. -/
def scanG : Bool → List UInt8 → Option Bool
  | fl, [] => some fl
  | fl, c :: g => if (c != 10 && (fl || (c == 47 && g.head? == some 47))) = true then scanG true g else if kl c = 1 then scanG false g else none
/-- A token's text. -/
def spellT (t : Tok) : List UInt8 := if t.f0 = 2 then Lib.decDigits t.f2.toNat else t.f1.data.toList
theorem scanG_true : ∀ (T X : List UInt8), (T.all fun b => b != 10) = true → scanG true (T ++ X) = scanG true X
  | [], _, _ => rfl
  | c :: T, X, h => by
    rw [List.all_cons, Bool.and_eq_true] at h
    rw [List.cons_append, scanG, if_pos (by rw [h.1]; rfl), scanG_true T X h.2]
theorem scanG_ten (b : Bool) (X : List UInt8) : scanG b (10 :: X) = scanG false X := by
  rw [scanG, if_neg (by simp), if_pos (by decide)]
theorem scanG_space (c : UInt8) (X : List UInt8) (h : kl c = 1) : scanG false (c :: X) = scanG false X := by
  have h47 : (c == 47) = false := by
    rw [beq_eq_false_iff_ne]; rintro rfl; exact absurd h (by decide)
  rw [scanG, h47, if_neg (by simp), if_pos h]
theorem cons_take_drop (c : UInt8) (cs : List UInt8) (P : UInt8 → Bool) : c :: cs = (c :: cs.takeWhile P) ++ (c :: cs).drop (c :: cs.takeWhile P).length := by
  rw [List.length_cons, List.drop_succ_cons, ← drop_while_drop, List.cons_append, while_split]
/-- What stands ahead of the first token, and the token. -/
theorem lexR_gap : ∀ (n : Nat) (l : List UInt8) (q : Nat) (ts : List Tok), l.length < n → lexR l q = .ok ts →
    (ts = [] ∧ ∃ f, scanG false l = some f) ∨
    (∃ t r g, ts = t :: r ∧ t.f3 = ((q + g : Nat) : Int) ∧ scanG false (l.take g) = some false ∧ 0 < (spellT t).length ∧ l.drop g = spellT t ++ l.drop (g + (spellT t).length) ∧ lexR (l.drop (g + (spellT t).length)) (q + g + (spellT t).length) = .ok r)
  | 0, _, _, _, h, _ => absurd h (Nat.not_lt_zero _)
  | n + 1, [], q, ts, _, h => by
    rw [lexR_nil] at h; injection h with h
    exact .inl ⟨h.symm, false, rfl⟩
  | n + 1, c :: cs, q, ts, hn, h => by
    have hn' : cs.length < n := by simpa using hn
    rw [lexR_cons] at h
    split at h
    · rename_i h1
      rcases lexR_gap n _ _ _ hn' h with ⟨rfl, f, hf⟩ | ⟨t, r, g, rfl, e1, e2, e3, e4, e5⟩
      · exact .inl ⟨rfl, f, by rw [scanG_space c cs h1, hf]⟩
      · refine .inr ⟨t, r, g + 1, rfl, by rw [e1]; congr 1; omega, by rw [List.take_succ_cons, scanG_space _ _ h1, e2], e3, ?_, ?_⟩
        · rw [List.drop_succ_cons, show g + 1 + (spellT t).length = g + (spellT t).length + 1 by omega, List.drop_succ_cons, ← e4]
        · rw [show g + 1 + (spellT t).length = g + (spellT t).length + 1 by omega, List.drop_succ_cons, show q + (g + 1) + (spellT t).length = q + 1 + g + (spellT t).length by omega, e5]
    split at h
    · split at h
      · obtain ⟨r, hr, rfl⟩ := cons1_ok h
        have hs : spellT ⟨1, bs (c :: cs.takeWhile isPart), 0, q⟩ = c :: cs.takeWhile isPart := rfl
        refine .inr ⟨_, r, 0, rfl, rfl, rfl, ?_, ?_, ?_⟩
        · rw [hs]; simp
        · rw [hs, Nat.zero_add, List.drop_zero]; exact cons_take_drop c cs isPart
        · rw [hs, Nat.zero_add, List.length_cons, List.drop_succ_cons, ← drop_while_drop, show q + 0 + ((cs.takeWhile isPart).length + 1) = q + 1 + (cs.takeWhile isPart).length by omega, hr]
      · cases h
    split at h
    · rename_i h3
      split at h
      · rename_i hok
        obtain ⟨r, hr, rfl⟩ := cons1_ok h
        have hdig : digits (c :: cs.takeWhile isDig) := by
          intro x hx
          rcases List.mem_cons.1 hx with rfl | hx
          · exact kl_digit _ h3
          · have := mem_while _ _ _ hx
            exact kl_digit _ (by unfold isDig at this; simpa using this)
        have hs : spellT ⟨2, bs [], numVal (c :: cs.takeWhile isDig), q⟩ = c :: cs.takeWhile isDig := by
          unfold spellT
          rw [if_pos rfl]
          show Lib.decDigits (numVal (c :: cs.takeWhile isDig)) = _
          refine (dec_iff _ hdig (by simp)).2 ?_
          unfold okNum at hok
          simp only [Bool.and_eq_true, Bool.or_eq_true, beq_iff_eq, bne_iff_ne] at hok
          exact hok.1
        refine .inr ⟨_, r, 0, rfl, rfl, rfl, ?_, ?_, ?_⟩
        · rw [hs]; simp
        · rw [hs, Nat.zero_add, List.drop_zero]; exact cons_take_drop c cs isDig
        · rw [hs, Nat.zero_add, List.length_cons, List.drop_succ_cons, ← drop_while_drop, show q + 0 + ((cs.takeWhile isDig).length + 1) = q + 1 + (cs.takeWhile isDig).length by omega, hr]
      · cases h
    split at h
    · split at h
      · rename_i h47
        obtain ⟨hc, hh⟩ := h47
        subst hc
        have hsp := while_split (fun b => b != 10) cs
        have hall : ((cs.takeWhile fun b => b != 10).all fun b => b != 10) = true := by
          rw [List.all_eq_true]; exact fun x hx => mem_while _ _ x hx
        have hT : ∃ T, (cs.takeWhile fun b => b != 10) = 47 :: T := by
          cases cs with
          | nil => simp at hh
          | cons b r =>
            have : b = 47 := by simpa using hh
            subst this
            exact ⟨_, List.takeWhile_cons_of_pos (by decide)⟩
        obtain ⟨T, hT⟩ := hT
        have hgo : ∀ X, scanG false (47 :: ((cs.takeWhile fun b => b != 10) ++ X)) = scanG true X := by
          intro X
          rw [scanG, if_pos (by rw [hT]; rfl), scanG_true _ _ hall]
        cases hR : cs.dropWhile fun b => b != 10 with
        | nil =>
          rw [hR, lexR_nil] at h
          injection h with h
          rw [hR] at hsp
          refine .inl ⟨h.symm, true, ?_⟩
          rw [← hsp, hgo]; rfl
        | cons b R =>
          have hb : b = 10 := by
            have := List.head?_dropWhile_not (fun b : UInt8 => b != 10) cs
            rw [hR] at this
            simpa using this
          subst hb
          rw [hR, lexR_cons, if_pos (by decide)] at h
          rw [hR] at hsp
          have hlen : (cs.takeWhile fun b => b != 10).length + (R.length + 1) = cs.length := by rw [← List.length_cons, ← List.length_append, hsp]
          have hcs : ∀ m, (47 :: cs).drop ((cs.takeWhile fun b => b != 10).length + 2 + m) = R.drop m := by
            intro m
            rw [show (cs.takeWhile fun b => b != 10).length + 2 + m = ((cs.takeWhile fun b => b != 10).length + (m + 1)) + 1 by omega, List.drop_succ_cons, ← List.drop_drop, ← drop_while_drop, hR, List.drop_succ_cons]
          rcases lexR_gap n _ _ _ (by omega) h with ⟨rfl, f, hf⟩ | ⟨t, r, g, rfl, e1, e2, e3, e4, e5⟩
          · refine .inl ⟨rfl, f, ?_⟩
            rw [← hsp, hgo, scanG_ten, hf]
          · refine .inr ⟨t, r, (cs.takeWhile fun b => b != 10).length + 2 + g, rfl, by rw [e1]; congr 1; omega, ?_, e3, ?_, ?_⟩
            · have : (47 :: cs).take ((cs.takeWhile fun b => b != 10).length + 2 + g) = 47 :: ((cs.takeWhile fun b => b != 10) ++ 10 :: R.take g) := by
                rw [show (cs.takeWhile fun b => b != 10).length + 2 + g = ((cs.takeWhile fun b => b != 10).length + (g + 1)) + 1 by omega, List.take_succ_cons, List.take_add, take_while, ← drop_while_drop, hR, List.take_succ_cons]
              rw [this, hgo, scanG_ten, e2]
            · rw [hcs g, show (cs.takeWhile fun b => b != 10).length + 2 + g + (spellT t).length = (cs.takeWhile fun b => b != 10).length + 2 + (g + (spellT t).length) by omega, hcs, ← e4]
            · rw [show (cs.takeWhile fun b => b != 10).length + 2 + g + (spellT t).length = (cs.takeWhile fun b => b != 10).length + 2 + (g + (spellT t).length) by omega, hcs]
              rw [show q + ((cs.takeWhile fun b => b != 10).length + 2 + g) + (spellT t).length = q + 1 + (cs.takeWhile fun b => b != 10).length + 1 + g + (spellT t).length by omega, e5]
      · obtain ⟨r, hr, rfl⟩ := cons1_ok h
        have hs : spellT ⟨3, bs [c], 0, q⟩ = [c] := rfl
        refine .inr ⟨_, r, 0, rfl, rfl, rfl, ?_, ?_, ?_⟩
        · rw [hs]; simp
        · rw [hs]; rfl
        · rw [hs]; exact hr
    · cases h
end Go.Proofs.YtomglbjcfcijkaaDoor.PLx

namespace Go.Proofs.YtomglbjcfcijkaaDoor.PLx
open Go.RowKit Go.Proofs.YtomglbjcfcijkaaDoorW.PrintWords Go.Proofs.YtomglbjcfcijkaaDoorW.PrintLast Go.Proofs.YtomglbjcfcijkaaDoorW.PrintMore

theorem dec_digits : ∀ (u : Nat), digits (Lib.decDigits u) ∧ numVal (Lib.decDigits u) = u := by
  intro u
  induction u using Nat.strongRecOn with
  | _ u ih =>
    rw [Lib.decDigits]
    split
    · rename_i h
      have hx : (UInt8.ofNat (48 + u)).toNat = 48 + u := by simp; omega
      refine ⟨fun c hc => ?_, ?_⟩
      · have : c = UInt8.ofNat (48 + u) := by simpa using hc
        rw [this, hx]; omega
      · show 10 * 0 + ((UInt8.ofNat (48 + u)).toNat - 48) = u
        rw [hx]; omega
    · rename_i h
      obtain ⟨h1, h2⟩ := ih (u / 10) (by omega)
      have hx : (UInt8.ofNat (48 + u % 10)).toNat = 48 + u % 10 := by simp; omega
      refine ⟨fun c hc => ?_, ?_⟩
      · rcases List.mem_append.1 hc with hc | hc
        · exact h1 c hc
        · have : c = UInt8.ofNat (48 + u % 10) := by simpa using hc
          rw [this, hx]; omega
      · rw [numVal_snoc, h2, hx]; omega
theorem kl_of_digit (c : UInt8) (h : 48 ≤ c.toNat ∧ c.toNat ≤ 57) : kl c = 3 := by
  have : ∀ n : Nat, n < 256 → 48 ≤ n ∧ n ≤ 57 → cls (n : Int) = 3 := by decide +kernel
  exact this c.toNat c.toNat_lt h
theorem dec_ok (u : Nat) (h : u ≤ 1099511627776) : okNum (Lib.decDigits u) = true := by
  obtain ⟨h1, h2⟩ := dec_digits u
  unfold okNum
  rw [h2, Bool.and_eq_true, decide_eq_true_eq]
  refine ⟨?_, h⟩
  rcases dec_lead u with h3 | ⟨_, h3, _⟩
  · rw [h3]; rfl
  · rw [Bool.or_eq_true]; right; rw [bne_iff_ne]; exact h3
theorem dec_ne (u : Nat) : ∃ c cs, Lib.decDigits u = c :: cs := by
  cases h : Lib.decDigits u with
  | nil =>
    rcases dec_lead u with h1 | ⟨_, _, h1⟩
    · rw [h] at h1; cases h1
    · exact absurd h h1
  | cons c cs => exact ⟨c, cs, rfl⟩
/-- What may stand behind a token's text. -/
def Stops (r : List UInt8) : Prop := r = [] ∨ ∃ c s, r = c :: s ∧ kl c = 1
theorem stops_part {r : List UInt8} (h : Stops r) (P : UInt8 → Bool) (hP : ∀ c, kl c = 1 → P c = false) : ∀ a ∈ r.head?, P a = false := by
  rcases h with rfl | ⟨c, s, rfl, hk⟩
  · intro a ha; simp at ha
  · intro a ha
    have : a = c := by simpa using ha.symm
    subst this; exact hP _ hk
theorem part_space (c : UInt8) (h : kl c = 1) : isPart c = false := by unfold isPart; rw [h]; rfl
theorem dig_space (c : UInt8) (h : kl c = 1) : isDig c = false := by unfold isDig; rw [h]; rfl
theorem wordOf_spell (t : Tok) (h : validT t = true) : wordOf t = spellT t := by
  unfold wordOf spellT
  by_cases h2 : t.f0 = 2
  · rw [if_pos h2, if_pos h2]
    have hb : 0 ≤ t.f2 ∧ t.f2 ≤ 1099511627776 := by
      unfold validT at h
      rw [if_neg (by omega), if_pos h2] at h
      simp only [Bool.and_eq_true, decide_eq_true_eq] at h
      exact ⟨h.1.2, h.2⟩
    exact digs_dec 19 _ (by omega)
  · rw [if_neg h2, if_neg h2]
/-- A valid token's text is lexed as this token. -/
theorem word_lex (t : Tok) (h : validT t = true) (r : List UInt8) (hr : Stops r) (q : Nat) :
    ∃ t' : Tok, sameTok t t' = true ∧ lexR (spellT t ++ r) q = cons1 t' (lexR r (q + (spellT t).length)) := by
  obtain ⟨T0, T1, T2, T3⟩ := t
  unfold validT at h
  simp only at h
  split at h
  · rename_i h1
    subst h1
    have hs : spellT ⟨1, T1, T2, T3⟩ = T1.data.toList := rfl
    simp only [Bool.and_eq_true, beq_iff_eq] at h
    obtain ⟨hn, rfl⟩ := h
    rw [hs]
    cases hl : T1.data.toList with
    | nil => rw [hl] at hn; cases hn
    | cons c cs =>
      rw [hl] at hn
      have h' : (decide (cs.length < 32) && kl c == 2 && cs.all isPart) = true := hn
      simp only [Bool.and_eq_true, decide_eq_true_eq, beq_iff_eq] at h'
      obtain ⟨⟨h1, h2⟩, h3⟩ := h'
      obtain ⟨h4, h5⟩ := while_all isPart cs h3
      obtain ⟨e1, e2⟩ := while_take isPart cs r (.inr (stops_part hr _ part_space))
      refine ⟨⟨1, bs (c :: cs), 0, q⟩, ?_, ?_⟩
      · simp [sameTok, bs, hl]
      · rw [List.cons_append, lexR_cons, if_neg (by omega), if_pos h2, e1, e2, h4, h5, if_pos h1, List.nil_append, List.length_cons, show q + (cs.length + 1) = q + 1 + cs.length by omega]
  split at h
  · rename_i h1 h2
    subst h2
    simp only [Bool.and_eq_true, decide_eq_true_eq, List.isEmpty_iff] at h
    obtain ⟨⟨he, h0⟩, hb⟩ := h
    obtain ⟨n, rfl⟩ := Int.eq_ofNat_of_zero_le h0
    have hs : spellT ⟨2, T1, (n : Int), T3⟩ = Lib.decDigits n := rfl
    rw [hs]
    obtain ⟨hd, hv⟩ := dec_digits n
    have hok := dec_ok n (by omega)
    obtain ⟨c, cs, hl⟩ := dec_ne n
    rw [hl] at hd hv hok ⊢
    have h3 : cs.all isDig = true := by
      rw [List.all_eq_true]
      intro x hx
      unfold isDig
      rw [kl_of_digit x (hd x (List.mem_cons_of_mem _ hx))]; rfl
    obtain ⟨h4, h5⟩ := while_all isDig cs h3
    obtain ⟨e1, e2⟩ := while_take isDig cs r (.inr (stops_part hr _ dig_space))
    have hk := kl_of_digit c (hd c List.mem_cons_self)
    refine ⟨⟨2, bs [], n, q⟩, ?_, ?_⟩
    · simp [sameTok, bs, he]
    · rw [List.cons_append, lexR_cons, if_neg (by omega), if_neg (by omega), if_pos hk, e1, e2, h4, h5, if_pos hok, hv, List.nil_append, List.length_cons, show q + (cs.length + 1) = q + 1 + cs.length by omega]
  split at h
  · rename_i h1 h2 h3
    subst h3
    have hs : spellT ⟨3, T1, T2, T3⟩ = T1.data.toList := rfl
    rw [hs]
    simp only [Bool.and_eq_true, beq_iff_eq] at h
    obtain ⟨hn, rfl⟩ := h
    match hl : T1.data.toList, hn with
    | [c], hn =>
      have hk : kl c = 4 := by simpa using hn
      refine ⟨⟨3, bs [c], 0, q⟩, ?_, ?_⟩
      · simp [sameTok, bs, hl]
      · have hq : ¬ (c = 47 ∧ r.head? = some 47) := by
          rintro ⟨_, hh⟩
          rcases hr with rfl | ⟨d, s, rfl, hd⟩
          · simp at hh
          · have : d = 47 := by simpa using hh
            subst this
            exact absurd hd (by decide)
        rw [List.cons_append, List.nil_append, lexR_cons, if_neg (by omega), if_neg (by omega), if_neg (by omega), if_pos hk, if_neg hq]; rfl
  · cases h
theorem sameToks_refl : ∀ l : List Tok, sameToks l l = true
  | [] => rfl
  | t :: l => by rw [sameToks, sameToks_refl l]; simp [sameTok]
/-- Tokens come back from their text. -/
theorem text_lex : ∀ (l : List Tok) (q : Nat), (∀ t ∈ l, validT t = true) → ∃ ts, lexR (joinW (l.map wordOf)) q = .ok ts ∧ sameToks l ts = true
  | [], q, _ => ⟨[], rfl, rfl⟩
  | [t], q, h => by
    obtain ⟨t', h1, h2⟩ := word_lex t (h t List.mem_cons_self) [] (.inl rfl) q
    refine ⟨[t'], ?_, by rw [sameToks, h1]; rfl⟩
    show lexR (wordOf t) q = _
    rw [wordOf_spell t (h t List.mem_cons_self)]
    rw [List.append_nil] at h2
    rw [h2]; rfl
  | t :: u :: l, q, h => by
    have hv := h t List.mem_cons_self
    obtain ⟨t', h1, h2⟩ := word_lex t hv (32 :: joinW ((u :: l).map wordOf)) (.inr ⟨_, _, rfl, by decide⟩) q
    obtain ⟨ts, h3, h4⟩ := text_lex (u :: l) (q + (spellT t).length + 1) (fun x hx => h x (List.mem_cons_of_mem _ hx))
    refine ⟨t' :: ts, ?_, by rw [sameToks, h1, h4]; rfl⟩
    show lexR (wordOf t ++ 32 :: joinW ((u :: l).map wordOf)) q = _
    rw [wordOf_spell t hv, h2, lexR_cons, if_pos (by decide), h3]; rfl
theorem textOf_lex (l : List Tok) (h : ∀ t ∈ l, validT t = true) : ∃ ts, lexOf (textOf l) = .ok ts ∧ sameToks l ts = true := by
  rw [lexOf_R]; exact text_lex l 0 h
theorem dec_len (u : Nat) (h : u ≤ 1099511627776) : (Lib.decDigits u).length ≤ 20 := by
  rw [← digs_dec 19 u (by omega)]
  have : ∀ k u, (digs k u).length ≤ k := by
    intro k
    induction k with
    | zero => intro u; exact Nat.le_refl _
    | succ k ih =>
      intro u
      rw [digs]
      split
      · simp
      · rw [List.length_append]; have := ih (u / 10); simp; omega
  exact this 20 u
theorem word_len (t : Tok) : (wordOf t).length ≤ t.f1.size + 20 := by
  have : ∀ k u, (digs k u).length ≤ k := by
    intro k
    induction k with
    | zero => intro u; exact Nat.le_refl _
    | succ k ih =>
      intro u
      rw [digs]
      split
      · simp
      · rw [List.length_append]; have := ih (u / 10); simp; omega
  unfold wordOf
  split
  · have := this 20 t.f2.toNat; omega
  · rw [size_data]; omega
/-- How long a text may be. -/
theorem text_len : ∀ l : List Tok, (textOf l).length ≤ (l.map fun t => (wordOf t).length + 1).sum
  | [] => by simp [textOf, joinW]
  | [t] => by simp [textOf, joinW]
  | t :: u :: l => by
    have := text_len (u :: l)
    unfold textOf at this ⊢
    simp only [List.map_cons, joinW, List.length_append, List.length_cons, List.sum_cons] at this ⊢
    omega
theorem lexR_len : ∀ (n : Nat) (l : List UInt8) (q : Nat) (ts : List Tok), l.length < n → lexR l q = .ok ts → (ts.map fun t => (wordOf t).length + 1).sum ≤ 2 * l.length
  | 0, _, _, _, h, _ => absurd h (Nat.not_lt_zero _)
  | n + 1, l, q, ts, hn, h => by
    rcases lexR_gap _ l q ts (Nat.lt_succ_self _) h with ⟨rfl, _⟩ | ⟨t, r, g, rfl, e1, e2, e3, e4, e5⟩
    · simp
    · have hv := lexR_valid _ l q _ (Nat.lt_succ_self _) h t List.mem_cons_self
      have hlen := congrArg List.length e4
      rw [List.length_append, List.length_drop, List.length_drop] at hlen
      have ih := lexR_len n _ _ _ (by rw [List.length_drop]; omega) e5
      rw [List.length_drop] at ih
      rw [List.map_cons, List.sum_cons, wordOf_spell t hv]
      omega
theorem Text_ok {l : List Tok} (h : ∀ t ∈ l, validT t = true) (hl : l.length ≤ 1099511627776) (hs : (textOf l).length ≤ 1099511627776) : lex_Text.f l = some (bs (textOf l), 0) := by
  unfold lex_Text.f
  rw [if_neg (by unfold textMost; omega), if_pos (by rw [List.all_eq_true]; exact h), if_pos (by unfold textMost; omega)]
theorem Text_bad {l : List Tok} (h : l.all validT = false) (hl : l.length ≤ 1099511627776) : lex_Text.f l = some (bs [], 90) := by
  unfold lex_Text.f
  rw [if_neg (by unfold textMost; omega), if_neg (by rw [h]; simp)]
end Go.Proofs.YtomglbjcfcijkaaDoor.PLx
