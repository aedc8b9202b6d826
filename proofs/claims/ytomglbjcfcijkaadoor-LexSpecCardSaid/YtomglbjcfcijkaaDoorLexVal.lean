/- A TOKEN's VALIDITY: the printed lex.Name and lex.valid, in plain words. -/
import Derived.Test.YtomglbjcfcijkaaDoorPLxxR
import Derived.Lib.Strings
namespace Go.Proofs.YtomglbjcfcijkaaDoor.PLx
open Go.RowKit Go.Proofs.YtomglbjcfcijkaaDoorW.PrintWords Go.Proofs.YtomglbjcfcijkaaDoorW.PrintLast Go.Proofs.YtomglbjcfcijkaaDoorW.PrintMore

theorem toList_eq (s : ByteArray) : s.toList = s.data.toList := Lib.toList_data s
theorem bt_nat (s : ByteArray) (i : Nat) (h : i < s.size) : bt s (i : Int) = (s[i].toNat : Int) := (bt_at s i h).symm
theorem class_bt (s : ByteArray) (i : Nat) (h : i < s.size) : lex_class.f (bt s (i : Int)) = some (kl s[i]) := by
  rw [bt_nat s i h]
  unfold lex_class.f kl
  rw [if_pos ⟨by omega, by have := s[i].toNat_lt; omega⟩]
theorem data_drop (src : ByteArray) (n : Nat) (h : n < src.size) : src.data.toList.drop n = src[n] :: src.data.toList.drop (n + 1) := by
  rw [List.drop_eq_getElem_cons (by simpa using h)]; rfl
theorem size_data (s : ByteArray) : s.data.toList.length = s.size := by rw [Array.length_toList]; rfl

theorem name_l0 (s : ByteArray) (hs : s.size ≤ 1099511627776) : ∀ (d k i : Nat), i + d = s.size → d < k → lex_Name.l0 k s (s.size : Int) (i : Int) = some ((s.data.toList.drop i).all isPart) := by
  intro d
  induction d with
  | zero =>
    intro k i hi hk
    obtain ⟨k, rfl⟩ : ∃ m, k = m + 1 := ⟨k - 1, by omega⟩
    simp only [lex_Name.l0]
    rw [if_neg (by omega), List.drop_of_length_le (by rw [size_data]; omega)]; rfl
  | succ d ih =>
    intro k i hi hk
    obtain ⟨k, rfl⟩ : ∃ m, k = m + 1 := ⟨k - 1, by omega⟩
    have hlt : i < s.size := by omega
    have hw : wrap64 ((i : Int) + 1) = ((i + 1 : Nat) : Int) := by unfold wrap64; omega
    have hi1 := ih k (i + 1) (by omega) (by omega)
    simp only [lex_Name.l0]
    rw [if_pos (by omega), if_pos (by omega), if_pos (by omega), class_bt s i hlt, Option.bind_some, hw, hi1, data_drop s i hlt, List.all_cons]
    unfold isPart
    by_cases h2 : kl s[i] = 2
    · simp [h2]
    · by_cases h3 : kl s[i] = 3
      · simp [h3]
      · by_cases h5 : kl s[i] = 5
        · simp [h5]
        · simp [h2, h3, h5]

theorem name_f (s : ByteArray) (k : Nat) (hk : s.size + 2 ≤ k) : lex_Name.f k s = some (isName s.data.toList) := by
  obtain ⟨k, rfl⟩ : ∃ m, k = m + 1 := ⟨k - 1, by omega⟩
  have hsz := size_data s
  unfold lex_Name.f
  rw [toList_eq]
  by_cases h0 : s.data.toList = []
  · rw [if_pos h0, h0]; rfl
  · have hpos : 0 < s.size := by rw [← hsz]; exact List.length_pos_iff.2 h0
    have hd := data_drop s 0 hpos
    rw [List.drop_zero] at hd
    have hl : (s.data.toList.drop (0 + 1)).length = s.size - 1 := by rw [List.length_drop, hsz]
    rw [if_neg h0]
    by_cases h32 : s.size > 32
    · rw [if_pos (by omega)]
      simp only [lex_Name.j0, if_true]
      rw [hd]
      unfold isName
      simp only [hl]
      rw [decide_eq_false (by omega)]; rfl
    · have hall := name_l0 s (by omega) s.size k 0 (by omega) (by omega)
      rw [List.drop_zero] at hall
      rw [if_neg (by omega), if_pos (by omega)]
      have hc := class_bt s 0 hpos
      have hc' : lex_class.f (bt s 0) = some (kl s[0]) := hc
      rw [hc', Option.bind_some]
      by_cases h2 : kl s[0] = 2
      · have hne : (kl s[0] != 2) = false := by simp [h2]
        rw [hne]
        simp only [lex_Name.j0, Bool.false_eq_true, if_false]
        have hall' : lex_Name.l0 k s (s.size : Int) 0 = some (s.data.toList.all isPart) := hall
        rw [hall', hd]
        unfold isName
        simp only [hl]
        rw [decide_eq_true (by omega), List.all_cons]
        have : isPart s[0] = true := by unfold isPart; simp [h2]
        rw [this]
        simp [h2]
      · have hne : (kl s[0] != 2) = true := by simp [h2]
        rw [hne]
        simp only [lex_Name.j0, if_true]
        rw [hd]
        unfold isName
        simp [h2]

theorem valid_f (t : Tok) (k : Nat) (hk : t.f1.size + 2 ≤ k) : lex_valid.f k t.f0 t.f1 t.f2 t.f3 = some (validT t) := by
  have hsz := size_data t.f1
  unfold lex_valid.f validT
  rw [toList_eq]
  by_cases h1 : t.f0 = 1
  · rw [if_pos h1, if_pos h1, name_f _ k hk, Option.bind_some]
    cases isName t.f1.data.toList <;> simp
  rw [if_neg h1, if_neg h1]
  by_cases h2 : t.f0 = 2
  · rw [if_pos h2, if_pos h2]
    by_cases he : t.f1.data.toList = []
    · rw [if_pos he, he]
      by_cases h3 : t.f2 ≥ 0
      · rw [if_pos h3]; simp [h3]
      · rw [if_neg h3]; simp [h3]
    · rw [if_neg he]
      have : t.f1.data.toList.isEmpty = false := by simpa using he
      simp [this]
  rw [if_neg h2, if_neg h2]
  by_cases h3 : t.f0 = 3
  · rw [if_pos h3, if_pos h3]
    by_cases h4 : t.f1.size = 1
    · have hpos : 0 < t.f1.size := by omega
      have hd := data_drop t.f1 0 hpos
      rw [List.drop_zero, List.drop_of_length_le (by omega)] at hd
      have hc' : lex_class.f (bt t.f1 0) = some (kl t.f1[0]) := class_bt t.f1 0 hpos
      rw [if_pos (by omega), if_pos (by omega), hc', Option.bind_some, hd]
      by_cases h5 : kl t.f1[0] = 4
      · rw [if_pos h5]; simp [h5]
      · rw [if_neg h5]; simp [h5]
    · rw [if_neg (by omega)]
      match hl : t.f1.data.toList, hsz with
      | [], _ => simp
      | [c], hsz => exact absurd hsz.symm h4
      | c :: d :: r, _ => simp
  · rw [if_neg h3, if_neg h3]

theorem valid_all (t : Tok) (w : World) : Calls Tryd.prog 46 #[.agg #[.int .i64 t.f0, .string t.f1, .int .i64 t.f2, .int .i64 t.f3]] w fun e w' => e = .returned (.bool (validT t)) ∧ Below w.heap.size w w' :=
  lex_valid.calls (t.f1.size + 2) t.f0 t.f1 t.f2 t.f3 _ w (valid_f t _ (Nat.le_refl _))
theorem valid_any (t : Tok) (_hs : t.f1.size ≤ 1099511627776) (w : World) : Calls Tryd.prog 46 #[.agg #[.int .i64 t.f0, .string t.f1, .int .i64 t.f2, .int .i64 t.f3]] w fun e w' => e = .returned (.bool (validT t)) ∧ Below w.heap.size w w' := valid_all t w
end Go.Proofs.YtomglbjcfcijkaaDoor.PLx
