/- THE REFERENCE's FUNCTIONS, AS PLAIN FUNCTIONS: they answer as the lexer's own model does. -/
import Derived.Test.YtomglbjcfcijkaaDoorPLxx6
import Derived.Test.YtomglbjcfcijkaaDoorLexSame
import Derived.Test.YtomglbjcfcijkaaDoorPackRef
import Derived.Test.YtomglbjcfcijkaaDoorPackErr
import Derived.Test.YtomglbjcfcijkaaDoorPLxx0
import Derived.Outline
import Derived.Deep.RegionLaw
import Derived.BigQuiet
namespace Go.Proofs.YtomglbjcfcijkaaDoor.PLx
open Go.RowKit Go.Proofs.YtomglbjcfcijkaaDoorW.PrintWords Go.Proofs.YtomglbjcfcijkaaDoorW.PrintLast Go.Proofs.YtomglbjcfcijkaaDoorW.PrintMore

theorem letter_ref (c : UInt8) : sizarref09_Letter.f (c.toNat : Int) = some (decide (kl c = 2)) := by
  have : ∀ n : Nat, n < 256 → sizarref09_Letter.f (n : Int) = some (decide (cls (n : Int) = 2)) := by decide +kernel
  exact this c.toNat c.toNat_lt
theorem figure_ref (c : UInt8) : sizarref09_Figure.f (c.toNat : Int) = some (decide (kl c = 3)) := by
  have : ∀ n : Nat, n < 256 → sizarref09_Figure.f (n : Int) = some (decide (cls (n : Int) = 3)) := by decide +kernel
  exact this c.toNat c.toNat_lt
theorem part_ref (c : UInt8) : sizarref09_part.f (c.toNat : Int) = some (isPart c) := by
  have : ∀ n : Nat, n < 256 → sizarref09_part.f (n : Int) = some (cls (n : Int) == 2 || cls (n : Int) == 3 || cls (n : Int) == 5) := by decide +kernel
  exact this c.toNat c.toNat_lt
theorem sign_ref (c : UInt8) : sizarref09_Sign.f (c.toNat : Int) = some (decide (kl c = 4)) := by
  have : ∀ n : Nat, n < 256 → sizarref09_Sign.f (n : Int) = some (decide (cls (n : Int) = 4)) := by decide +kernel
  exact this c.toNat c.toNat_lt
theorem rname_loop (s : ByteArray) (hs : s.size ≤ 32) : ∀ (d i K : Nat), i + d = s.size → d < K → sizarref09_Name.l0 K s (i : Int) = some ((s.data.toList.drop i).all isPart)
  | 0, i, K, hi, hK => by
    obtain ⟨K, rfl⟩ : ∃ m, K = m + 1 := ⟨K - 1, by omega⟩
    simp only [sizarref09_Name.l0]
    rw [if_neg (by omega), List.drop_of_length_le (by rw [size_data]; omega)]; rfl
  | d + 1, i, K, hi, hK => by
    obtain ⟨K, rfl⟩ : ∃ m, K = m + 1 := ⟨K - 1, by omega⟩
    have hlt : i < s.size := by omega
    have hw : wrap64 ((i : Int) + 1) = ((i + 1 : Nat) : Int) := by unfold wrap64; omega
    simp only [sizarref09_Name.l0, bt_nat s i hlt, part_ref, Option.bind_some, hw]
    rw [if_pos (by omega), if_pos (by omega), data_drop s i hlt, List.all_cons]
    cases hp : isPart s[i]
    · simp
    · rw [if_pos rfl, rname_loop s hs d (i + 1) K (by omega) (by omega), Bool.true_and]
theorem rname_f (s : ByteArray) (K : Nat) (hK : 40 ≤ K) : sizarref09_Name.f K s = some (isName s.data.toList) := by
  obtain ⟨K, rfl⟩ : ∃ m, K = m + 1 := ⟨K - 1, by omega⟩
  have hsz := size_data s
  unfold sizarref09_Name.f
  simp only [sizarref09_Name.j0, if_true]
  by_cases h1 : (s.size : Int) < 1
  · rw [if_pos h1]
    have : s.data.toList = [] := List.length_eq_zero_iff.1 (by omega)
    rw [this]; rfl
  rw [if_neg h1]
  have hpos : 0 < s.size := by omega
  have hd := data_drop s 0 hpos
  rw [List.drop_zero] at hd
  have hl : (s.data.toList.drop (0 + 1)).length = s.size - 1 := by rw [List.length_drop, hsz]
  by_cases h32 : (s.size : Int) > 32
  · rw [if_pos h32, hd]
    unfold isName
    simp only [hl]
    rw [decide_eq_false (by omega)]; rfl
  rw [if_neg h32, if_pos (by omega)]
  have hb : bt s 0 = (s[0].toNat : Int) := bt_nat s 0 hpos
  rw [hb, letter_ref, Option.bind_some]
  have hloop : sizarref09_Name.l0 K s 0 = some (s.data.toList.all isPart) := by
    have := rname_loop s (by omega) s.size 0 K (by omega) (by omega)
    rw [List.drop_zero] at this
    exact this
  have hdec : decide (s.size - 1 < 32) = true := decide_eq_true (by omega)
  have hall : s.data.toList.all isPart = (isPart s[0] && (s.data.toList.drop (0 + 1)).all isPart) := by rw [hd, List.all_cons]; simp
  have hname : isName s.data.toList = (decide (s.size - 1 < 32) && kl s[0] == 2 && (s.data.toList.drop (0 + 1)).all isPart) := by
    rw [← hl]
    conv => lhs; rw [hd]
    rfl
  rw [hloop, hname, hall, hdec]
  by_cases h2 : kl s[0] = 2
  · have : isPart s[0] = true := by unfold isPart; simp [h2]
    rw [this]; simp [h2]
  · simp [h2]
theorem rvalid_f (t : Tok) (K : Nat) (hK : 40 ≤ K) : sizarref09_Valid.f K t.f0 t.f1 t.f2 t.f3 = some (validT t) := by
  have hsz := size_data t.f1
  unfold sizarref09_Valid.f validT
  rw [toList_eq]
  by_cases h1 : t.f0 = 1
  · rw [if_pos h1, if_pos h1, rname_f _ K hK, Option.bind_some]
    cases isName t.f1.data.toList <;> simp
  rw [if_neg h1, if_neg h1]
  by_cases h2 : t.f0 = 2
  · rw [if_pos h2, if_pos h2]
    by_cases he : t.f1.data.toList = []
    · rw [if_pos he, he]
      by_cases h3 : t.f2 ≥ 0
      · rw [if_pos h3]; simp [h3]
      · rw [if_neg h3]; simp [h3]
    · rw [if_neg he]
      have : t.f1.data.toList.isEmpty = false := by simpa using he
      simp [this]
  rw [if_neg h2, if_neg h2]
  by_cases h3 : t.f0 = 3
  · rw [if_pos h3, if_pos h3]
    by_cases h4 : t.f1.size = 1
    · have hpos : 0 < t.f1.size := by omega
      have hd := data_drop t.f1 0 hpos
      rw [List.drop_zero, List.drop_of_length_le (by omega)] at hd
      have hb : bt t.f1 0 = (t.f1[0].toNat : Int) := bt_nat t.f1 0 hpos
      rw [if_pos (by omega), if_pos (by omega), hb, sign_ref, Option.bind_some, hd]
      by_cases h5 : kl t.f1[0] = 4
      · simp [h5]
      · simp [h5]
    · rw [if_neg (by omega)]
      match hl : t.f1.data.toList, hsz with
      | [], _ => simp
      | [c], hsz => exact absurd hsz.symm h4
      | c :: d :: r, _ => simp
  · rw [if_neg h3, if_neg h3]
/-- The digits ahead of the last one. -/
def highD (n : Nat) : List UInt8 := if n < 10 then [] else Lib.decDigits (n / 10)
theorem dec_high (n : Nat) : Lib.decDigits n = highD n ++ [UInt8.ofNat (48 + n % 10)] := by
  rw [Lib.decDigits]
  unfold highD
  split
  · rw [show n % 10 = n by omega]; rfl
  · rfl
theorem decimal_loop : ∀ (m n K : Nat) (acc : ByteArray), n < 10 ^ (m + 1) → m < K → n ≤ 1099511627776 → acc.size + m ≤ 1000000 →
    sizarref09_Decimal.l0 K (n : Int) acc = some (bs (highD n ++ acc.data.toList))
  | m, n, K, acc, hn, hK, hb, ha => by
    obtain ⟨K, rfl⟩ : ∃ k, K = k + 1 := ⟨K - 1, by omega⟩
    have hw : wrap64 (Int.tdiv (n : Int) 10) = ((n / 10 : Nat) : Int) := by
      rw [Int.tdiv_eq_ediv_of_nonneg (by omega)]; unfold wrap64; omega
    have hd : (wrap64 (48 + Int.tmod ((n / 10 : Nat) : Int) 10)) % 256 = ((48 + n / 10 % 10 : Nat) : Int) := by
      rw [Int.tmod_eq_emod_of_nonneg (by omega)]; unfold wrap64; omega
    have hstr : strOfNums [((48 + n / 10 % 10 : Nat) : Int)] = bs [UInt8.ofNat (48 + n / 10 % 10)] := rfl
    have hone : ∀ x : UInt8, (bs [x]).size = 1 := fun x => rfl
    have hcat : ∀ x : UInt8, bs [x] ++ acc = bs (x :: acc.data.toList) := by
      intro x
      apply ByteArray.ext
      simp [ByteArray.data_append, bs]
    simp only [sizarref09_Decimal.l0, hw, hd, hstr, Option.bind_some, hone, hcat]
    by_cases h10 : n < 10
    · rw [if_neg (by omega)]
      unfold highD
      rw [if_pos h10]; rfl
    · rw [if_pos (by omega), if_pos (by omega)]
      cases m with
      | zero => exact absurd hn (by simpa using h10)
      | succ m =>
        have hsz : (bs (UInt8.ofNat (48 + n / 10 % 10) :: acc.data.toList)).size = acc.size + 1 := by
          rw [← size_data, ← size_data]; rfl
        rw [decimal_loop m (n / 10) K _ (by rw [Nat.pow_succ] at hn; omega) (by omega) (by omega) (by omega)]
        have : highD n = highD (n / 10) ++ [UInt8.ofNat (48 + n / 10 % 10)] := by
          rw [← dec_high]
          show (if n < 10 then [] else Lib.decDigits (n / 10)) = _
          rw [if_neg h10]
        rw [this, List.append_assoc]; rfl
theorem decimal_f (n : Nat) (K : Nat) (hn : n ≤ 1099511627776) (hK : 20 ≤ K) : sizarref09_Decimal.f K (n : Int) = some (bs (Lib.decDigits n)) := by
  unfold sizarref09_Decimal.f
  have hd : (wrap64 (48 + Int.tmod (n : Int) 10)) % 256 = ((48 + n % 10 : Nat) : Int) := by
    rw [Int.tmod_eq_emod_of_nonneg (by omega)]; unfold wrap64; omega
  have hstr : strOfNums [((48 + n % 10 : Nat) : Int)] = bs [UInt8.ofNat (48 + n % 10)] := rfl
  rw [hd, hstr, decimal_loop 15 n K _ (by omega) (by omega) hn (by show 1 + 15 ≤ 1000000; omega), dec_high]; rfl
/-- The same tokens, but for places. -/
theorem rsame_loop (a b : List Tok) (hab : a.length = b.length) (ha : a.length ≤ 9223372036854775806) : ∀ (d i K : Nat), i + d = a.length → d < K → sizarref09_Same.l0 K a b (i : Int) = some (sameToks (a.drop i) (b.drop i))
  | 0, i, K, hi, hK => by
    obtain ⟨K, rfl⟩ : ∃ m, K = m + 1 := ⟨K - 1, by omega⟩
    simp only [sizarref09_Same.l0]
    rw [if_neg (by omega), List.drop_of_length_le (by omega), List.drop_of_length_le (by omega)]; rfl
  | d + 1, i, K, hi, hK => by
    obtain ⟨K, rfl⟩ : ∃ m, K = m + 1 := ⟨K - 1, by omega⟩
    have hw : wrap64 ((i : Int) + 1) = ((i + 1 : Nat) : Int) := by unfold wrap64; omega
    have ha1 := at_some a i (by omega)
    have hb1 := at_some b i (by omega)
    rw [sameToks_drop a b i _ _ ha1 hb1]
    have ih := rsame_loop a b hab ha d (i + 1) K (by omega) (by omega)
    have c1 : (i : Int) < (a.length : Int) := by omega
    have c2 : (0 : Int) ≤ (i : Int) := by omega
    have c3 : (i : Int) < (b.length : Int) := by omega
    simp only [sizarref09_Same.l0, if_pos c1, if_pos c2, if_pos c3, hw, ih, toList_eq]
    generalize rd_T35 a (i : Int) = x
    generalize rd_T35 b (i : Int) = y
    unfold sameTok
    by_cases h0 : x.f0 = y.f0
    · rw [if_pos h0]
      by_cases h1 : x.f1.data.toList = y.f1.data.toList
      · rw [if_pos h1]
        by_cases h2 : x.f2 = y.f2
        · rw [if_pos h2, h0, h1, h2]; simp
        · rw [if_neg h2]; simp [h2]
      · rw [if_neg h1]
        have : (x.f1.data.toList == y.f1.data.toList) = false := beq_eq_false_iff_ne.2 h1
        rw [this]; simp
    · rw [if_neg h0]; simp [h0]
theorem rsame_f (a b : List Tok) (ha : a.length ≤ 9223372036854775806) (K : Nat) (hK : a.length + 1 ≤ K) : sizarref09_Same.f K a b = some (sameToks a b) := by
  unfold sizarref09_Same.f
  by_cases h : a.length = b.length
  · rw [if_pos (by omega)]
    exact rsame_loop a b h ha a.length 0 K (by omega) (by omega)
  · rw [if_neg (by omega), sameToks_len a b h]
/-- Few tokens, and short ones. -/
theorem few_loop (l : List Tok) (hl : l.length ≤ 200) (hb : ∀ t ∈ l, t.f1.size ≤ 140737488351232) : ∀ (d i K x : Nat), i + d = l.length → d < K → x ≤ i * 140737488351232 →
    sizarref09_Few.l0 K l (x : Int) (i : Int) = some (decide (x + ((l.drop i).map fun t => t.f1.size).sum ≤ 2000))
  | 0, i, K, x, hi, hK, hx => by
    obtain ⟨K, rfl⟩ : ∃ m, K = m + 1 := ⟨K - 1, by omega⟩
    simp only [sizarref09_Few.l0]
    rw [if_neg (by omega), if_pos (by omega), List.drop_of_length_le (by omega)]
    simp only [List.map_nil, List.sum_nil, Nat.add_zero]
    congr 1
    simp only [decide_eq_decide]; omega
  | d + 1, i, K, x, hi, hK, hx => by
    obtain ⟨K, rfl⟩ : ∃ m, K = m + 1 := ⟨K - 1, by omega⟩
    have hlt : i < l.length := by omega
    have ha := at_some l i hlt
    have hm : (rd_T35 l (i : Int)).f1.size ≤ 140737488351232 := hb _ (List.mem_of_getElem? ha)
    have hd := List.drop_eq_getElem_cons hlt
    rw [List.getElem?_eq_getElem hlt] at ha
    injection ha with ha
    have hw : wrap64 ((i : Int) + 1) = ((i + 1 : Nat) : Int) := by unfold wrap64; omega
    have hx2 : wrap64 ((x : Int) + ((rd_T35 l (i : Int)).f1.size : Int)) = ((x + (rd_T35 l (i : Int)).f1.size : Nat) : Int) := by unfold wrap64; omega
    simp only [sizarref09_Few.l0, hw, hx2]
    rw [if_pos (by omega), if_pos (by omega), few_loop l hl hb d (i + 1) K _ (by omega) (by omega) (by omega), hd, ha]
    simp only [List.map_cons, List.sum_cons, Nat.add_assoc]
theorem few_any (l : List Tok) (hl : l.length ≤ 9223372036854775806) : ∀ (d i K : Nat) (x : Int), i + d = l.length → d < K → 200 < l.length → sizarref09_Few.l0 K l x (i : Int) = some false
  | 0, i, K, x, hi, hK, h2 => by
    obtain ⟨K, rfl⟩ : ∃ m, K = m + 1 := ⟨K - 1, by omega⟩
    simp only [sizarref09_Few.l0]
    rw [if_neg (by omega), if_neg (by omega)]
  | d + 1, i, K, x, hi, hK, h2 => by
    obtain ⟨K, rfl⟩ : ∃ m, K = m + 1 := ⟨K - 1, by omega⟩
    have hw : wrap64 ((i : Int) + 1) = ((i + 1 : Nat) : Int) := by unfold wrap64; omega
    simp only [sizarref09_Few.l0, hw]
    rw [if_pos (by omega), if_pos (by omega), few_any l hl d (i + 1) K _ (by omega) (by omega) h2]
def Few (l : List Tok) : Prop := l.length ≤ 200 ∧ (l.map fun t => t.f1.size).sum ≤ 2000
theorem few_f (l : List Tok) (hl : l.length ≤ 9223372036854775806) (hb : ∀ t ∈ l, t.f1.size ≤ 140737488351232) (K : Nat) (hK : l.length + 1 ≤ K) : ∃ b, sizarref09_Few.f K l = some b ∧ (b = true → Few l) := by
  unfold sizarref09_Few.f
  by_cases h : l.length ≤ 200
  · refine ⟨_, few_loop l h hb l.length 0 K 0 (by omega) (by omega) (by omega), fun hd => ⟨h, ?_⟩⟩
    simpa using hd
  · exact ⟨false, few_any l hl l.length 0 K 0 (by omega) (by omega) (by omega), fun h => by cases h⟩
theorem sum_mem : ∀ (l : List Tok) (t : Tok), t ∈ l → t.f1.size ≤ (l.map fun t => t.f1.size).sum
  | a :: l, t, h => by
    rw [List.map_cons, List.sum_cons]
    rcases List.mem_cons.1 h with rfl | h
    · omega
    · have := sum_mem l t h; omega
theorem few_text {l : List Tok} (h : Few l) : (textOf l).length ≤ 7000 := by
  have h1 := text_len l
  have : ∀ l : List Tok, (l.map fun t => (wordOf t).length + 1).sum ≤ (l.map fun t => t.f1.size).sum + 21 * l.length := by
    intro l
    induction l with
    | nil => simp
    | cons t l ih =>
      have := word_len t
      simp only [List.map_cons, List.sum_cons, List.length_cons]; omega
  have h2 := this l
  have := h.1; have := h.2
  omega
/-- The reference's text. -/
def tailT (l : List Tok) : List UInt8 := (l.map fun t => 32 :: wordOf t).flatten
theorem joinW_tail (t : Tok) : ∀ l : List Tok, joinW ((t :: l).map wordOf) = wordOf t ++ tailT l := by
  intro l
  induction l generalizing t with
  | nil => simp [joinW, tailT]
  | cons u l ih =>
    rw [List.map_cons, List.map_cons, joinW, ← List.map_cons, ih u]
    simp [tailT]
theorem word_f (t : Tok) (hv : validT t = true) (K : Nat) (hK : 20 ≤ K) : t.f0 = 2 → sizarref09_Decimal.f K t.f2 = some (bs (wordOf t)) := by
  intro h2
  have hb : 0 ≤ t.f2 ∧ t.f2 ≤ 1099511627776 := by
    unfold validT at hv
    rw [if_neg (by omega), if_pos h2] at hv
    simp only [Bool.and_eq_true, decide_eq_true_eq] at hv
    exact ⟨hv.1.2, hv.2⟩
  obtain ⟨n, hn⟩ := Int.eq_ofNat_of_zero_le hb.1
  rw [hn, decimal_f n K (by omega) hK]
  unfold wordOf
  rw [if_pos h2, hn]
  exact congrArg (fun x => some (bs x)) (digs_dec 19 n (by omega)).symm
theorem word_else (t : Tok) (h2 : ¬ t.f0 = 2) : t.f1 = bs (wordOf t) := by
  unfold wordOf; rw [if_neg h2]; rfl
theorem rtext_loop (l : List Tok) (hF : Few l) : ∀ (d i K : Nat) (s : ByteArray), i + d = l.length → 0 < i → 50 + d ≤ K → s.size ≤ i * 3000 →
    sizarref09_Text.l0 K l s (i : Int) = some (if (l.drop i).all validT = true then (bs (s.data.toList ++ tailT (l.drop i)), 0) else (bs [], 90))
  | 0, i, K, s, hi, h0, hK, hs => by
    obtain ⟨K, rfl⟩ : ∃ m, K = m + 1 := ⟨K - 1, by omega⟩
    simp only [sizarref09_Text.l0]
    rw [if_neg (by omega), List.drop_of_length_le (by omega), List.all_nil, if_pos rfl]
    simp only [tailT, List.map_nil, List.flatten_nil, List.append_nil]; rfl
  | d + 1, i, K, s, hi, h0, hK, hs => by
    obtain ⟨K, rfl⟩ : ∃ m, K = m + 1 := ⟨K - 1, by omega⟩
    have hlt : i < l.length := by omega
    have h200 := hF.1
    have ha := at_some l i hlt
    have hm := sum_mem l _ (List.mem_of_getElem? ha)
    have h2000 := hF.2
    have hd := List.drop_eq_getElem_cons hlt
    rw [List.getElem?_eq_getElem hlt] at ha
    injection ha with ha
    rw [ha] at hd
    rw [hd]
    have hw : wrap64 ((i : Int) + 1) = ((i + 1 : Nat) : Int) := by unfold wrap64; omega
    have c1 : (i : Int) < (l.length : Int) := by omega
    have c2 : (0 : Int) ≤ (i : Int) := by omega
    have c3 : (i : Int) > 0 := by omega
    have ih := fun s' h' => rtext_loop l hF d (i + 1) K s' (by omega) (by omega) (by omega) h'
    simp only [sizarref09_Text.l0, if_pos c1, if_pos c2, if_pos c3, hw]
    generalize rd_T35 l (i : Int) = t at hm ⊢
    have hval := rvalid_f t K (by omega)
    have hone : (s ++ (⟨#[32]⟩ : ByteArray)).size = s.size + 1 := by rw [ByteArray.size_append]; rfl
    have hwl := word_len t
    have hcat : ∀ w : List UInt8, ((s ++ (⟨#[32]⟩ : ByteArray)) ++ bs w).data.toList = s.data.toList ++ 32 :: w := by
      intro w
      simp [ByteArray.data_append, bs]
    have hsz : ∀ w : List UInt8, ((s ++ (⟨#[32]⟩ : ByteArray)) ++ bs w).size = s.size + 1 + w.length := by
      intro w
      rw [ByteArray.size_append, hone, ← size_data (bs w)]; rfl
    have c4 : s.size + 1 ≤ 9223372036854775807 := by omega
    have c5 : (s ++ (⟨#[32]⟩ : ByteArray)).size + (bs (wordOf t)).size ≤ 9223372036854775807 := by
      rw [hone, ← size_data]; show s.size + 1 + (wordOf t).length ≤ _; omega
    simp only [hval, Option.bind_some, if_pos c4]
    by_cases hv : validT t = true
    case neg => rw [if_neg hv, if_neg (by rw [List.all_cons]; simp [hv])]; rfl
    case pos =>
      have hfin : sizarref09_Text.l0 K l ((s ++ (⟨#[32]⟩ : ByteArray)) ++ bs (wordOf t)) ((i + 1 : Nat) : Int) = some (if (t :: l.drop (i + 1)).all validT = true then (bs (s.data.toList ++ tailT (t :: l.drop (i + 1))), 0) else (bs [], 90)) := by
        rw [ih _ (by rw [hsz]; omega), hcat]
        simp [tailT, hv]
      rw [if_pos hv]
      by_cases h2 : t.f0 = 2
      · rw [if_pos h2, word_f t hv K (by omega) h2, Option.bind_some, if_pos c5, hfin]
      · rw [if_neg h2]
        conv => lhs; rw [word_else t h2]
        rw [if_pos c5, hfin]
theorem rtext_f (l : List Tok) (hF : Few l) (K : Nat) (hK : 300 ≤ K) : sizarref09_Text.f K l = lex_Text.f l := by
  have h200 := hF.1
  have hlen := few_text hF
  have hres : lex_Text.f l = some (if l.all validT = true then (bs (textOf l), 0) else (bs [], 90)) := by
    cases h : l.all validT
    · rw [Text_bad h (by omega)]; rfl
    · rw [Text_ok (by rw [List.all_eq_true] at h; exact h) (by omega) (by omega)]; rfl
  rw [hres]
  unfold sizarref09_Text.f
  obtain ⟨K, rfl⟩ : ∃ m, K = m + 1 := ⟨K - 1, by omega⟩
  cases l with
  | nil => rfl
  | cons t l =>
    have h0 : rd_T35 (t :: l) 0 = t := rfl
    have hm := sum_mem (t :: l) t List.mem_cons_self
    have h2000 := hF.2
    have hval := rvalid_f t K (by omega)
    have hwl := word_len t
    have c1 : (0 : Int) < ((t :: l).length : Int) := by rw [List.length_cons]; omega
    have c3 : ¬ (0 : Int) > 0 := by omega
    have hw : wrap64 ((0 : Int) + 1) = ((1 : Nat) : Int) := by unfold wrap64; omega
    have he : (⟨#[]⟩ : ByteArray).size = 0 := rfl
    have hbs : (bs (wordOf t)).size = (wordOf t).length := by rw [← size_data]; rfl
    have c5 : (⟨#[]⟩ : ByteArray).size + (bs (wordOf t)).size ≤ 9223372036854775807 := by rw [he, hbs]; omega
    have hnil : (⟨#[]⟩ : ByteArray) ++ bs (wordOf t) = bs (wordOf t) := by
      apply ByteArray.ext
      simp [ByteArray.data_append, bs]
    simp only [sizarref09_Text.l0, if_pos c1, if_pos (Int.le_refl (0 : Int)), if_neg c3, hw, h0, hval, Option.bind_some]
    by_cases hv : validT t = true
    case neg => rw [if_neg hv, if_neg (by rw [List.all_cons]; simp [hv])]; rfl
    case pos =>
      have hfin : sizarref09_Text.l0 K (t :: l) ((⟨#[]⟩ : ByteArray) ++ bs (wordOf t)) ((1 : Nat) : Int) = some (if (t :: l).all validT = true then (bs (textOf (t :: l)), 0) else (bs [], 90)) := by
        rw [hnil, rtext_loop (t :: l) hF l.length 1 K _ (by rw [List.length_cons]; omega) (by omega) (by rw [List.length_cons] at h200; omega) (by rw [hbs]; omega)]
        unfold textOf
        rw [joinW_tail]
        simp [bs, hv]
      rw [if_pos hv]
      by_cases h2 : t.f0 = 2
      · rw [if_pos h2, word_f t hv K (by omega) h2, Option.bind_some, if_pos c5, hfin]
      · rw [if_neg h2]
        conv => lhs; rw [word_else t h2]
        rw [if_pos c5, hfin]
end Go.Proofs.YtomglbjcfcijkaaDoor.PLx

namespace Go.Proofs.YtomglbjcfcijkaaDoor.PLx
open Go.RowKit Go.Proofs.YtomglbjcfcijkaaDoorW.PrintWords Go.Proofs.YtomglbjcfcijkaaDoorW.PrintLast Go.Proofs.YtomglbjcfcijkaaDoorW.PrintMore
attribute [local go_sem] max2_int min2_int max_two min_two max_three min_three max_four min_four   -- for this text's walks alone
set_option linter.unusedVariables false
set_option linter.unusedSimpArgs false

/-! ### sizarref09_Space: function 25 -/
def sizarref09_Space.f (a0 : Int) : Option (Bool) := if a0 = 32 then (some true) else (if a0 = 9 then (some true) else (if a0 = 10 then (some true) else (some (a0 == 13))))
set_option maxHeartbeats 8000000 in
set_option maxRecDepth 100000 in
theorem sizarref09_Space.calls (a0 : Int) (r : Bool) (w : World) (h : sizarref09_Space.f a0 = some r) :
    Calls Tryd.prog 25 #[.int .u8 a0] w fun e w' => e = .returned (.bool r) ∧ Drawn0 w w' := by
  have H : (if a0 = 32 then (some true) else (if a0 = 9 then (some true) else (if a0 = 10 then (some true) else (some (a0 == 13))))) = some r := h
  clear h
  by_cases c2 : a0 = 32
  · rw [if_pos c2] at H
    have c2b0 : (a0 == 32) = true := beq_iff_eq.mpr c2
    have c2b1 : (a0 != 32) = false := bne_eq_false_iff_eq.mpr c2
    clear c2
    obtain rfl := Option.some.inj H
    go_enter Tryd.func25, Tryd.ntmps25
    go_wp2
    go_ret
    exact ⟨by first | rfl | (simp; done) | (simp [*]; done), by repeat (first | exact Drawn0.refl _ | apply Drawn0.step)⟩
  · rw [if_neg c2] at H
    have c2b0 : (a0 == 32) = false := beq_eq_false_iff_ne.mpr c2
    have c2b1 : (a0 != 32) = true := bne_iff_ne.mpr c2
    by_cases c3 : a0 = 9
    · rw [if_pos c3] at H
      have c3b0 : (a0 == 9) = true := beq_iff_eq.mpr c3
      have c3b1 : (a0 != 9) = false := bne_eq_false_iff_eq.mpr c3
      clear c3
      obtain rfl := Option.some.inj H
      go_enter Tryd.func25, Tryd.ntmps25
      go_wp2
      go_ret
      exact ⟨by first | rfl | (simp; done) | (simp [*]; done), by repeat (first | exact Drawn0.refl _ | apply Drawn0.step)⟩
    · rw [if_neg c3] at H
      have c3b0 : (a0 == 9) = false := beq_eq_false_iff_ne.mpr c3
      have c3b1 : (a0 != 9) = true := bne_iff_ne.mpr c3
      by_cases c4 : a0 = 10
      · rw [if_pos c4] at H
        have c4b0 : (a0 == 10) = true := beq_iff_eq.mpr c4
        have c4b1 : (a0 != 10) = false := bne_eq_false_iff_eq.mpr c4
        clear c4
        obtain rfl := Option.some.inj H
        go_enter Tryd.func25, Tryd.ntmps25
        go_wp2
        go_ret
        exact ⟨by first | rfl | (simp; done) | (simp [*]; done), by repeat (first | exact Drawn0.refl _ | apply Drawn0.step)⟩
      · rw [if_neg c4] at H
        have c4b0 : (a0 == 10) = false := beq_eq_false_iff_ne.mpr c4
        have c4b1 : (a0 != 10) = true := bne_iff_ne.mpr c4
        obtain rfl := Option.some.inj H
        go_enter Tryd.func25, Tryd.ntmps25
        go_wp2
        go_ret
        exact ⟨by first | rfl | (simp; done) | (simp [*]; done), by repeat (first | exact Drawn0.refl _ | apply Drawn0.step)⟩

/-! ### sizarlaw09_spelled: function 26 -/
def sizarlaw09_spelled.l0 : Nat → ByteArray → Int → Option (ByteArray)
  | 0, _, _ => none
  | k + 1, x3, x4 => (some (([(wrap64 (48 + (Int.tmod x4 10))) % 256] : List Int) : List Int)).bind fun y243 => (if (strOfNums y243).size + x3.size ≤ 9223372036854775807 then (if x4 < 10 then (some ((strOfNums y243) ++ x3)) else (sizarlaw09_spelled.l0 k ((strOfNums y243) ++ x3) (wrap64 (Int.tdiv x4 10)))) else (none))
def sizarlaw09_spelled.f (k : Nat) (a0_0 : Int) (a0_1 : ByteArray) (a0_2 : Int) (a0_3 : Int) : Option (ByteArray) := if a0_0 = 2 then (sizarlaw09_spelled.l0 k (⟨#[]⟩ : ByteArray) a0_2) else (some a0_1)
theorem sizarlaw09_spelled.mono_l : ∀ k, (∀ y0 y1, LeO (sizarlaw09_spelled.l0 k y0 y1) (sizarlaw09_spelled.l0 (k + 1) y0 y1))
  | 0 => fun _ _ r h => by simp [sizarlaw09_spelled.l0] at h
  | k + 1 => by
    have ih0 := sizarlaw09_spelled.mono_l k
    · intro y0 y1
      unfold sizarlaw09_spelled.l0
      repeat' first
      | (with_reducible exact ih0 _ _)
      | (with_reducible exact LeO.refl _)
      | (with_reducible exact LeO.none _)
      | (with_reducible refine LeO.ite ?_ ?_)
      | (with_reducible refine LeO.bind ?_ (fun _ => ?_))
      | exact ih0 _ _
      | exact LeO.none _
      | refine LeO.ite ?_ ?_
      | refine LeO.bind ?_ (fun _ => ?_)
theorem sizarlaw09_spelled.mono : ∀ a0 a1 a2 a3 k, LeO (sizarlaw09_spelled.f k a0 a1 a2 a3) (sizarlaw09_spelled.f (k + 1) a0 a1 a2 a3) := by
  intro a0 a1 a2 a3 k
  have ih0 := sizarlaw09_spelled.mono_l k
  unfold sizarlaw09_spelled.f
  repeat' first
      | (with_reducible exact ih0 _ _)
      | (with_reducible exact LeO.refl _)
      | (with_reducible exact LeO.none _)
      | (with_reducible refine LeO.ite ?_ ?_)
      | (with_reducible refine LeO.bind ?_ (fun _ => ?_))
      | exact ih0 _ _
      | exact LeO.none _
      | refine LeO.ite ?_ ?_
      | refine LeO.bind ?_ (fun _ => ?_)
set_option maxHeartbeats 8000000 in
set_option maxRecDepth 100000 in
theorem sizarlaw09_spelled.calls (k : Nat) (a0_0 : Int) (a0_1 : ByteArray) (a0_2 : Int) (a0_3 : Int) (r : ByteArray) (w : World) (h : sizarlaw09_spelled.f k a0_0 a0_1 a0_2 a0_3 = some r) :
    Calls Tryd.prog 26 #[.agg #[.int .i64 a0_0, .string a0_1, .int .i64 a0_2, .int .i64 a0_3]] w fun e w' => e = .returned (.string r) ∧ Below w.heap.size w w' := by
  have hu35 := Tryd.underlying35
  have HB := Aside0.mk (Below.refl w.heap.size w)
  have H : (if a0_0 = 2 then (sizarlaw09_spelled.l0 k (⟨#[]⟩ : ByteArray) a0_2) else (some a0_1)) = some r := h
  clear h
  by_cases c2 : a0_0 = 2
  · rw [if_pos c2] at H
    have c2b0 : (a0_0 == 2) = true := beq_iff_eq.mpr c2
    have c2b1 : (a0_0 != 2) = false := bne_eq_false_iff_eq.mpr c2
    clear c2
    have H' := Aside0.mk H
    clear H
    go_enter Tryd.func26, Tryd.ntmps26
    go_wp2_with (first | ((with_reducible refine gate_dst (N := 1) rfl ?_); refine box_event ?hg (N := 1) ?hd (cs := #[.int .i64 a0_0, .string a0_1, .int .i64 a0_2, .int .i64 a0_3]) (t := 35) ?hr ?_; (case hd => rfl); (case hg => rfl); (case hr => first | (go_simp; done) | (go_simp; rfl)); intro gb242 hg w3 hbox hb; have n0_ := Aside0.mk (below_step (by repeat (first | (with_reducible first | exact HB.out | apply below_alloc | apply pw_below_drewN | apply below_drew1) | exact HB.out)) hb); have n1_ := Aside0.mk (hbox); have n2_ := Aside0.mk ((by rw [hg]; exact (below_size (by repeat (first | (with_reducible first | exact HB.out | apply below_alloc | apply pw_below_drewN | apply below_drew1) | exact HB.out))) : w.heap.size ≤ gb242)); have n3_ := Aside0.mk ((by rw [hg]; exact (below_size (by repeat (first | (with_reducible first | exact HB.out | apply below_alloc | apply pw_below_drewN | apply below_drew1) | exact HB.out))) : w.heap.size ≤ gb242)); clear HB; have HB := n0_; have BK242 := n1_; have GW242 := n2_; have GE242 := n3_; clear n0_ n1_ n2_ n3_; clear hb hbox hg; have hcz4_0 : w3.cell? ⟨gb242, 0, none⟩ = some (.int .i64 a0_0) := (blk_cell BK242.out 0).trans rfl; have hcz4_1 : w3.cell? ⟨gb242, 1, none⟩ = some (.string a0_1) := (blk_cell BK242.out 1).trans rfl; have hcz4_2 : w3.cell? ⟨gb242, 2, none⟩ = some (.int .i64 a0_2) := (blk_cell BK242.out 2).trans rfl; have hcz4_3 : w3.cell? ⟨gb242, 3, none⟩ = some (.int .i64 a0_3) := (blk_cell BK242.out 3).trans rfl; have hfz4_0 := blk_frozen BK242.out 0; have hfz4_1 := blk_frozen BK242.out 1; have hfz4_2 := blk_frozen BK242.out 2; have hfz4_3 := blk_frozen BK242.out 3))
    go_loopg [3, 4] k (fun kq v3 v4 w' => ∃ (x3_1 : ByteArray) (x4_1 : Int), v3 = .string x3_1 ∧ v4 = .int .i64 x4_1 ∧ Aside0 (sizarlaw09_spelled.l0 kq x3_1 x4_1 = some r) ∧ Aside0 (kq ≤ k) ∧ Aside0 (w'.heap[gb242]? = some (.cells #[.int .i64 a0_0, .string a0_1, .int .i64 a0_2, .int .i64 a0_3] 35 (0, 0))) ∧ Aside0 (Below w.heap.size w w'))
    case atStart => exact ⟨((⟨#[]⟩ : ByteArray)), (a0_2), (by first | rfl | (simp; done) | (simp [*]; done)), (by first | rfl | (simp; done) | (simp [*]; done)), H', ⟨Nat.le_refl _⟩, ⟨by (with_reducible repeat (first | refine blk_drewN ?_ _ | refine blk_drew ?_ | refine blk_alloc ?_ _)); exact BK242.out⟩, ⟨by repeat (first | (with_reducible first | exact HB.out | apply below_alloc | apply pw_below_drewN | apply below_drew1 | refine below_set ?_ GE242.out) | exact HB.out)⟩⟩
    case round =>
      clear H'
      try clear c2
      try clear c2b0
      try clear c2b1
      try clear p2
      try clear hcz4_0
      try clear hcz4_1
      try clear hcz4_2
      try clear hcz4_3
      try clear hfz4_0
      try clear hfz4_1
      try clear hfz4_2
      try clear hfz4_3
      obtain ⟨x3_1, x4_1, rfl, rfl, HA, HK1, BK242, HB⟩ := hrel
      cases gk with
      | zero => exact absurd HA.out (by simp [sizarlaw09_spelled.l0])
      | succ k1 =>
        have H := HA.out
        clear HA
        simp only [sizarlaw09_spelled.l0] at H
        obtain ⟨y243, hy243⟩ : ∃ y_ : List Int, y_ = (([(wrap64 (48 + (Int.tmod x4_1 10))) % 256] : List Int)) := ⟨_, rfl⟩
        replace H : (if (strOfNums y243).size + x3_1.size ≤ 9223372036854775807 then (if x4_1 < 10 then (some ((strOfNums y243) ++ x3_1)) else (sizarlaw09_spelled.l0 k1 ((strOfNums y243) ++ x3_1) (wrap64 (Int.tdiv x4_1 10)))) else (none)) = some r := by first | (rw [hy243]; with_reducible exact H) | (have H2_ := (Option.bind_some _ _).symm.trans H; rw [hy243]; with_reducible exact H2_) | (have H2_ := (Option.bind_some _ _).symm.trans H; with_reducible exact H2_) | with_reducible exact H | (rw [hy243]; exact H) | exact H
        have Ny243 := Aside0.mk hy243
        clear hy243
        by_cases c5 : (strOfNums y243).size + x3_1.size ≤ 9223372036854775807
        · rw [if_pos c5] at H
          have c5b0 := eq_true c5
          have c5b1 : decide ((strOfNums y243).size + x3_1.size ≤ 9223372036854775807) = true := decide_eq_true c5
          try have c5b2 : (9223372036854775807 < (strOfNums y243).size + x3_1.size) = False := eq_false (Nat.not_lt.2 c5)
          by_cases c6 : x4_1 < 10
          · rw [if_pos c6] at H
            have c6b0 : decide (x4_1 < 10) = true := decide_eq_true c6
            clear c6
            obtain rfl := Option.some.inj H
            go_wp2_with (first | ((with_reducible refine gate_dst (N := 18) rfl ?_); refine Kd.R_lit (Kd.int .u8) _ 5 ?hg (N := 18) ?hd (xs := ([(wrap64 (48 + (Int.tmod x4_1 10))) % 256] : List Int)) (inner := [.int .u8 ((wrap64 (48 + (Int.tmod x4_1 10))) % 256)]) (ok := fun _ => True) (okp := fun _ => True) ?hr ?hp (fun _ hk => hk) trivial (Below.refl _ _) (Nat.le_refl _) (by simp) ?_; (case hd => rfl); (case hg => rfl); (case hr => first | (go_simp; done) | (go_simp; rfl)); (case hp => exact (Reps.one (show Kd.M (Kd.int .u8) _ _ _ ((wrap64 (48 + (Int.tmod x4_1 10))) % 256) [.int .u8 ((wrap64 (48 + (Int.tmod x4_1 10))) % 256)] from rfl) (Reps.none _ _))); intro v244 w7 ho8 hb hg_ hnew_; clear hg_ hnew_; (first | rw [← Ny243.out] at ho8 | (simp only [Int.reduceToNat] at ho8; rw [← Ny243.out] at ho8)); have n0_ := Aside0.mk (Kd.R_lower ho8 (below_size (by repeat (first | (with_reducible first | exact HB.out | apply below_alloc | apply pw_below_drewN | apply below_drew1 | refine below_set ?_ GE242.out) | exact HB.out)))); have n1_ := Aside0.mk (blk_below (g := gb242) (o := .cells #[.int .i64 a0_0, .string a0_1, .int .i64 a0_2, .int .i64 a0_3] 35 (0, 0)) (by (with_reducible repeat (first | refine blk_drewN ?_ _ | refine blk_drew ?_ | refine blk_alloc ?_ _)); exact BK242.out) hb); have n2_ := Aside0.mk (below_step (by repeat (first | (with_reducible first | exact HB.out | apply below_alloc | apply pw_below_drewN | apply below_drew1 | refine below_set ?_ GE242.out) | exact HB.out)) hb); clear BK242; clear HB; have HO245 := n0_; have BK242 := n1_; have HB := n2_; clear n0_ n1_ n2_; clear hb ho8; have hcv9 := own_string (P := Tryd.prog) Tryd.underlying38 Tryd.underlying5 Tryd.underlying9 (Kd.own_of_R HO245.out)))
            go_ret
            exact ⟨by first | rfl | (simp [errW_none, errW_some] <;> rfl) | (simp [*, errW_none, errW_some] <;> rfl), by repeat (first | (with_reducible first | exact HB.out | apply below_alloc | apply pw_below_drewN | apply below_drew1 | refine below_set ?_ GE242.out) | exact HB.out)⟩
          · rw [if_neg c6] at H
            have c6b0 : decide (x4_1 < 10) = false := decide_eq_false c6
            clear c6
            have H' := Aside0.mk H
            clear H
            go_wp2_with (first | ((with_reducible refine gate_dst (N := 18) rfl ?_); refine Kd.R_lit (Kd.int .u8) _ 5 ?hg (N := 18) ?hd (xs := ([(wrap64 (48 + (Int.tmod x4_1 10))) % 256] : List Int)) (inner := [.int .u8 ((wrap64 (48 + (Int.tmod x4_1 10))) % 256)]) (ok := fun _ => True) (okp := fun _ => True) ?hr ?hp (fun _ hk => hk) trivial (Below.refl _ _) (Nat.le_refl _) (by simp) ?_; (case hd => rfl); (case hg => rfl); (case hr => first | (go_simp; done) | (go_simp; rfl)); (case hp => exact (Reps.one (show Kd.M (Kd.int .u8) _ _ _ ((wrap64 (48 + (Int.tmod x4_1 10))) % 256) [.int .u8 ((wrap64 (48 + (Int.tmod x4_1 10))) % 256)] from rfl) (Reps.none _ _))); intro v244 w10 ho11 hb hg_ hnew_; clear hg_ hnew_; (first | rw [← Ny243.out] at ho11 | (simp only [Int.reduceToNat] at ho11; rw [← Ny243.out] at ho11)); have n0_ := Aside0.mk (Kd.R_lower ho11 (below_size (by repeat (first | (with_reducible first | exact HB.out | apply below_alloc | apply pw_below_drewN | apply below_drew1 | refine below_set ?_ GE242.out) | exact HB.out)))); have n1_ := Aside0.mk (blk_below (g := gb242) (o := .cells #[.int .i64 a0_0, .string a0_1, .int .i64 a0_2, .int .i64 a0_3] 35 (0, 0)) (by (with_reducible repeat (first | refine blk_drewN ?_ _ | refine blk_drew ?_ | refine blk_alloc ?_ _)); exact BK242.out) hb); have n2_ := Aside0.mk (below_step (by repeat (first | (with_reducible first | exact HB.out | apply below_alloc | apply pw_below_drewN | apply below_drew1 | refine below_set ?_ GE242.out) | exact HB.out)) hb); clear BK242; clear HB; have HO245 := n0_; have BK242 := n1_; have HB := n2_; clear n0_ n1_ n2_; clear hb ho11; have hcv12 := own_string (P := Tryd.prog) Tryd.underlying38 Tryd.underlying5 Tryd.underlying9 (Kd.own_of_R HO245.out)))
            go_roundg k1
            case measure => have := HK1.out; omega
            case rel => exact ⟨((strOfNums y243) ++ x3_1), (wrap64 (Int.tdiv x4_1 10)), (by first | rfl | (simp; done) | (simp [*]; done)), (by first | rfl | (simp; done) | (simp [*]; done)), H', ⟨by have := HK1.out; omega⟩, ⟨by (with_reducible repeat (first | refine blk_drewN ?_ _ | refine blk_drew ?_ | refine blk_alloc ?_ _)); exact BK242.out⟩, ⟨by repeat (first | (with_reducible first | exact HB.out | apply below_alloc | apply pw_below_drewN | apply below_drew1 | refine below_set ?_ GE242.out) | exact HB.out)⟩⟩
        · rw [if_neg c5] at H
          exact absurd H (by simp)
  · rw [if_neg c2] at H
    have c2b0 : (a0_0 == 2) = false := beq_eq_false_iff_ne.mpr c2
    have c2b1 : (a0_0 != 2) = true := bne_iff_ne.mpr c2
    obtain rfl := Option.some.inj H
    go_enter Tryd.func26, Tryd.ntmps26
    go_wp2_with (first | ((with_reducible refine gate_dst (N := 1) rfl ?_); refine box_event ?hg (N := 1) ?hd (cs := #[.int .i64 a0_0, .string a0_1, .int .i64 a0_2, .int .i64 a0_3]) (t := 35) ?hr ?_; (case hd => rfl); (case hg => rfl); (case hr => first | (go_simp; done) | (go_simp; rfl)); intro gb242 hg w13 hbox hb; have n0_ := Aside0.mk (below_step (by repeat (first | (with_reducible first | exact HB.out | apply below_alloc | apply pw_below_drewN | apply below_drew1) | exact HB.out)) hb); have n1_ := Aside0.mk (hbox); have n2_ := Aside0.mk ((by rw [hg]; exact (below_size (by repeat (first | (with_reducible first | exact HB.out | apply below_alloc | apply pw_below_drewN | apply below_drew1) | exact HB.out))) : w.heap.size ≤ gb242)); have n3_ := Aside0.mk ((by rw [hg]; exact (below_size (by repeat (first | (with_reducible first | exact HB.out | apply below_alloc | apply pw_below_drewN | apply below_drew1) | exact HB.out))) : w.heap.size ≤ gb242)); clear HB; have HB := n0_; have BK242 := n1_; have GW242 := n2_; have GE242 := n3_; clear n0_ n1_ n2_ n3_; clear hb hbox hg; have hcz14_0 : w13.cell? ⟨gb242, 0, none⟩ = some (.int .i64 a0_0) := (blk_cell BK242.out 0).trans rfl; have hcz14_1 : w13.cell? ⟨gb242, 1, none⟩ = some (.string a0_1) := (blk_cell BK242.out 1).trans rfl; have hcz14_2 : w13.cell? ⟨gb242, 2, none⟩ = some (.int .i64 a0_2) := (blk_cell BK242.out 2).trans rfl; have hcz14_3 : w13.cell? ⟨gb242, 3, none⟩ = some (.int .i64 a0_3) := (blk_cell BK242.out 3).trans rfl; have hfz14_0 := blk_frozen BK242.out 0; have hfz14_1 := blk_frozen BK242.out 1; have hfz14_2 := blk_frozen BK242.out 2; have hfz14_3 := blk_frozen BK242.out 3))
    go_ret
    exact ⟨by first | rfl | (simp [errW_none, errW_some] <;> rfl) | (simp [*, errW_none, errW_some] <;> rfl), by repeat (first | (with_reducible first | exact HB.out | apply below_alloc | apply pw_below_drewN | apply below_drew1 | refine below_set ?_ GE242.out) | exact HB.out)⟩

end Go.Proofs.YtomglbjcfcijkaaDoor.PLx

namespace Go.Proofs.YtomglbjcfcijkaaDoor.PLx
open Go.RowKit Go.Proofs.YtomglbjcfcijkaaDoorW.PrintWords Go.Proofs.YtomglbjcfcijkaaDoorW.PrintLast Go.Proofs.YtomglbjcfcijkaaDoorW.PrintMore

theorem rspace_ref (c : UInt8) : sizarref09_Space.f (c.toNat : Int) = some (decide (kl c = 1)) := by
  have : ∀ n : Nat, n < 256 → sizarref09_Space.f (n : Int) = some (decide (cls (n : Int) = 1)) := by decide +kernel
  exact this c.toNat c.toNat_lt
theorem space_w (c : UInt8) (w : World) : Calls Tryd.prog 25 #[.int .u8 (c.toNat : Int)] w fun e w' => e = .returned (.bool (decide (kl c = 1))) ∧ Drawn0 w w' := sizarref09_Space.calls _ _ w (rspace_ref c)
theorem letter_w (c : UInt8) (w : World) : Calls Tryd.prog 41 #[.int .u8 (c.toNat : Int)] w fun e w' => e = .returned (.bool (decide (kl c = 2))) ∧ Drawn0 w w' := sizarref09_Letter.calls _ _ w (letter_ref c)
theorem part_w (c : UInt8) (w : World) : Calls Tryd.prog 42 #[.int .u8 (c.toNat : Int)] w fun e w' => e = .returned (.bool (isPart c)) ∧ Drawn0 w w' := sizarref09_part.calls _ _ w (part_ref c)
theorem figure_w (c : UInt8) (w : World) : Calls Tryd.prog 43 #[.int .u8 (c.toNat : Int)] w fun e w' => e = .returned (.bool (decide (kl c = 3))) ∧ Drawn0 w w' := sizarref09_Figure.calls _ _ w (figure_ref c)
theorem sign_w (c : UInt8) (w : World) : Calls Tryd.prog 45 #[.int .u8 (c.toNat : Int)] w fun e w' => e = .returned (.bool (decide (kl c = 4))) ∧ Drawn0 w w' := sizarref09_Sign.calls _ _ w (sign_ref c)
theorem rname_w (s : ByteArray) (w : World) : Calls Tryd.prog 24 #[.string s] w fun e w' => e = .returned (.bool (isName s.data.toList)) ∧ Drawn0 w w' := sizarref09_Name.calls 40 s _ w (rname_f s 40 (Nat.le_refl _))
theorem numVal_split (l : List UInt8) (k : Nat) : numVal l = (l.drop k).foldl (fun n c => 10 * n + (c.toNat - 48)) (numVal (l.take k)) := by
  unfold numVal
  rw [← List.foldl_append, List.take_append_drop]
theorem foldl_mono : ∀ (r : List UInt8) (a b : Nat), a ≤ b → a ≤ r.foldl (fun n c => 10 * n + (c.toNat - 48)) b
  | [], a, b, h => h
  | c :: r, a, b, h => foldl_mono r a _ (by show a ≤ 10 * b + (c.toNat - 48); omega)
theorem numVal_take (l : List UInt8) (k : Nat) : numVal (l.take k) ≤ numVal l := by
  rw [numVal_split l k]
  exact foldl_mono _ _ _ (Nat.le_refl _)
theorem take_next (s : ByteArray) (k : Nat) (h : k < s.size) : s.data.toList.take (k + 1) = s.data.toList.take k ++ [s[k]] := by
  have hk : k < s.data.toList.length := by rw [size_data]; exact h
  rw [List.take_add_one, List.getElem?_eq_getElem hk]; rfl
set_option maxRecDepth 8000 in
set_option maxHeartbeats 1000000 in
theorem rnumber_w (s : ByteArray) (hs : s.size ≤ 70000) (h1 : 1 ≤ s.size) (hd : digits s.data.toList) (w : World) :
    Calls Tryd.prog 44 #[.string s] w fun e w' => (∃ n, e = .returned (.tuple #[.int .i64 n, .bool (okNum s.data.toList)]) ∧ (okNum s.data.toList = true → n = (numVal s.data.toList : Int))) ∧ Drawn0 w w' := by
  have HD := Aside0.mk hd
  clear hd
  go_enter Tryd.func44, Tryd.ntmps44
  go_wp2
  go_loopw [4, 5] (fun n i wr => ∃ k : Nat, k ≤ s.size ∧ n = .int .i64 (numVal (s.data.toList.take k) : Int) ∧ i = .int .i64 (k : Int) ∧ Aside0 (numVal (s.data.toList.take k) ≤ 1099511627776) ∧ Drawn0 w wr) (fun _ i _ => s.size - (intOf i).toNat)
  case atStart => exact ⟨0, Nat.zero_le _, rfl, rfl, ⟨by simp [numVal]⟩, Drawn0.refl w⟩
  case round =>
    obtain ⟨k, hk, rfl, rfl, HB, ⟨nq, rfl⟩⟩ := hrel
    by_cases hlt : k < s.size
    · have hdk := HD.out s[k] (by rw [← size_data] at hlt; exact List.mem_of_getElem? (List.getElem?_eq_getElem hlt))
      have hn := numVal_snoc (s.data.toList.take k) s[k]
      rw [← take_next s k hlt] at hn
      have hbd := HB.out
      generalize hv : numVal (s.data.toList.take k) = v at hn hbd
      have e1 : IntKind.i64.wrap (10 * (v : Int)) = 10 * (v : Int) := by rw [IntKind.wrap_i64]; omega
      have e2 : IntKind.u8.wrap ((s[k].toNat : Int) - 48) = ((s[k].toNat - 48 : Nat) : Int) := by rw [IntKind.wrap_u8]; omega
      obtain ⟨d, hdv⟩ : ∃ d : Nat, d = s[k].toNat - 48 := ⟨_, rfl⟩
      rw [← hdv] at hn e2
      have hd9 : d ≤ 9 := by omega
      have e3 : IntKind.i64.wrap (10 * (v : Int) + (d : Int)) = 10 * (v : Int) + (d : Int) := by rw [IntKind.wrap_i64]; omega
      have HN := Aside0.mk hn
      have HV := Aside0.mk hv
      clear hn hdv hdk hv
      by_cases hbig : 1099511627776 < 10 * v + d
      · have hd1 : decide ((1099511627776 : Int) < 10 * (v : Int) + (d : Int)) = true := decide_eq_true (by omega)
        have HG := Aside0.mk hbig
        clear hbig
        go_wp2
        go_ret2
        have h9 := numVal_take s.data.toList (k + 1)
        have hok : okNum s.data.toList = false := by
          have := HG.out
          rw [HN.out] at h9
          unfold okNum
          rw [decide_eq_false (by omega), Bool.and_false]
        rw [hok]
        exact ⟨⟨0, rfl, fun h => by cases h⟩, ⟨⟨nq, rfl⟩⟩⟩
      · have hd1 : decide ((1099511627776 : Int) < 10 * (v : Int) + (d : Int)) = false := decide_eq_false (by omega)
        have HG := Aside0.mk hbig
        clear hbig
        go_wp2
        refine ⟨⟨k + 1, by omega, ?_, rfl, ⟨by rw [HN.out]; have := HG.out; omega⟩, ⟨⟨nq, rfl⟩⟩⟩, by simp [intOf]; omega⟩
        rw [HN.out]
        congr 1
    · have hke : k = s.size := by omega
      have ht : s.data.toList.take k = s.data.toList := List.take_of_length_le (by rw [size_data]; omega)
      rw [ht] at HB ⊢
      have hok : okNum s.data.toList = (s.size == 1 || s[0] != 48) := by
        unfold okNum
        rw [decide_eq_true HB.out, Bool.and_true, size_data]
        have hd0 := data_drop s 0 (by omega)
        rw [List.drop_zero] at hd0
        rw [hd0]
        simp only [List.head?_cons]
        cases s.size == 1 <;> rfl
      have hlt1 : ((k : Int) < (s.size : Int)) = False := eq_false (by omega)
      have HO := Aside0.mk hok
      clear hok hlt ht
      by_cases hone : s.size = 1
      · have he : ((s.size : Int) == 1) = true := by simp [hone]
        have hz : (s.size == 1) = true := by simp [hone]
        have HZ := Aside0.mk hz
        clear hz hone
        go_wp2_with (fail)
        go_quiet (fail)
        go_wp2
        go_ret2
        rw [HO.out, HZ.out, Bool.true_or]
        exact ⟨⟨_, rfl, fun _ => rfl⟩, ⟨⟨_, World.drewN_drewN ..⟩⟩⟩
      · have he : ((s.size : Int) == 1) = false := by simpa using (by omega : ¬ (s.size : Int) = 1)
        have hz : (s.size == 1) = false := by simpa using hone
        have HZ := Aside0.mk hz
        clear hz hone
        have hb : ((s[0].toNat : Int) != 48) = (s[0] != 48) := by
          unfold bne
          congr 1
          by_cases h : s[0] = 48
          · rw [h]; rfl
          · have h2 : ¬ ((s[0].toNat : Int) = 48) := fun h3 => h (UInt8.toNat_inj.1 (by show s[0].toNat = 48; omega))
            rw [beq_eq_false_iff_ne.2 h2, beq_eq_false_iff_ne.2 h]
        have hpos : 0 < s.size := by omega
        go_wp2_with (fail)
        go_quiet (fail)
        go_wp2
        go_ret2
        rw [HO.out, HZ.out, Bool.false_or]
        exact ⟨⟨_, rfl, fun _ => rfl⟩, ⟨⟨_, World.drewN_drewN ..⟩⟩⟩
end Go.Proofs.YtomglbjcfcijkaaDoor.PLx

namespace Go.Proofs.YtomglbjcfcijkaaDoor.PLx
open Go.RowKit Go.Proofs.YtomglbjcfcijkaaDoorW.PrintWords Go.Proofs.YtomglbjcfcijkaaDoorW.PrintLast Go.Proofs.YtomglbjcfcijkaaDoorW.PrintMore

/-- Where the reference's lexer stands at the head of a round. -/
structure RInv (w wr : World) (src : ByteArray) (p : Nat) (v : Value) (l : List Tok) : Prop where
  row : Kd.R k35 35 wr w.heap.size (fun _ => True) v l
  le : p ≤ src.size
  len : l.length ≤ p
  eq : rest src 0 = prep l (rest src p)
  keep : Below w.heap.size w wr
theorem RInv.drewN {w wr : World} {src : ByteArray} {p : Nat} {v : Value} {l : List Tok} (h : RInv w wr src p v l) (n : Nat) : RInv w (wr.drewN n) src p v l :=
  ⟨Kd.R_drewN h.row n, h.le, h.len, h.eq, pw_below_drewN h.keep n⟩
/-- How it ends. -/
def RRes (r : Except Nat (List Tok)) (w : World) (e : Ending) (w' : World) : Prop :=
  match r with
  | .ok l => ∃ v0_ : Value, e = .returned (.tuple #[v0_, .int .i64 0, .int .i64 0]) ∧ Kd.R k35 35 w' w.heap.size (fun _ => True) v0_ l ∧ Below w.heap.size w w'
  | .error p => ∃ v0_ : Value, e = .returned (.tuple #[v0_, .int .i64 p, .int .i64 90]) ∧ Kd.R k35 35 w' w.heap.size (fun _ => True) v0_ [] ∧ Below w.heap.size w w'
theorem RInv.bad {w wr : World} {src : ByteArray} {p : Nat} {v : Value} {l : List Tok} (h : RInv w wr src p v l) (he : rest src p = .error p) : RRes (rest src 0) w (.returned (.tuple #[.slice none 0 0, .int .i64 p, .int .i64 90])) wr := by
  rw [h.eq, he]
  exact ⟨_, rfl, Kd.R_nil _ _ _ _ _, h.keep⟩
theorem RInv.done {w wr : World} {src : ByteArray} {p : Nat} {v : Value} {l : List Tok} (h : RInv w wr src p v l) (hp : src.size ≤ p) : RRes (rest src 0) w (.returned (.tuple #[v, .int .i64 0, .int .i64 0])) wr := by
  rw [h.eq, rest_end src p hp]
  simp only [prep, List.append_nil]
  exact ⟨v, rfl, h.row, h.keep⟩
/-- On to a later place, with no token. -/
theorem RInv.skip {w wr : World} {src : ByteArray} {p q : Nat} {v : Value} {l : List Tok} (h : RInv w wr src p v l) (hpq : p ≤ q) (hq : q ≤ src.size) (hr : rest src p = rest src q) (n : Nat) : RInv w (wr.drewN n) src q v l :=
  ⟨Kd.R_drewN h.row n, hq, Nat.le_trans h.len hpq, by rw [h.eq, hr], pw_below_drewN h.keep n⟩
/-- .. with a token. -/
theorem RInv.step {w wr w2 : World} {src : ByteArray} {p q : Nat} {v v2 : Value} {l : List Tok} {t : Tok} (h : RInv w wr src p v l) (hpq : p < q) (hq : q ≤ src.size) (hr : rest src p = cons1 t (rest src q)) (h1 : Kd.R k35 35 w2 w.heap.size (fun _ => True) v2 (l ++ [t])) (h2 : Below w.heap.size w w2) : RInv w w2 src q v2 (l ++ [t]) :=
  ⟨h1, hq, by have := h.len; simp; omega, by rw [h.eq, hr, ← prep_one, prep_prep], h2⟩
set_option maxRecDepth 8000 in
theorem rlex_long (src : ByteArray) (w : World) (hs : 65536 < src.size) :
    Calls Tryd.prog 16 #[.string src] w fun e w' => ∃ v0_ : Value, e = .returned (.tuple #[v0_, .int .i64 0, .int .i64 2]) ∧ Kd.R k35 35 w' w.heap.size (fun _ => True) v0_ [] ∧ Below w.heap.size w w' := by
  go_enter Tryd.func16, Tryd.ntmps16
  go_wp2
  go_ret3
  exact ⟨_, rfl, Kd.R_nil _ _ _ _ _, Below.refl _ w⟩
theorem bt_num (c x : UInt8) : ((c.toNat : Int) == (x.toNat : Int)) = (c == x) := by
  by_cases h : c = x
  · rw [h]; simp
  · have h2 : ¬ ((c.toNat : Int) = (x.toNat : Int)) := fun h3 => h (UInt8.toNat_inj.1 (by omega))
    rw [beq_eq_false_iff_ne.2 h2, beq_eq_false_iff_ne.2 h]
theorem lineEnd_stop (src : ByteArray) (q : Nat) (h : q < src.size) (hc : src[q] = 10) : lineEnd src q = q := by
  unfold lineEnd; rw [drop_at src q h, List.takeWhile_cons_of_neg (by simp [hc])]; rfl
theorem lineEnd_go (src : ByteArray) (q : Nat) (h : q < src.size) (hc : ¬ src[q] = 10) : lineEnd src q = lineEnd src (q + 1) := by
  unfold lineEnd; rw [drop_at src q h, List.takeWhile_cons_of_pos (by simp [hc]), List.length_cons]; omega
theorem lineEnd_end (src : ByteArray) (q : Nat) (h : src.size ≤ q) : lineEnd src q = q := by
  unfold lineEnd; rw [List.drop_of_length_le (by rw [size_data]; exact h)]; rfl
theorem row_empty (w : World) : Kd.R k35 35 (w.alloc (Obj.cells #[] 35)) w.heap.size (fun _ => True) (.slice (some ⟨w.heap.size, 0, none⟩) 0 0) [] :=
  ⟨fun _ _ => trivial, [], ⟨rfl, .inr ⟨w.heap.size, 0, #[], rfl, Nat.le_refl _, blk_new w _, Nat.le_refl _, by decide, rfl, rfl⟩⟩, ⟨rfl, fun j p hj => by simp at hj⟩⟩
set_option maxRecDepth 8000 in
set_option maxHeartbeats 4000000 in
theorem rlex_main (src : ByteArray) (w : World) (hs : src.size ≤ 65536) :
    Calls Tryd.prog 16 #[.string src] w (RRes (rest src 0) w) := by
  go_enter Tryd.func16, Tryd.ntmps16
  go_wp2
  go_loopw [5, 6] (fun v i wr => ∃ (p : Nat) (l : List Tok), i = .int .i64 (p : Int) ∧ Aside0 (RInv w wr src p v l)) (fun _ i _ => src.size - (intOf i).toNat)
  case atStart =>
    refine ⟨0, [], rfl, ⟨⟨?_, Nat.zero_le _, Nat.le_refl _, (prep_nil _).symm, ?_⟩⟩⟩
    · exact row_empty w
    · exact (Below.refl _ w).alloc (Nat.le_refl _) _
  case round =>
    obtain ⟨p, l, rfl, HI⟩ := hrel
    by_cases hlt : p < src.size
    · have h47 : kl src[p] ≠ 4 → ((src[p].toNat : Int) == 47) = false := fun h => by
        have h1 : src[p] ≠ 47 := fun h2 => h (by rw [h2]; decide)
        have h2 : ¬ ((src[p].toNat : Int) = 47) := fun h3 => h1 (UInt8.toNat_inj.1 (by show src[p].toNat = 47; omega))
        exact beq_eq_false_iff_ne.2 h2
      rcases kl_range src[p] with hk | hk | hk | hk | hk | hk
      · have h4 := h47 (by omega)
        have d1 : decide (kl src[p] = 1) = false := decide_eq_false (by omega)
        have d2 : decide (kl src[p] = 2) = false := decide_eq_false (by omega)
        have d3 : decide (kl src[p] = 3) = false := decide_eq_false (by omega)
        have d4 : decide (kl src[p] = 4) = false := decide_eq_false (by omega)
        have HK := Aside0.mk hk
        clear hk h47
        go_wp2_with (first | (go_at_call 25; refine (space_w src[p] _).mono ?_; rintro e w1 ⟨rfl, ⟨n1, rfl⟩⟩) | (go_at_call 41; refine (letter_w src[p] _).mono ?_; rintro e w1 ⟨rfl, ⟨n1, rfl⟩⟩) | (go_at_call 43; refine (figure_w src[p] _).mono ?_; rintro e w1 ⟨rfl, ⟨n1, rfl⟩⟩) | (go_at_call 45; refine (sign_w src[p] _).mono ?_; rintro e w1 ⟨rfl, ⟨n1, rfl⟩⟩))
        go_ret3
        exact (HI.out.drewN _).bad (rest_wrong src p hlt (.inl HK.out))
      · have HK := Aside0.mk hk
        have d1 : decide (kl src[p] = 1) = true := decide_eq_true hk
        clear hk h47
        go_wp2_with (first | (go_at_call 25; refine (space_w src[p] _).mono ?_; rintro e w1 ⟨rfl, ⟨n1, rfl⟩⟩))
        refine ⟨⟨p + 1, l, by simp, ⟨HI.out.skip (by omega) (by omega) ?_ _⟩⟩, by simp [intOf]; omega⟩
        rw [rest_space src (src.size - p) p (by omega), runEnd_go src [1] p hlt (by rw [HK.out]; rfl), ← rest_space src (src.size - (p + 1)) (p + 1) (by omega)]
      · have h4 := h47 (by omega)
        have d1 : decide (kl src[p] = 1) = false := decide_eq_false (by omega)
        have d2 : decide (kl src[p] = 2) = true := decide_eq_true hk
        have HK := Aside0.mk hk
        clear hk h47
        go_wp2_with (first | (go_at_call 25; refine (space_w src[p] _).mono ?_; rintro e w1 ⟨rfl, ⟨n1, rfl⟩⟩) | (go_at_call 41; refine (letter_w src[p] _).mono ?_; rintro e w1 ⟨rfl, ⟨n1, rfl⟩⟩))
        obtain ⟨A, c, hv⟩ := Kd.R_slice HI.out.row
        subst hv
        go_loopw [6] (fun i w2 => ∃ q : Nat, p ≤ q ∧ q ≤ src.size ∧ i = .int .i64 (q : Int) ∧ Aside0 (runEnd src [2, 3, 5] p = runEnd src [2, 3, 5] q) ∧ Drawn0 wr w2) (fun i _ => src.size - (intOf i).toNat)
        case atStart => exact ⟨p, Nat.le_refl _, Nat.le_of_lt hlt, rfl, ⟨rfl⟩, ⟨⟨_, rfl⟩⟩⟩
        case round =>
          obtain ⟨q, hq1, hq2, rfl, HR, ⟨n2, rfl⟩⟩ := hrel
          by_cases hq : q < src.size
          · cases hp : isPart src[q]
            · have hre : runEnd src [2, 3, 5] p = q := HR.out.trans (runEnd_stop src [2, 3, 5] q hq (by rw [part_eq]; exact hp))
              have hrest := rest_name src p hlt HK.out
              have hsz := run_end src [2, 3, 5] p hlt (by rw [HK.out]; rfl)
              rw [hre] at hrest hsz
              have hpq : p < q := by omega
              have HREST := Aside0.mk hrest
              clear hrest hsz hre
              go_wp2_with (first | (go_at_call 42; refine (part_w src[q] _).mono ?_; rintro e w1 ⟨rfl, ⟨n3, rfl⟩⟩))
              refine (rname_w (src.extract p q) _).mono ?_
              rintro e w3 ⟨rfl, ⟨n4, rfl⟩⟩
              cases hn : isName (src.extract p q).data.toList
              · have HB := Aside0.mk (show rest src p = .error p by rw [HREST.out, hn]; rfl)
                go_wp2
                go_ret3
                exact (HI.out.drewN _).bad HB.out
              · have HB := Aside0.mk (show rest src p = cons1 ⟨1, src.extract p q, 0, p⟩ (rest src q) by rw [HREST.out, hn]; rfl)
                have HI5 := Aside0.mk (HI.out.drewN (n2 + n3 + n4))
                go_wp2_with (((with_reducible refine gate_builtin (b := .append) (xs := #[.tmp 78, .tmp 85]) rfl ?_); at_builtin; go_loud (refine Kd.R_append k35 (w0 := w) w.heap.size rfl (.tmp 78) (.tmp 85) 23 35 (.agg #[(.int .i64 0), (.string ⟨#[]⟩), (.int .i64 0), (.int .i64 0)]) 40 rfl Tryd.underlying23 info35 rfl (by decide) (by decide) (.slice A l.length c) l ⟨1, src.extract p q, 0, p⟩ [.int .i64 1, .string (src.extract p q), .int .i64 0, .int .i64 p] (fun _ => True) (fun _ => False) rfl rfl (k35_mkM _ _ _ (⟨1, src.extract p q, 0, p⟩ : S35)) (fun _ hk => hk.elim) (fun _ _ => trivial) HI5.out.row HI5.out.keep (Nat.le_trans HI.out.keep.size (by simp)) (by have := HI.out.len; omega) ?_); intro v1 w5 ho5 hb5 hg5 hat5))
                go_wp2
                exact ⟨⟨q, l ++ [⟨1, src.extract p q, 0, p⟩], rfl, ⟨HI.out.step hpq hq2 HB.out ho5 hb5⟩⟩, by simp [intOf]; omega⟩
            · have HP := Aside0.mk hp
              go_wp2_with (first | (go_at_call 42; refine (part_w src[q] _).mono ?_; rintro e w1 ⟨rfl, ⟨n3, rfl⟩⟩))
              refine ⟨⟨q + 1, by omega, by omega, by simp, ⟨HR.out.trans (runEnd_go src [2, 3, 5] q hq (by rw [part_eq]; exact HP.out))⟩, ⟨⟨_, rfl⟩⟩⟩, by simp [intOf]; omega⟩
          · have hre : runEnd src [2, 3, 5] p = q := HR.out.trans (runEnd_end src [2, 3, 5] q (by omega))
            have hrest := rest_name src p hlt HK.out
            have hsz := run_end src [2, 3, 5] p hlt (by rw [HK.out]; rfl)
            rw [hre] at hrest hsz
            have hpq : p < q := by omega
            have HREST := Aside0.mk hrest
            clear hrest hsz hre
            go_wp2_with (fail)
            refine (rname_w (src.extract p q) _).mono ?_
            rintro e w3 ⟨rfl, ⟨n4, rfl⟩⟩
            cases hn : isName (src.extract p q).data.toList
            · have HB := Aside0.mk (show rest src p = .error p by rw [HREST.out, hn]; rfl)
              go_wp2
              go_ret3
              exact (HI.out.drewN _).bad HB.out
            · have HB := Aside0.mk (show rest src p = cons1 ⟨1, src.extract p q, 0, p⟩ (rest src q) by rw [HREST.out, hn]; rfl)
              have HI5 := Aside0.mk (HI.out.drewN (n2 + n4))
              go_wp2_with (((with_reducible refine gate_builtin (b := .append) (xs := #[.tmp 78, .tmp 85]) rfl ?_); at_builtin; go_loud (refine Kd.R_append k35 (w0 := w) w.heap.size rfl (.tmp 78) (.tmp 85) 23 35 (.agg #[(.int .i64 0), (.string ⟨#[]⟩), (.int .i64 0), (.int .i64 0)]) 40 rfl Tryd.underlying23 info35 rfl (by decide) (by decide) (.slice A l.length c) l ⟨1, src.extract p q, 0, p⟩ [.int .i64 1, .string (src.extract p q), .int .i64 0, .int .i64 p] (fun _ => True) (fun _ => False) rfl rfl (k35_mkM _ _ _ (⟨1, src.extract p q, 0, p⟩ : S35)) (fun _ hk => hk.elim) (fun _ _ => trivial) HI5.out.row HI5.out.keep (Nat.le_trans HI.out.keep.size (by simp)) (by have := HI.out.len; omega) ?_); intro v1 w5 ho5 hb5 hg5 hat5))
              go_wp2
              exact ⟨⟨q, l ++ [⟨1, src.extract p q, 0, p⟩], rfl, ⟨HI.out.step hpq hq2 HB.out ho5 hb5⟩⟩, by simp [intOf]; omega⟩
      · have h4 := h47 (by omega)
        have d1 : decide (kl src[p] = 1) = false := decide_eq_false (by omega)
        have d2 : decide (kl src[p] = 2) = false := decide_eq_false (by omega)
        have d3 : decide (kl src[p] = 3) = true := decide_eq_true hk
        have HK := Aside0.mk hk
        clear hk h47
        go_wp2_with (first | (go_at_call 25; refine (space_w src[p] _).mono ?_; rintro e w1 ⟨rfl, ⟨n1, rfl⟩⟩) | (go_at_call 41; refine (letter_w src[p] _).mono ?_; rintro e w1 ⟨rfl, ⟨n1, rfl⟩⟩) | (go_at_call 43; refine (figure_w src[p] _).mono ?_; rintro e w1 ⟨rfl, ⟨n1, rfl⟩⟩))
        obtain ⟨A, c, hv⟩ := Kd.R_slice HI.out.row
        subst hv
        go_loopw [6] (fun i w2 => ∃ q : Nat, p ≤ q ∧ q ≤ src.size ∧ i = .int .i64 (q : Int) ∧ Aside0 (runEnd src [3] p = runEnd src [3] q) ∧ Drawn0 wr w2) (fun i _ => src.size - (intOf i).toNat)
        case atStart => exact ⟨p, Nat.le_refl _, Nat.le_of_lt hlt, rfl, ⟨rfl⟩, ⟨⟨_, rfl⟩⟩⟩
        case round =>
          obtain ⟨q, hq1, hq2, rfl, HR, ⟨n2, rfl⟩⟩ := hrel
          by_cases hq : q < src.size
          · by_cases hp : kl src[q] = 3
            · have hp3 := decide_eq_true hp
              have HP := Aside0.mk hp
              clear hp
              go_wp2_with (first | (go_at_call 43; refine (figure_w src[q] _).mono ?_; rintro e w1 ⟨rfl, ⟨n3, rfl⟩⟩))
              refine ⟨⟨q + 1, by omega, by omega, by simp, ⟨HR.out.trans (runEnd_go src [3] q hq (by rw [HP.out]; rfl))⟩, ⟨⟨_, rfl⟩⟩⟩, by simp [intOf]; omega⟩
            · have hp3 := decide_eq_false hp
              have HP := Aside0.mk hp
              clear hp
              have hre : runEnd src [3] p = q := HR.out.trans (runEnd_stop src [3] q hq (by have := HP.out; simpa using this))
              have hrest := rest_number src p hlt HK.out
              have hsz := run_end src [3] p hlt (by rw [HK.out]; rfl)
              have hdig : digits (src.extract p (runEnd src [3] p)).data.toList := by
                rw [run_data src [3] p (by omega)]
                intro c hc
                have := mem_while _ _ c hc
                exact kl_digit c (by simpa using this)
              rw [hre] at hrest hsz hdig
              have hpq : p < q := by omega
              have hxs := extract_size src p q hq2
              have HN := Aside0.mk (rnumber_w (src.extract p q) (by omega) (by omega) hdig)
              have HREST := Aside0.mk hrest
              clear hrest hsz hre hdig hxs
              go_wp2_with (first | (go_at_call 43; refine (figure_w src[q] _).mono ?_; rintro e w1 ⟨rfl, ⟨n3, rfl⟩⟩))
              refine (HN.out _).mono ?_
              rintro e w3 ⟨⟨num, rfl, hnum⟩, ⟨n4, rfl⟩⟩
              cases hn : okNum (src.extract p q).data.toList
              · have HB := Aside0.mk (show rest src p = .error p by rw [HREST.out, hn]; rfl)
                clear hnum
                go_wp2
                go_ret3
                exact (HI.out.drewN _).bad HB.out
              · have HB := Aside0.mk (show rest src p = cons1 ⟨2, (⟨#[]⟩ : ByteArray), num, p⟩ (rest src q) by rw [HREST.out, hn, hnum hn]; rfl)
                have HI5 := Aside0.mk (HI.out.drewN (n2 + n3 + n4))
                clear hnum
                go_wp2_with (((with_reducible refine gate_builtin (b := .append) (xs := #[.tmp 114, .tmp 118]) rfl ?_); at_builtin; go_loud (refine Kd.R_append k35 (w0 := w) w.heap.size rfl (.tmp 114) (.tmp 118) 23 35 (.agg #[(.int .i64 0), (.string ⟨#[]⟩), (.int .i64 0), (.int .i64 0)]) 40 rfl Tryd.underlying23 info35 rfl (by decide) (by decide) (.slice A l.length c) l ⟨2, (⟨#[]⟩ : ByteArray), num, p⟩ [.int .i64 2, .string (⟨#[]⟩ : ByteArray), .int .i64 num, .int .i64 p] (fun _ => True) (fun _ => False) rfl rfl (k35_mkM _ _ _ (⟨2, (⟨#[]⟩ : ByteArray), num, p⟩ : S35)) (fun _ hk => hk.elim) (fun _ _ => trivial) HI5.out.row HI5.out.keep (Nat.le_trans HI.out.keep.size (by simp)) (by have := HI.out.len; omega) ?_); intro v1 w5 ho5 hb5 hg5 hat5))
                go_wp2
                exact ⟨⟨q, l ++ [⟨2, (⟨#[]⟩ : ByteArray), num, p⟩], rfl, ⟨HI.out.step hpq hq2 HB.out ho5 hb5⟩⟩, by simp [intOf]; omega⟩
          · have hre : runEnd src [3] p = q := HR.out.trans (runEnd_end src [3] q (by omega))
            have hrest := rest_number src p hlt HK.out
            have hsz := run_end src [3] p hlt (by rw [HK.out]; rfl)
            have hdig : digits (src.extract p (runEnd src [3] p)).data.toList := by
              rw [run_data src [3] p (by omega)]
              intro c hc
              have := mem_while _ _ c hc
              exact kl_digit c (by simpa using this)
            rw [hre] at hrest hsz hdig
            have hpq : p < q := by omega
            have hxs := extract_size src p q hq2
            have HN := Aside0.mk (rnumber_w (src.extract p q) (by omega) (by omega) hdig)
            have HREST := Aside0.mk hrest
            clear hrest hsz hre hdig hxs
            go_wp2_with (fail)
            refine (HN.out _).mono ?_
            rintro e w3 ⟨⟨num, rfl, hnum⟩, ⟨n4, rfl⟩⟩
            cases hn : okNum (src.extract p q).data.toList
            · have HB := Aside0.mk (show rest src p = .error p by rw [HREST.out, hn]; rfl)
              clear hnum
              go_wp2
              go_ret3
              exact (HI.out.drewN _).bad HB.out
            · have HB := Aside0.mk (show rest src p = cons1 ⟨2, (⟨#[]⟩ : ByteArray), num, p⟩ (rest src q) by rw [HREST.out, hn, hnum hn]; rfl)
              have HI5 := Aside0.mk (HI.out.drewN (n2 + n4))
              clear hnum
              go_wp2_with (((with_reducible refine gate_builtin (b := .append) (xs := #[.tmp 114, .tmp 118]) rfl ?_); at_builtin; go_loud (refine Kd.R_append k35 (w0 := w) w.heap.size rfl (.tmp 114) (.tmp 118) 23 35 (.agg #[(.int .i64 0), (.string ⟨#[]⟩), (.int .i64 0), (.int .i64 0)]) 40 rfl Tryd.underlying23 info35 rfl (by decide) (by decide) (.slice A l.length c) l ⟨2, (⟨#[]⟩ : ByteArray), num, p⟩ [.int .i64 2, .string (⟨#[]⟩ : ByteArray), .int .i64 num, .int .i64 p] (fun _ => True) (fun _ => False) rfl rfl (k35_mkM _ _ _ (⟨2, (⟨#[]⟩ : ByteArray), num, p⟩ : S35)) (fun _ hk => hk.elim) (fun _ _ => trivial) HI5.out.row HI5.out.keep (Nat.le_trans HI.out.keep.size (by simp)) (by have := HI.out.len; omega) ?_); intro v1 w5 ho5 hb5 hg5 hat5))
              go_wp2
              exact ⟨⟨q, l ++ [⟨2, (⟨#[]⟩ : ByteArray), num, p⟩], rfl, ⟨HI.out.step hpq hq2 HB.out ho5 hb5⟩⟩, by simp [intOf]; omega⟩
      · have d1 : decide (kl src[p] = 1) = false := decide_eq_false (by omega)
        have d2 : decide (kl src[p] = 2) = false := decide_eq_false (by omega)
        have d3 : decide (kl src[p] = 3) = false := decide_eq_false (by omega)
        have d4 : decide (kl src[p] = 4) = true := decide_eq_true hk
        obtain ⟨A, c, hv⟩ := Kd.R_slice HI.out.row
        subst hv
        cases hc : Lib.hasPrefix (src.data.toList.drop p) [47, 47]
        · have hone : src.extract p (p + 1) = bs [src[p]] := ((bs_inj _ _).2 (by rw [Lib.extract_data, data_drop src p hlt, Nat.add_sub_cancel_left]; rfl)).symm
          have HS := Aside0.mk (show rest src p = cons1 ⟨3, src.extract p (p + 1), 0, p⟩ (rest src (p + 1)) by rw [hone]; exact rest_sign src p hlt hk hc)
          clear hone
          by_cases h1 : src[p] = 47
          · have g1 : ((src[p].toNat : Int) == 47) = true := by rw [h1]; rfl
            by_cases h2 : p + 1 < src.size
            · have h3 : ¬ src[p + 1] = 47 := fun h3 => by
                rw [drop_at src p hlt, (prefix_two _ _).2 ⟨h1, by rw [drop_at src (p + 1) h2]; exact congrArg some h3⟩] at hc
                cases hc
              have g3 : ((src[p + 1].toNat : Int) == 47) = false := beq_eq_false_iff_ne.2 fun h4 => h3 (UInt8.toNat_inj.1 (by show src[p + 1].toNat = 47; omega))
              clear h1 h3
              have HK := Aside0.mk hk
              clear hk h47 hc
              go_wp2_with (first | (go_at_call 25; refine (space_w src[p] _).mono ?_; rintro e w1 ⟨rfl, ⟨n1, rfl⟩⟩) | (go_at_call 41; refine (letter_w src[p] _).mono ?_; rintro e w1 ⟨rfl, ⟨n2, rfl⟩⟩) | (go_at_call 43; refine (figure_w src[p] _).mono ?_; rintro e w1 ⟨rfl, ⟨n3, rfl⟩⟩) | (go_at_call 45; refine (sign_w src[p] _).mono ?_; rintro e w1 ⟨rfl, ⟨n4, rfl⟩⟩; have HI5 := Aside0.mk (HI.out.drewN (n1 + n2 + n3 + n4))) | ((with_reducible refine gate_builtin (b := .append) (xs := #[.tmp 128, .tmp 135]) rfl ?_); at_builtin; go_loud (refine Kd.R_append k35 (w0 := w) w.heap.size rfl (.tmp 128) (.tmp 135) 23 35 (.agg #[(.int .i64 0), (.string ⟨#[]⟩), (.int .i64 0), (.int .i64 0)]) 40 rfl Tryd.underlying23 info35 rfl (by decide) (by decide) (.slice A l.length c) l ⟨3, src.extract p (p + 1), 0, p⟩ [.int .i64 3, .string (src.extract p (p + 1)), .int .i64 0, .int .i64 p] (fun _ => True) (fun _ => False) rfl rfl (k35_mkM _ _ _ (⟨3, src.extract p (p + 1), 0, p⟩ : S35)) (fun _ hk => hk.elim) (fun _ _ => trivial) HI5.out.row HI5.out.keep (Nat.le_trans HI.out.keep.size (by simp)) (by have := HI.out.len; omega) ?_); intro v1 w5 ho5 hb5 hg5 hat5))
              go_wp2
              exact ⟨⟨p + 1, l ++ [⟨3, src.extract p (p + 1), 0, p⟩], rfl, ⟨HI.out.step (by omega) (by omega) HS.out ho5 hb5⟩⟩, by simp [intOf]; omega⟩
            · have g2 : decide ((p : Int) + 1 < (src.size : Int)) = false := decide_eq_false (by omega)
              clear h1
              have HK := Aside0.mk hk
              clear hk h47 hc
              go_wp2_with (first | (go_at_call 25; refine (space_w src[p] _).mono ?_; rintro e w1 ⟨rfl, ⟨n1, rfl⟩⟩) | (go_at_call 41; refine (letter_w src[p] _).mono ?_; rintro e w1 ⟨rfl, ⟨n2, rfl⟩⟩) | (go_at_call 43; refine (figure_w src[p] _).mono ?_; rintro e w1 ⟨rfl, ⟨n3, rfl⟩⟩) | (go_at_call 45; refine (sign_w src[p] _).mono ?_; rintro e w1 ⟨rfl, ⟨n4, rfl⟩⟩; have HI5 := Aside0.mk (HI.out.drewN (n1 + n2 + n3 + n4))) | ((with_reducible refine gate_builtin (b := .append) (xs := #[.tmp 128, .tmp 135]) rfl ?_); at_builtin; go_loud (refine Kd.R_append k35 (w0 := w) w.heap.size rfl (.tmp 128) (.tmp 135) 23 35 (.agg #[(.int .i64 0), (.string ⟨#[]⟩), (.int .i64 0), (.int .i64 0)]) 40 rfl Tryd.underlying23 info35 rfl (by decide) (by decide) (.slice A l.length c) l ⟨3, src.extract p (p + 1), 0, p⟩ [.int .i64 3, .string (src.extract p (p + 1)), .int .i64 0, .int .i64 p] (fun _ => True) (fun _ => False) rfl rfl (k35_mkM _ _ _ (⟨3, src.extract p (p + 1), 0, p⟩ : S35)) (fun _ hk => hk.elim) (fun _ _ => trivial) HI5.out.row HI5.out.keep (Nat.le_trans HI.out.keep.size (by simp)) (by have := HI.out.len; omega) ?_); intro v1 w5 ho5 hb5 hg5 hat5))
              go_wp2
              exact ⟨⟨p + 1, l ++ [⟨3, src.extract p (p + 1), 0, p⟩], rfl, ⟨HI.out.step (by omega) (by omega) HS.out ho5 hb5⟩⟩, by simp [intOf]; omega⟩
          · have g1 : ((src[p].toNat : Int) == 47) = false := beq_eq_false_iff_ne.2 fun h4 => h1 (UInt8.toNat_inj.1 (by show src[p].toNat = 47; omega))
            clear h1
            have HK := Aside0.mk hk
            clear hk h47 hc
            go_wp2_with (first | (go_at_call 25; refine (space_w src[p] _).mono ?_; rintro e w1 ⟨rfl, ⟨n1, rfl⟩⟩) | (go_at_call 41; refine (letter_w src[p] _).mono ?_; rintro e w1 ⟨rfl, ⟨n2, rfl⟩⟩) | (go_at_call 43; refine (figure_w src[p] _).mono ?_; rintro e w1 ⟨rfl, ⟨n3, rfl⟩⟩) | (go_at_call 45; refine (sign_w src[p] _).mono ?_; rintro e w1 ⟨rfl, ⟨n4, rfl⟩⟩; have HI5 := Aside0.mk (HI.out.drewN (n1 + n2 + n3 + n4))) | ((with_reducible refine gate_builtin (b := .append) (xs := #[.tmp 128, .tmp 135]) rfl ?_); at_builtin; go_loud (refine Kd.R_append k35 (w0 := w) w.heap.size rfl (.tmp 128) (.tmp 135) 23 35 (.agg #[(.int .i64 0), (.string ⟨#[]⟩), (.int .i64 0), (.int .i64 0)]) 40 rfl Tryd.underlying23 info35 rfl (by decide) (by decide) (.slice A l.length c) l ⟨3, src.extract p (p + 1), 0, p⟩ [.int .i64 3, .string (src.extract p (p + 1)), .int .i64 0, .int .i64 p] (fun _ => True) (fun _ => False) rfl rfl (k35_mkM _ _ _ (⟨3, src.extract p (p + 1), 0, p⟩ : S35)) (fun _ hk => hk.elim) (fun _ _ => trivial) HI5.out.row HI5.out.keep (Nat.le_trans HI.out.keep.size (by simp)) (by have := HI.out.len; omega) ?_); intro v1 w5 ho5 hb5 hg5 hat5))
            go_wp2
            exact ⟨⟨p + 1, l ++ [⟨3, src.extract p (p + 1), 0, p⟩], rfl, ⟨HI.out.step (by omega) (by omega) HS.out ho5 hb5⟩⟩, by simp [intOf]; omega⟩
        · have hr := rest_comment src p hlt hk hc
          have hx := hc
          rw [drop_at src p hlt] at hx
          have hx2 := (prefix_two _ _).1 hx
          have h2 : p + 1 < src.size := by
            rcases Nat.lt_or_ge (p + 1) src.size with h | h
            · exact h
            · rw [List.drop_of_length_le (by rw [size_data]; exact h)] at hx2
              cases hx2.2
          have h3 : src[p + 1] = 47 := by
            have := hx2.2
            rw [drop_at src (p + 1) h2] at this
            exact Option.some.inj this
          have g1 : ((src[p].toNat : Int) == 47) = true := by rw [hx2.1]; rfl
          have g3 : ((src[p + 1].toNat : Int) == 47) = true := by rw [h3]; rfl
          have HR0 := Aside0.mk hr
          have HK := Aside0.mk hk
          clear hk h47 hc hr hx hx2 h3
          go_wp2_with (first | (go_at_call 25; refine (space_w src[p] _).mono ?_; rintro e w1 ⟨rfl, ⟨n1, rfl⟩⟩))
          go_loopw [6] (fun i w2 => ∃ q : Nat, p ≤ q ∧ q ≤ src.size ∧ i = .int .i64 (q : Int) ∧ Aside0 (lineEnd src p = lineEnd src q) ∧ Drawn0 wr w2) (fun i _ => src.size - (intOf i).toNat)
          case atStart => exact ⟨p, Nat.le_refl _, Nat.le_of_lt hlt, rfl, ⟨rfl⟩, ⟨⟨_, rfl⟩⟩⟩
          case round =>
            obtain ⟨q, hq1, hq2, rfl, HR, ⟨n2, rfl⟩⟩ := hrel
            by_cases hq : q < src.size
            · by_cases h10 : src[q] = 10
              · have g5 : ((src[q].toNat : Int) != 10) = false := by rw [h10]; rfl
                have HQ := Aside0.mk (HR.out.trans (lineEnd_stop src q hq h10))
                clear h10
                go_wp2
                exact ⟨⟨q, l, rfl, ⟨HI.out.skip hq1 hq2 (by rw [HR0.out.1, HQ.out]) _⟩⟩, by have := HR0.out.2.1; rw [HQ.out] at this; simp [intOf]; omega⟩
              · have g5 : ((src[q].toNat : Int) != 10) = true := bne_iff_ne.2 fun h4 => h10 (UInt8.toNat_inj.1 (by show src[q].toNat = 10; omega))
                have HQ := Aside0.mk (HR.out.trans (lineEnd_go src q hq h10))
                clear h10
                go_wp2
                refine ⟨⟨q + 1, by omega, by omega, by simp, ⟨HQ.out⟩, ⟨⟨_, rfl⟩⟩⟩, by simp [intOf]; omega⟩
            · have HQ := Aside0.mk (HR.out.trans (lineEnd_end src q (by omega)))
              go_wp2
              exact ⟨⟨q, l, rfl, ⟨HI.out.skip hq1 hq2 (by rw [HR0.out.1, HQ.out]) _⟩⟩, by have := HR0.out.2.1; rw [HQ.out] at this; simp [intOf]; omega⟩
      · have h4 := h47 (by omega)
        have d1 : decide (kl src[p] = 1) = false := decide_eq_false (by omega)
        have d2 : decide (kl src[p] = 2) = false := decide_eq_false (by omega)
        have d3 : decide (kl src[p] = 3) = false := decide_eq_false (by omega)
        have d4 : decide (kl src[p] = 4) = false := decide_eq_false (by omega)
        have HK := Aside0.mk hk
        clear hk h47
        go_wp2_with (first | (go_at_call 25; refine (space_w src[p] _).mono ?_; rintro e w1 ⟨rfl, ⟨n1, rfl⟩⟩) | (go_at_call 41; refine (letter_w src[p] _).mono ?_; rintro e w1 ⟨rfl, ⟨n1, rfl⟩⟩) | (go_at_call 43; refine (figure_w src[p] _).mono ?_; rintro e w1 ⟨rfl, ⟨n1, rfl⟩⟩) | (go_at_call 45; refine (sign_w src[p] _).mono ?_; rintro e w1 ⟨rfl, ⟨n1, rfl⟩⟩))
        go_ret3
        exact (HI.out.drewN _).bad (rest_wrong src p hlt (.inr HK.out))
    · go_wp2
      go_ret3
      exact HI.out.done (by omega)
def sizarref09_Lex.f (a0 : ByteArray) : Option (List Tok × Int × Int) := lex_Lex.f a0
theorem sizarref09_Lex.calls (a0 : ByteArray) (r1 : List S35) (r2 r3 : Int) (w : World) (h : sizarref09_Lex.f a0 = some (r1, r2, r3)) :
    Calls Tryd.prog 16 #[.string a0] w fun e w' => ∃ v0_ : Value, e = .returned (.tuple #[v0_, .int .i64 r2, .int .i64 r3]) ∧ Kd.R k35 35 w' w.heap.size (fun _ => True) v0_ r1 ∧ Below w.heap.size w w' := by
  unfold sizarref09_Lex.f lex_Lex.f at h
  split at h
  · rename_i hs
    injection h with h
    injection h with h1 h
    injection h with h2 h3
    subst h1; subst h2; subst h3
    exact rlex_long a0 w hs
  · rename_i hs
    have hm := rlex_main a0 w (by omega)
    have he : lexOf a0.data.toList = rest a0 0 := by rw [lexOf_R]; rfl
    rw [he] at h
    cases hr : rest a0 0 with
    | ok l =>
      rw [hr] at h hm
      injection h with h
      injection h with h1 h
      injection h with h2 h3
      subst h1; subst h2; subst h3
      exact hm
    | error p =>
      rw [hr] at h hm
      injection h with h
      injection h with h1 h
      injection h with h2 h3
      subst h1; subst h2; subst h3
      exact hm
end Go.Proofs.YtomglbjcfcijkaaDoor.PLx
