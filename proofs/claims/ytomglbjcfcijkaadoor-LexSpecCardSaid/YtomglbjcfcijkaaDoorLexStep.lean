/- THE LEXER, ONE TOKEN AT A TIME: what a method of the scanner does is what the plain lexer does. -/
import Derived.Test.YtomglbjcfcijkaaDoorLexSign
namespace Go.Proofs.YtomglbjcfcijkaaDoor.PLx
open Go.RowKit Go.Proofs.YtomglbjcfcijkaaDoorW.PrintWords Go.Proofs.YtomglbjcfcijkaaDoorW.PrintLast Go.Proofs.YtomglbjcfcijkaaDoorW.PrintMore

theorem drop_while_le (P : UInt8 → Bool) (l : List UInt8) : (l.dropWhile P).length ≤ l.length := (List.dropWhile_sublist P).length_le
/-- The rounds don't matter, so long as there are enough. -/
theorem lexL_fuel : ∀ (n m : Nat) (l : List UInt8) (p : Nat), l.length < n → l.length < m → lexL n l p = lexL m l p
  | 0, _, _, _, h, _ => absurd h (Nat.not_lt_zero _)
  | _ + 1, 0, _, _, _, h => absurd h (Nat.not_lt_zero _)
  | _ + 1, _ + 1, [], _, _, _ => rfl
  | n + 1, m + 1, c :: cs, p, hn, hm => by
    have hn' : cs.length < n := by simpa using hn
    have hm' : cs.length < m := by simpa using hm
    have d1 := drop_while_le isPart cs
    have d2 := drop_while_le isDig cs
    have d3 := drop_while_le (fun b => b != 10) cs
    have e0 := fun q => lexL_fuel n m cs q hn' hm'
    have e1 := fun q => lexL_fuel n m (cs.dropWhile isPart) q (by omega) (by omega)
    have e2 := fun q => lexL_fuel n m (cs.dropWhile isDig) q (by omega) (by omega)
    have e3 := fun q => lexL_fuel n m (cs.dropWhile fun b => b != 10) q (by omega) (by omega)
    simp only [lexL, e0, e1, e2, e3]
/-- The plain lexer with enough rounds. -/
def lexR (l : List UInt8) (p : Nat) : Except Nat (List Tok) := lexL (l.length + 1) l p
theorem lexL_R (n : Nat) (l : List UInt8) (p : Nat) (h : l.length < n) : lexL n l p = lexR l p := lexL_fuel _ _ _ _ h (Nat.lt_succ_self _)
theorem lexR_nil (p : Nat) : lexR [] p = .ok [] := rfl
theorem lexR_cons (c : UInt8) (cs : List UInt8) (p : Nat) : lexR (c :: cs) p =
    if kl c = 1 then lexR cs (p + 1)
    else if kl c = 2 then
      if (cs.takeWhile isPart).length < 32 then cons1 ⟨1, bs (c :: cs.takeWhile isPart), 0, p⟩ (lexR (cs.dropWhile isPart) (p + 1 + (cs.takeWhile isPart).length))
      else .error p
    else if kl c = 3 then
      if okNum (c :: cs.takeWhile isDig) = true then cons1 ⟨2, bs [], numVal (c :: cs.takeWhile isDig), p⟩ (lexR (cs.dropWhile isDig) (p + 1 + (cs.takeWhile isDig).length))
      else .error p
    else if kl c = 4 then
      if c = 47 ∧ cs.head? = some 47 then lexR (cs.dropWhile fun b => b != 10) (p + 1 + (cs.takeWhile fun b => b != 10).length)
      else cons1 ⟨3, bs [c], 0, p⟩ (lexR cs (p + 1))
    else .error p := by
  have d1 := drop_while_le isPart cs
  have d2 := drop_while_le isDig cs
  have d3 := drop_while_le (fun b => b != 10) cs
  unfold lexR
  rw [lexL]
  rw [List.length_cons]
  rw [lexL_fuel (cs.length + 1) (cs.length + 1) cs _ (by omega) (by omega), lexL_fuel (cs.length + 1) ((cs.dropWhile isPart).length + 1) (cs.dropWhile isPart) _ (by omega) (by omega), lexL_fuel (cs.length + 1) ((cs.dropWhile isDig).length + 1) (cs.dropWhile isDig) _ (by omega) (by omega), lexL_fuel (cs.length + 1) ((cs.dropWhile fun b => b != 10).length + 1) (cs.dropWhile fun b => b != 10) _ (by omega) (by omega)]
theorem lexOf_R (l : List UInt8) : lexOf l = lexR l 0 := rfl
/-- Tokens ahead of what comes. -/
def prep (l : List Tok) : Except Nat (List Tok) → Except Nat (List Tok)
  | .ok r => .ok (l ++ r)
  | .error p => .error p
theorem prep_nil (x : Except Nat (List Tok)) : prep [] x = x := by cases x <;> rfl
theorem prep_one (t : Tok) (x : Except Nat (List Tok)) : prep [t] x = cons1 t x := by cases x <;> rfl
theorem prep_prep (a b : List Tok) (x : Except Nat (List Tok)) : prep a (prep b x) = prep (a ++ b) x := by cases x <;> simp [prep]
/-- What is left of a source. -/
def rest (src : ByteArray) (p : Nat) : Except Nat (List Tok) := lexR (src.data.toList.drop p) p
theorem rest_end (src : ByteArray) (p : Nat) (h : src.size ≤ p) : rest src p = .ok [] := by
  unfold rest; rw [List.drop_of_length_le (by rw [size_data]; exact h)]; rfl
theorem drop_while_drop (P : UInt8 → Bool) : ∀ l : List UInt8, l.dropWhile P = l.drop (l.takeWhile P).length
  | [] => rfl
  | c :: r => by
    cases h : P c
    · rw [List.takeWhile_cons_of_neg (by simp [h]), List.dropWhile_cons_of_neg (by simp [h])]; rfl
    · rw [List.takeWhile_cons_of_pos h, List.dropWhile_cons_of_pos h, List.length_cons, List.drop_succ_cons, drop_while_drop P r]
theorem rest_space (src : ByteArray) : ∀ (d p : Nat), p + d = src.size → rest src p = rest src (runEnd src [1] p)
  | 0, p, h => by rw [runEnd_end src _ p (by omega)]
  | d + 1, p, h => by
    have hp : p < src.size := by omega
    by_cases hk : kl src[p] = 1
    · rw [runEnd_go src _ p hp (by rw [hk]; decide), ← rest_space src d (p + 1) (by omega)]
      unfold rest
      rw [drop_at src p hp, lexR_cons, if_pos hk]
    · rw [runEnd_stop src _ p hp (by simp [hk])]
theorem part_eq (c : UInt8) : ([2, 3, 5] : List Int).contains (kl c) = isPart c := by
  unfold isPart
  simp only [List.contains_cons, List.contains_nil, Bool.or_false, Bool.or_assoc]
theorem dig_eq (c : UInt8) : ([3] : List Int).contains (kl c) = isDig c := by
  unfold isDig
  simp only [List.contains_cons, List.contains_nil, Bool.or_false]
theorem run_head (src : ByteArray) (ls : List Int) (p : Nat) (hp : p < src.size) (hk : ls.contains (kl src[p]) = true) :
    ((src.data.toList.drop p).takeWhile fun c => ls.contains (kl c)) = src[p] :: ((src.data.toList.drop (p + 1)).takeWhile fun c => ls.contains (kl c)) := by
  rw [drop_at src p hp, List.takeWhile_cons_of_pos (by exact hk)]
theorem run_end (src : ByteArray) (ls : List Int) (p : Nat) (hp : p < src.size) (hk : ls.contains (kl src[p]) = true) :
    runEnd src ls p = p + 1 + ((src.data.toList.drop (p + 1)).takeWhile fun c => ls.contains (kl c)).length := by
  unfold runEnd; rw [run_head src ls p hp hk, List.length_cons]; omega
theorem is_parts : ∀ l : List UInt8, (l.takeWhile isPart).all isPart = true
  | [] => rfl
  | c :: r => by
    cases h : isPart c
    · rw [List.takeWhile_cons_of_neg (by simp [h])]; rfl
    · rw [List.takeWhile_cons_of_pos h, List.all_cons, h, is_parts r]; rfl
theorem rest_name (src : ByteArray) (p : Nat) (hp : p < src.size) (hk : kl src[p] = 2) :
    rest src p = if isName (src.extract p (runEnd src [2, 3, 5] p)).data.toList = true then cons1 ⟨1, src.extract p (runEnd src [2, 3, 5] p), 0, p⟩ (rest src (runEnd src [2, 3, 5] p)) else .error p := by
  have hr := run_head src [2, 3, 5] p hp (by rw [hk]; rfl)
  have he := run_end src [2, 3, 5] p hp (by rw [hk]; rfl)
  have hd := run_data src [2, 3, 5] p (by omega)
  rw [hr] at hd
  simp only [part_eq] at hd he
  have hx : src.extract p (runEnd src [2, 3, 5] p) = bs (src[p] :: ((src.data.toList.drop (p + 1)).takeWhile isPart)) := by
    rw [eq_comm, bs_inj, hd]
  rw [hx]
  have hname : isName (bs (src[p] :: ((src.data.toList.drop (p + 1)).takeWhile isPart))).data.toList = decide (((src.data.toList.drop (p + 1)).takeWhile isPart).length < 32) := by
    show isName (src[p] :: _) = _
    unfold isName
    show (decide _ && kl src[p] == 2 && _) = _
    rw [hk, is_parts]; simp
  rw [hname]
  unfold rest
  rw [drop_at src p hp, lexR_cons, if_neg (by omega), if_pos hk]
  rw [drop_while_drop, List.drop_drop, he]
  simp only [decide_eq_true_eq]
theorem rest_number (src : ByteArray) (p : Nat) (hp : p < src.size) (hk : kl src[p] = 3) :
    rest src p = if okNum (src.extract p (runEnd src [3] p)).data.toList = true then cons1 ⟨2, bs [], numVal (src.extract p (runEnd src [3] p)).data.toList, p⟩ (rest src (runEnd src [3] p)) else .error p := by
  have hr := run_head src [3] p hp (by rw [hk]; rfl)
  have he := run_end src [3] p hp (by rw [hk]; rfl)
  have hd := run_data src [3] p (by omega)
  rw [hr] at hd
  simp only [dig_eq] at hd he
  rw [hd]
  unfold rest
  rw [drop_at src p hp, lexR_cons, if_neg (by omega), if_neg (by omega), if_pos hk]
  rw [drop_while_drop, List.drop_drop, he]
theorem prefix_two (c : UInt8) (cs : List UInt8) : Lib.hasPrefix (c :: cs) [47, 47] = true ↔ c = 47 ∧ cs.head? = some 47 := by
  cases cs with
  | nil => simp [Lib.hasPrefix]
  | cons d cs =>
    simp only [Lib.hasPrefix, List.isPrefixOf_cons_cons, List.isPrefixOf_nil_left, Bool.and_true, Bool.and_eq_true, beq_iff_eq, List.head?_cons, Option.some.injEq]
    constructor
    · rintro ⟨rfl, rfl⟩; exact ⟨rfl, rfl⟩
    · rintro ⟨rfl, rfl⟩; exact ⟨rfl, rfl⟩
theorem rest_comment (src : ByteArray) (p : Nat) (hp : p < src.size) (hk : kl src[p] = 4) (hc : Lib.hasPrefix (src.data.toList.drop p) [47, 47] = true) : rest src p = rest src (lineEnd src p) ∧ p < lineEnd src p ∧ lineEnd src p ≤ src.size := by
  rw [drop_at src p hp] at hc
  have h2 := (prefix_two _ _).1 hc
  have hn : (src[p] != 10) = true := by rw [h2.1]; rfl
  have hle : lineEnd src p = p + 1 + ((src.data.toList.drop (p + 1)).takeWhile fun b => b != 10).length := by
    unfold lineEnd
    rw [drop_at src p hp, List.takeWhile_cons_of_pos (by exact hn), List.length_cons]; omega
  have hlen := (List.takeWhile_sublist (fun b : UInt8 => b != 10) (l := src.data.toList.drop (p + 1))).length_le
  rw [List.length_drop, size_data] at hlen
  refine ⟨?_, by omega, by omega⟩
  unfold rest
  rw [drop_at src p hp, lexR_cons, if_neg (by omega), if_neg (by omega), if_neg (by omega), if_pos hk, if_pos h2]
  rw [drop_while_drop, List.drop_drop, hle]
theorem rest_sign (src : ByteArray) (p : Nat) (hp : p < src.size) (hk : kl src[p] = 4) (hc : Lib.hasPrefix (src.data.toList.drop p) [47, 47] = false) : rest src p = cons1 ⟨3, bs [src[p]], 0, p⟩ (rest src (p + 1)) := by
  rw [drop_at src p hp] at hc
  have h2 : ¬ (src[p] = 47 ∧ (src.data.toList.drop (p + 1)).head? = some 47) := fun h => by rw [(prefix_two _ _).2 h] at hc; cases hc
  unfold rest
  rw [drop_at src p hp, lexR_cons, if_neg (by omega), if_neg (by omega), if_neg (by omega), if_pos hk, if_neg h2]
theorem rest_wrong (src : ByteArray) (p : Nat) (hp : p < src.size) (hk : kl src[p] = 0 ∨ kl src[p] = 5) : rest src p = .error p := by
  unfold rest
  rw [drop_at src p hp, lexR_cons, if_neg (by omega), if_neg (by omega), if_neg (by omega), if_neg (by omega)]

/-- One round of the lexer. -/
def Stepped (B : Nat) (w : World) (src : ByteArray) (p : Nat) (l : List Tok) (e : Ending) (w' : World) : Prop :=
  Below B w w' ∧ ((e = .returned (.tuple #[]) ∧ ∃ q v' l2, SI B w' src q v' (l ++ l2) ∧ p < q ∧ q ≤ src.size ∧ l2.length ≤ 1 ∧ rest src p = prep l2 (rest src q)) ∨ (e = .panicked [{ v := .iface 56 (.int .i64 p), recovered := false }] ∧ rest src p = .error p))
theorem kl_range (c : UInt8) : kl c = 0 ∨ kl c = 1 ∨ kl c = 2 ∨ kl c = 3 ∨ kl c = 4 ∨ kl c = 5 := by
  unfold kl cls
  repeat' split
  all_goals simp
theorem step_wrong (B : Nat) (src : ByteArray) (p : Nat) (v : Value) (l : List Tok) (w : World) (hp : p < src.size) (hk : kl src[p] = 0 ∨ kl src[p] = 5) (hI : SI B w src p v l) :
    Calls Tryd.prog 35 #[.pointer (some ⟨B, 0, none⟩)] w (Stepped B w src p l) := by
  refine (wrong_any B src p v l w hI).mono ?_
  rintro e w' ⟨rfl, hb⟩
  exact ⟨hb, .inr ⟨rfl, rest_wrong src p hp hk⟩⟩
theorem step_space (B : Nat) (src : ByteArray) (p : Nat) (v : Value) (l : List Tok) (w : World) (hs : src.size ≤ 65536) (hp : p < src.size) (hk : kl src[p] = 1) (hI : SI B w src p v l) :
    Calls Tryd.prog 36 #[.pointer (some ⟨B, 0, none⟩)] w (Stepped B w src p l) := by
  refine (space_any B src p v l w hs (by omega) hI).mono ?_
  rintro e w' ⟨rfl, hi, hb⟩
  have h1 := run_size src [1] p (by omega)
  have h2 := run_end src [1] p hp (by rw [hk]; rfl)
  refine ⟨hb, .inl ⟨rfl, _, v, [], by rw [List.append_nil]; exact hi, by omega, h1.1, by simp, ?_⟩⟩
  rw [prep_nil]
  exact rest_space src (src.size - p) p (by omega)
theorem step_name (B : Nat) (src : ByteArray) (p : Nat) (v : Value) (l : List Tok) (w : World) (hs : src.size ≤ 65536) (hp : p < src.size) (hk : kl src[p] = 2) (hl : l.length ≤ 65536) (hI : SI B w src p v l) :
    Calls Tryd.prog 37 #[.pointer (some ⟨B, 0, none⟩)] w (Stepped B w src p l) := by
  refine (name_any B src p v l w hs (by omega) hl hI).mono ?_
  have h1 := run_size src [2, 3, 5] p (by omega)
  have h2 := run_end src [2, 3, 5] p hp (by rw [hk]; rfl)
  have h3 := rest_name src p hp hk
  rintro e w' ⟨hb, ⟨ho, rfl, v', hi⟩ | ⟨ho, rfl⟩⟩
  · rw [if_pos ho] at h3
    refine ⟨hb, .inl ⟨rfl, _, v', [_], hi, by omega, by omega, by simp, ?_⟩⟩
    rw [prep_one, h3, Nat.add_sub_cancel' h1.2]
  · rw [if_neg (by rw [ho]; simp)] at h3
    exact ⟨hb, .inr ⟨rfl, h3⟩⟩
theorem step_number (B : Nat) (src : ByteArray) (p : Nat) (v : Value) (l : List Tok) (w : World) (hL : Laid w) (hs : src.size ≤ 65536) (hp : p < src.size) (hk : kl src[p] = 3) (hl : l.length ≤ 65536) (hI : SI B w src p v l) :
    Calls Tryd.prog 38 #[.pointer (some ⟨B, 0, none⟩)] w (Stepped B w src p l) := by
  refine (number_any B src p v l w hL hs hp hk hl hI).mono ?_
  have h1 := run_size src [3] p (by omega)
  have h2 := run_end src [3] p hp (by rw [hk]; rfl)
  have h3 := rest_number src p hp hk
  rintro e w' ⟨hb, ⟨ho, rfl, v', hi⟩ | ⟨ho, rfl⟩⟩
  · rw [if_pos ho] at h3
    refine ⟨hb, .inl ⟨rfl, _, v', [_], hi, by omega, by omega, by simp, ?_⟩⟩
    rw [prep_one, h3, Nat.add_sub_cancel' h1.2]
  · rw [if_neg (by rw [ho]; simp)] at h3
    exact ⟨hb, .inr ⟨rfl, h3⟩⟩
theorem step_sign (B : Nat) (src : ByteArray) (p : Nat) (v : Value) (l : List Tok) (w : World) (hs : src.size ≤ 65536) (hp : p < src.size) (hk : kl src[p] = 4) (hl : l.length ≤ 65536) (hI : SI B w src p v l) :
    Calls Tryd.prog 39 #[.pointer (some ⟨B, 0, none⟩)] w (Stepped B w src p l) := by
  cases hc : Lib.hasPrefix (src.data.toList.drop p) [47, 47]
  · refine (sign_token B src p v l w hs hp hk hl hc hI).mono ?_
    rintro e w' ⟨hb, ⟨ho, rfl, v', hi⟩ | ⟨ho, rfl⟩⟩
    · refine ⟨hb, .inl ⟨rfl, _, v', [_], hi, by omega, by omega, by simp, ?_⟩⟩
      rw [prep_one, rest_sign src p hp hk hc]
    · cases ho
  · refine (sign_comment B src p v l w hs hp hc hI).mono ?_
    rintro e w' ⟨rfl, hi, hb⟩
    obtain ⟨h1, h2, h3⟩ := rest_comment src p hp hk hc
    refine ⟨hb, .inl ⟨rfl, _, v, [], by rw [List.append_nil]; exact hi, h2, h3, by simp, ?_⟩⟩
    rw [prep_nil, h1]
end Go.Proofs.YtomglbjcfcijkaaDoor.PLx
