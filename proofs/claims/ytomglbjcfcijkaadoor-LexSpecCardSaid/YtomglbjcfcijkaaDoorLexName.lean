/- THE SCANNER's METHOD name by its contract; decimal digits. -/
import Derived.Test.YtomglbjcfcijkaaDoorLexScan
import Derived.Test.YtomglbjcfcijkaaDoorPLxxR
import Derived.Lib.AtoiAll
import Derived.WalkSmall
namespace Go.Proofs.YtomglbjcfcijkaaDoor.PLx
open Go.RowKit Go.Proofs.YtomglbjcfcijkaaDoorW.PrintWords Go.Proofs.YtomglbjcfcijkaaDoorW.PrintLast Go.Proofs.YtomglbjcfcijkaaDoorW.PrintMore

/-- run, at a row of classes that was just made. -/
theorem run_lit (B : Nat) (src : ByteArray) (p : Nat) (v : Value) (l : List Tok) (ls : List Int) (w : World) (hs : src.size ≤ 65536) (hp : p ≤ src.size) (hl5 : ls.length ≤ 5) (hI : SI B w src p v l) :
    Calls Tryd.prog 68 #[.pointer (some ⟨B, 0, none⟩), .slice (some ⟨w.heap.size, 0, none⟩) ls.length ls.length] (w.alloc (.cells (nums .i64 ls).toArray 3)) fun e w' => e = .returned (.string (src.extract p (runEnd src ls p))) ∧ Drawn0 (w.alloc (.cells (nums .i64 ls).toArray 3)) w' :=
  run_any B src p v (some ⟨w.heap.size, 0, none⟩) ls.length ls (w.alloc (.cells (nums .i64 ls).toArray 3)) (hI.alloc _).blk hp hs (lit_C w ls (by omega)) (Nat.le_refl _) hl5

/-- A token that was read: what becomes of the scanner, or its panic. -/
def Adds (B : Nat) (w : World) (src : ByteArray) (p : Nat) (l : List Tok) (n : Nat) (t : Tok) (ok : Bool) (e : Ending) (w' : World) : Prop :=
  Below B w w' ∧ ((ok = true ∧ e = .returned (.tuple #[]) ∧ ∃ v', SI B w' src (p + n) v' (l ++ [⟨t.f0, t.f1, t.f2, p⟩])) ∨ (ok = false ∧ e = .panicked [{ v := .iface 56 (.int .i64 p), recovered := false }]))

theorem add_any (B : Nat) (src : ByteArray) (p : Nat) (v : Value) (l : List Tok) (s : ByteArray) (t : Tok) (w : World) (hts : t.f1.size ≤ 65536) (hs : src.size ≤ 65536) (hp : p + s.size ≤ src.size) (hl : l.length ≤ 65536) (hI : SI B w src p v l) :
    Calls Tryd.prog 69 #[.pointer (some ⟨B, 0, none⟩), .string s, .agg #[.int .i64 t.f0, .string t.f1, .int .i64 t.f2, .int .i64 t.f3]] w (Adds B w src p l s.size t (validT t)) := by
  cases hv : validT t
  · refine (add_bad B src p v l s t w hv hts hI).mono ?_
    rintro e w' ⟨rfl, hb⟩
    exact ⟨hb, .inr ⟨rfl, rfl⟩⟩
  · refine (add_ok B src p v l s t w hv hts hs hp hl hI).mono ?_
    rintro e w' ⟨rfl, hi, hb⟩
    exact ⟨hb, .inl ⟨rfl, rfl, hi⟩⟩

set_option maxHeartbeats 1000000 in
theorem name_any (B : Nat) (src : ByteArray) (p : Nat) (v : Value) (l : List Tok) (w : World) (hs : src.size ≤ 65536) (hp : p ≤ src.size) (hl : l.length ≤ 65536) (hI : SI B w src p v l) :
    Calls Tryd.prog 37 #[.pointer (some ⟨B, 0, none⟩)] w (Adds B w src p l (runEnd src [2, 3, 5] p - p) ⟨1, src.extract p (runEnd src [2, 3, 5] p), 0, 0⟩ (isName (src.extract p (runEnd src [2, 3, 5] p)).data.toList)) := by
  have hrs := run_size src [2, 3, 5] p hp
  have hes := extract_size src p (runEnd src [2, 3, 5] p) hrs.1
  have hrun := run_lit B src p v l [2, 3, 5] w hs hp (by decide) hI
  rw [← hes]
  generalize hre : runEnd src [2, 3, 5] p = q at hrs hes hrun ⊢
  generalize hex : src.extract p q = x at hes hrun ⊢
  have hval : validT ⟨1, x, 0, 0⟩ = isName x.data.toList := by simp [validT]
  have hadd := fun (nq : Nat) => add_any B src p v l x ⟨1, x, 0, 0⟩ ((w.alloc (.cells (nums .i64 [2, 3, 5]).toArray 3)).drewN nq) (by simp; omega) hs (by omega) hl ((hI.alloc _).drew nq)
  rw [hval] at hadd
  have hB : B ≤ w.heap.size := Nat.le_of_lt (blk_lt hI.blk)
  have HRUN := Aside0.mk hrun
  have HADD := Aside0.mk hadd
  clear hrun hadd hval hre hex hes hI
  go_enter Tryd.func37, Tryd.ntmps37
  go_wp2_with (first | (go_at_call 68; refine HRUN.out.mono ?_; rintro e w' ⟨rfl, ⟨nd, rfl⟩⟩) | (go_at_call 69; refine (HADD.out _).mono ?_; rintro e w' ⟨hb, (⟨hok, rfl, hi⟩ | ⟨hok, rfl⟩)⟩ <;> (have HK := Aside0.mk hok; clear hok; have HB := Aside0.mk (((pw_below_drewN ((Below.refl B w).alloc hB _) _).trans hb)); clear hb)))
  · go_end0
    exact ⟨HB.out, .inl ⟨HK.out, rfl, hi⟩⟩
  · exact ⟨rfl, HB.out, .inr ⟨HK.out, rfl⟩⟩

/-- Digits alone. -/
def digits (l : List UInt8) : Prop := ∀ c ∈ l, 48 ≤ c.toNat ∧ c.toNat ≤ 57
theorem parse_digits : ∀ (l : List UInt8) (acc : Nat), digits l → acc < 18446744073709551616 →
    (∃ u, Lib.parseUint10 acc l = .ok u ∧ u = l.foldl (fun n c => 10 * n + (c.toNat - 48)) acc) ∨ (Lib.parseUint10 acc l = .range ∧ 18446744073709551616 ≤ l.foldl (fun n c => 10 * n + (c.toNat - 48)) acc)
  | [], acc, _, _ => .inl ⟨acc, rfl, rfl⟩
  | c :: r, acc, hd, ha => by
    have hc := hd c List.mem_cons_self
    have hr : digits r := fun x hx => hd x (List.mem_cons_of_mem _ hx)
    have mono : ∀ (r : List UInt8) (a b : Nat), a ≤ b → a ≤ r.foldl (fun n c => 10 * n + (c.toNat - 48)) b := by
      intro r
      induction r with
      | nil => intro a b h; exact h
      | cons c r ih => intro a b h; exact ih a _ (by show a ≤ 10 * b + (c.toNat - 48); omega)
    simp only [Lib.parseUint10, List.foldl_cons]
    rw [if_pos hc]
    by_cases h1 : 1844674407370955162 ≤ acc
    · rw [if_pos h1]
      exact .inr ⟨rfl, mono r _ _ (by omega)⟩
    · rw [if_neg h1]
      by_cases h2 : 18446744073709551616 ≤ acc * 10 + (c.toNat - 48)
      · rw [if_pos h2]
        exact .inr ⟨rfl, mono r _ _ (by omega)⟩
      · rw [if_neg h2, Nat.mul_comm 10 acc]
        exact parse_digits r _ hr (by omega)
theorem atoi_digits (l : List UInt8) (h : digits l) (hne : l ≠ []) : Lib.atoiAll l = if numVal l < 9223372036854775808 then .ok (numVal l : Int) else .range := by
  match l, hne with
  | c :: r, _ =>
    have hc := h c List.mem_cons_self
    have hp := parse_digits (c :: r) 0 h (by decide)
    unfold Lib.atoiAll
    simp only []
    rw [if_neg (by omega)]
    unfold Lib.parseMag
    rw [if_neg (by simp)]
    unfold numVal
    rcases hp with ⟨u, hu, rfl⟩ | ⟨hu, hb⟩
    · rw [hu]
      simp only []
      by_cases h2 : 9223372036854775808 ≤ List.foldl (fun n (c : UInt8) => 10 * n + (c.toNat - 48)) 0 (c :: r)
      · rw [if_pos ⟨by omega, h2⟩, if_neg (by omega)]
      · rw [if_neg (by omega), if_neg (by omega), if_neg (by omega), if_pos (by omega)]
    · rw [hu, if_neg (by omega)]

theorem head_append {α : Type} (l r : List α) (h : l ≠ []) : (l ++ r).head? = l.head? := by
  cases l with
  | nil => exact absurd rfl h
  | cons a l => rfl
theorem numVal_snoc (l : List UInt8) (c : UInt8) : numVal (l ++ [c]) = 10 * numVal l + (c.toNat - 48) := by simp [numVal]
theorem dec_lead : ∀ (u : Nat), (Lib.decDigits u).length = 1 ∨ (1 ≤ u ∧ (Lib.decDigits u).head? ≠ some 48 ∧ Lib.decDigits u ≠ []) := by
  intro u
  induction u using Nat.strongRecOn with
  | _ u ih =>
    rw [Lib.decDigits]
    split
    · exact .inl rfl
    · rename_i h
      refine .inr ⟨by omega, ?_, by simp⟩
      rcases Nat.lt_or_ge (u / 10) 10 with h2 | h2
      · rw [Lib.decDigits, dif_pos h2]
        simp only [List.cons_append, List.nil_append, List.head?_cons]
        intro he
        injection he with he
        have := congrArg UInt8.toNat he
        simp at this
        omega
      · rcases ih (u / 10) (by omega) with h3 | ⟨_, h3, h4⟩
        · rw [Lib.decDigits, dif_neg (by omega), List.length_append] at h3
          have : (Lib.decDigits (u / 10 / 10)).length = 0 := by simpa using h3
          exact absurd (List.eq_nil_of_length_eq_zero this) (by
            rcases Nat.lt_or_ge (u / 10 / 10) 10 with h5 | h5
            · rw [Lib.decDigits, dif_pos h5]; simp
            · rw [Lib.decDigits, dif_neg (by omega)]; simp)
        · rw [head_append _ _ h4]
          exact h3
theorem dec_num (l : List UInt8) (h : digits l) (hne : l ≠ []) (hl : l.length = 1 ∨ l.head? ≠ some 48) : Lib.decDigits (numVal l) = l ∧ (l.head? ≠ some 48 → 1 ≤ numVal l) := by
  have key : ∀ (n : Nat) (l : List UInt8), l.length = n + 1 → digits l → (l.length = 1 ∨ l.head? ≠ some 48) → Lib.decDigits (numVal l) = l ∧ (l.head? ≠ some 48 → 1 ≤ numVal l) := by
    intro n
    induction n with
    | zero =>
      intro l hn hd _
      match l, hn with
      | [c], _ =>
        have hc := hd c List.mem_cons_self
        have hv : numVal [c] = c.toNat - 48 := by simp [numVal]
        rw [hv, Lib.decDigits, dif_pos (by omega)]
        refine ⟨?_, fun hh => ?_⟩
        · congr 1
          rw [show 48 + (c.toNat - 48) = c.toNat by omega]
          exact UInt8.ofNat_toNat
        · have : c ≠ 48 := by simpa using hh
          have : c.toNat ≠ 48 := fun h => this (UInt8.toNat_inj.1 h)
          omega
    | succ n ih =>
      intro l hn hd hl
      obtain ⟨r, c, rfl⟩ : ∃ r c, l = r ++ [c] := ⟨l.dropLast, l.getLast (by intro h; simp [h] at hn), (List.dropLast_concat_getLast (by intro h; simp [h] at hn)).symm⟩
      have hrn : r.length = n + 1 := by simpa using hn
      have hr0 : r ≠ [] := by intro h; simp [h] at hrn
      have hc := hd c (by simp)
      have hh : r.head? ≠ some 48 := by
        rcases hl with hl | hl
        · rw [List.length_append, hrn] at hl; simp at hl
        · rwa [head_append _ _ hr0] at hl
      obtain ⟨h1, h2⟩ := ih r hrn (fun x hx => hd x (by simp [hx])) (.inr hh)
      have hp := h2 hh
      rw [numVal_snoc, Lib.decDigits, dif_neg (by omega), show (10 * numVal r + (c.toNat - 48)) / 10 = numVal r by omega, show (10 * numVal r + (c.toNat - 48)) % 10 = c.toNat - 48 by omega, h1, show 48 + (c.toNat - 48) = c.toNat by omega]
      exact ⟨by rw [UInt8.ofNat_toNat], fun _ => by omega⟩
  exact key (l.length - 1) l (by have := List.length_pos_iff.2 hne; omega) h hl
theorem dec_iff (l : List UInt8) (h : digits l) (hne : l ≠ []) : (Lib.decDigits (numVal l) = l) ↔ (l.length = 1 ∨ l.head? ≠ some 48) := by
  constructor
  · intro he
    rcases dec_lead (numVal l) with h1 | ⟨_, h1, _⟩
    · rw [he] at h1; exact .inl h1
    · rw [he] at h1; exact .inr h1
  · exact fun hl => (dec_num l h hne hl).1
end Go.Proofs.YtomglbjcfcijkaaDoor.PLx
