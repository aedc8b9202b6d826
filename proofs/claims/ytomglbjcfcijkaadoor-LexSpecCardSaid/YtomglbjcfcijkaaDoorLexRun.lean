/- THE LOOP OVER BYTES OF SOME CLASSES: scanner.run by its contract. -/
import Derived.Test.YtomglbjcfcijkaaDoorPLxxR
import Derived.WalkLawsBesides
import Derived.WalkSpells
import Derived.Outline
import Derived.Lib.Hide
import Derived.Lib.Strings
namespace Go.Proofs.YtomglbjcfcijkaaDoor.PLx
open Go.RowKit Go.Proofs.YtomglbjcfcijkaaDoorW.PrintWords Go.Proofs.YtomglbjcfcijkaaDoorW.PrintLast Go.Proofs.YtomglbjcfcijkaaDoorW.PrintMore

theorem class_byte (u : UInt8) (w : World) : Calls Tryd.prog 40 #[.int .u8 u.toNat] w fun e w' => e = .returned (.int .i64 (kl u)) ∧ w = w' :=
  class_any _ (by omega) (by have := u.toNat_lt; omega) w

/-- the index at which the loop of slices.Index stops -/
theorem index_l0 (ls : List Int) (a : Int) (hn : ls.length ≤ 9223372036854775806) (d : Nat) : ∀ (k : Nat) (i : Nat), i + d = ls.length → d < k →
    ∃ r, slices_Index_int_int.l0 k ls a (ls.length : Int) (i : Int) = some r ∧ (decide (r ≥ 0) = (ls.drop i).contains a) := by
  induction d with
  | zero =>
    intro k i hi hk
    obtain ⟨k, rfl⟩ : ∃ m, k = m + 1 := ⟨k - 1, by omega⟩
    refine ⟨-1, ?_, ?_⟩
    · simp only [slices_Index_int_int.l0]; rw [if_neg (by omega)]
    · rw [List.drop_of_length_le (by omega)]; rfl
  | succ d ih =>
    intro k i hi hk
    obtain ⟨k, rfl⟩ : ∃ m, k = m + 1 := ⟨k - 1, by omega⟩
    have hlt : i < ls.length := by omega
    have hrd : rd ls (i : Int) = ls[i] := by simp [rd, hlt]
    have hdr : ls.drop i = ls[i] :: ls.drop (i + 1) := List.drop_eq_getElem_cons hlt
    by_cases he : a = ls[i]
    · refine ⟨i, ?_, ?_⟩
      · simp only [slices_Index_int_int.l0]; rw [if_pos (by omega), if_pos (by omega), if_pos (by omega), hrd, if_pos he]
      · rw [hdr, ← he]; simp
    · obtain ⟨r, hr, hh⟩ := ih k (i + 1) (by omega) (by omega)
      refine ⟨r, ?_, ?_⟩
      · simp only [slices_Index_int_int.l0]; rw [if_pos (by omega), if_pos (by omega), if_pos (by omega), hrd, if_neg he]
        rw [show wrap64 ((i : Int) + 1) = ((i + 1 : Nat) : Int) by unfold wrap64; omega]
        exact hr
      · rw [hh, hdr, List.contains_cons, beq_eq_false_iff_ne.2 he, Bool.false_or]
theorem contains_some (ls : List Int) (a : Int) (hn : ls.length ≤ 9223372036854775806) : ∃ k, slices_Contains_int_int.f k ls a = some (ls.contains a) := by
  obtain ⟨r, hr, hh⟩ := index_l0 ls a hn ls.length (ls.length + 1) 0 (by omega) (by omega)
  refine ⟨ls.length + 1, ?_⟩
  unfold slices_Contains_int_int.f slices_Index_int_int.f
  have hr' : slices_Index_int_int.l0 (ls.length + 1) ls a (ls.length : Int) 0 = some r := hr
  rw [hr']
  simp only [Option.bind_some]
  rw [hh]
  simp
theorem contains_any (A : Option Addr) (c : Nat) (ls : List Int) (a : Int) (hn : ls.length ≤ 9223372036854775806) (w : World) (hl : Kd.C (Kd.int .i64) w A ls.length ls) (hlc : ls.length ≤ c) :
    Calls Tryd.prog 91 #[.slice A ls.length c, .int .i64 a] w fun e w' => e = .returned (.bool (ls.contains a)) ∧ Drawn0 w w' := by
  obtain ⟨k, hk⟩ := contains_some ls a hn
  exact slices_Contains_int_int.calls k A c ls a _ w hl hlc hk

/-- Where the bytes of some classes end. -/
def runEnd (src : ByteArray) (ls : List Int) (p : Nat) : Nat := p + ((src.data.toList.drop p).takeWhile fun c => ls.contains (kl c)).length
theorem drop_at (src : ByteArray) (n : Nat) (h : n < src.size) : src.data.toList.drop n = src[n] :: src.data.toList.drop (n + 1) := by
  rw [List.drop_eq_getElem_cons (by simpa using h)]; rfl
theorem runEnd_stop (src : ByteArray) (ls : List Int) (n : Nat) (h : n < src.size) (hc : ls.contains (kl src[n]) = false) : runEnd src ls n = n := by
  unfold runEnd; rw [drop_at src n h, List.takeWhile_cons_of_neg (by rw [hc]; simp)]; rfl
theorem runEnd_end (src : ByteArray) (ls : List Int) (n : Nat) (h : src.size ≤ n) : runEnd src ls n = n := by
  unfold runEnd; rw [List.drop_of_length_le (by simpa using h)]; rfl
theorem runEnd_go (src : ByteArray) (ls : List Int) (n : Nat) (h : n < src.size) (hc : ls.contains (kl src[n]) = true) : runEnd src ls n = runEnd src ls (n + 1) := by
  unfold runEnd; rw [drop_at src n h, List.takeWhile_cons_of_pos (by exact hc)]; simp; omega

set_option maxHeartbeats 1000000 in
theorem run_any (B : Nat) (src : ByteArray) (p : Nat) (v : Value) (A : Option Addr) (c : Nat) (ls : List Int) (w : World)
    (hb : w.heap[B]? = some (.cells #[.string src, .int .i64 p, v] 63 (0, 0))) (hp : p ≤ src.size) (hs : src.size ≤ 65536) (hl : Kd.C (Kd.int .i64) w A ls.length ls) (hlc : ls.length ≤ c) (hl5 : ls.length ≤ 5) :
    Calls Tryd.prog 68 #[.pointer (some ⟨B, 0, none⟩), .slice A ls.length c] w fun e w' => e = .returned (.string (src.extract p (runEnd src ls p))) ∧ Drawn0 w w' := by
  have h0 : w.cell? ⟨B, 0, none⟩ = some (.string src) := by simp [World.cell?, hb]
  have h1 : w.cell? ⟨B, 1, none⟩ = some (.int .i64 p) := by simp [World.cell?, hb]
  have HL := Aside0.mk hl
  have HC := Aside0.mk hlc
  clear hb hl hlc
  go_enter Tryd.func68, Tryd.ntmps68
  go_wp2
  go_loopw [5] (fun n wr => ∃ k : Nat, p ≤ k ∧ k ≤ src.size ∧ n = .int .i64 k ∧ Aside0 (runEnd src ls p = runEnd src ls k) ∧ Drawn0 w wr) (fun n _ => src.size - (intOf n).toNat)
  case atStart => exact ⟨p, Nat.le_refl _, hp, rfl, ⟨rfl⟩, Drawn0.refl w⟩
  case round =>
    obtain ⟨k, hk1, hk2, rfl, HR, hd⟩ := hrel
    obtain ⟨⟨nq, rfl⟩⟩ := hd
    by_cases hlt : k < src.size
    · generalize hcc : ls.contains (kl src[k]) = cc
      have HCC := Aside0.mk hcc
      clear hcc
      cases cc
      · go_wp2_with (first | (go_at_call 40; refine (class_byte _ _).mono ?_; rintro e w' ⟨rfl, rfl⟩) | (go_at_call 91; refine (contains_any A c ls _ (by omega) _ ?s1 HC.out).mono ?_; (case s1 => exact Kd.C_drewN HL.out _); rintro e w' ⟨rfl, ⟨nd, rfl⟩⟩; simp only [HCC.out]))
        go_quiet (fail)
        go_wp2
        go_ret
        have h2 := runEnd_stop src ls k hlt HCC.out
        exact ⟨by rw [HR.out, h2]; rfl, (by repeat (first | exact ⟨⟨_, rfl⟩⟩ | apply Drawn0.step))⟩
      · go_wp2_with (first | (go_at_call 40; refine (class_byte _ _).mono ?_; rintro e w' ⟨rfl, rfl⟩) | (go_at_call 91; refine (contains_any A c ls _ (by omega) _ ?s1 HC.out).mono ?_; (case s1 => exact Kd.C_drewN HL.out _); rintro e w' ⟨rfl, ⟨nd, rfl⟩⟩; simp only [HCC.out]))
        have h2 := runEnd_go src ls k hlt HCC.out
        go_roundw
        case rel => exact ⟨k + 1, by omega, by omega, by go_num, ⟨by rw [HR.out, h2]⟩, (by repeat (first | exact ⟨⟨_, rfl⟩⟩ | apply Drawn0.step))⟩
        case measure => simp [intOf]; omega
    · go_wp2
      go_quiet (fail)
      go_wp2
      go_ret
      have h2 := runEnd_end src ls k (by omega)
      exact ⟨by rw [HR.out, h2]; rfl, (by repeat (first | exact ⟨⟨_, rfl⟩⟩ | apply Drawn0.step))⟩
end Go.Proofs.YtomglbjcfcijkaaDoor.PLx
