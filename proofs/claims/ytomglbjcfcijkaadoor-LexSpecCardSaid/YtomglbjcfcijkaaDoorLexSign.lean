/- THE SCANNER's METHOD sign by its contract. -/
import Derived.Test.YtomglbjcfcijkaaDoorLexNum
namespace Go.Proofs.YtomglbjcfcijkaaDoor.PLx
open Go.RowKit Go.Proofs.YtomglbjcfcijkaaDoorW.PrintWords Go.Proofs.YtomglbjcfcijkaaDoorW.PrintLast Go.Proofs.YtomglbjcfcijkaaDoorW.PrintMore

theorem index_while : ∀ (l : List UInt8) (c : UInt8), (Lib.indexByte l c = -1 ∧ (l.takeWhile fun b => b != c).length = l.length) ∨ (Lib.indexByte l c = ((l.takeWhile fun b => b != c).length : Int) ∧ (l.takeWhile fun b => b != c).length < l.length)
  | [], c => .inl ⟨rfl, rfl⟩
  | b :: l, c => by
    unfold Lib.indexByte
    by_cases h : b = c
    · subst h
      right
      rw [List.takeWhile_cons_of_neg (by simp)]
      simp
    · rw [if_neg (by simpa using h), List.takeWhile_cons_of_pos (by simpa using h)]
      rcases index_while l c with ⟨h1, h2⟩ | ⟨h1, h2⟩
      · left; rw [h1]; exact ⟨rfl, by simp [h2]⟩
      · right
        rw [h1, if_neg (by rw [beq_iff_eq]; omega)]
        exact ⟨by simp, by simpa using h2⟩

/-- Where a line ends. -/
def lineEnd (src : ByteArray) (p : Nat) : Nat := p + ((src.data.toList.drop p).takeWhile fun b => b != 10).length
set_option maxHeartbeats 1000000 in
theorem sign_comment (B : Nat) (src : ByteArray) (p : Nat) (v : Value) (l : List Tok) (w : World) (hs : src.size ≤ 65536) (hp : p < src.size) (hc : Lib.hasPrefix (src.data.toList.drop p) [47, 47] = true) (hI : SI B w src p v l) :
    Calls Tryd.prog 39 #[.pointer (some ⟨B, 0, none⟩)] w fun e w' => e = .returned (.tuple #[]) ∧ SI B w' src (lineEnd src p) v l ∧ Below B w w' := by
  have hB : B ≤ w.heap.size := Nat.le_of_lt (blk_lt hI.blk)
  obtain ⟨hc0, hc1, -, hf0, hf1, -⟩ := cells3 hI.blk
  have hpre := fun w => Tryd.strings_HasPrefix (src.extract p src.size) ⟨#[47, 47]⟩ w
  have hdat : (src.extract p src.size).data.toList = src.data.toList.drop p := by
    rw [Lib.extract_data, List.take_of_length_le (by rw [List.length_drop, size_data]; omega)]
  have hidx := fun w => Tryd.strings_IndexByte (src.extract p src.size) 10 w
  have hw := index_while (src.data.toList.drop p) 10
  have hlen : (src.data.toList.drop p).length = src.size - p := by rw [List.length_drop, size_data]
  rw [hdat] at hpre hidx
  simp only [hc] at hpre
  have h10 : ((10 : Int).toNat.toUInt8) = 10 := rfl
  rw [h10] at hidx
  have hle : lineEnd src p = p + ((src.data.toList.drop p).takeWhile fun b => b != 10).length := rfl
  generalize Lib.indexByte (src.data.toList.drop p) 10 = i at hidx hw
  generalize ((src.data.toList.drop p).takeWhile fun b => b != 10).length = n at hw hle
  rw [hlen] at hw
  have HP := Aside0.mk hpre
  have HX := Aside0.mk hidx
  have HI := Aside0.mk hI
  have HE := Aside0.mk hle
  clear hpre hidx hI hdat hlen hle hc
  rcases hw with ⟨hi, hn⟩ | ⟨hi, hn⟩
  · subst hi
    have HN := Aside0.mk hn
    clear hn
    go_enter Tryd.func39, Tryd.ntmps39
    go_wp2
    go_quiet ((go_at_call 71; exact Calls.quiet_of_same (HP.out _)))
    go_wp2
    go_quiet ((go_at_call 72; exact (HX.out _).mono fun _ _ h => ⟨h.1, _, h.2⟩))
    go_wp2
    refine bodyPost_ret (results_none rfl _ _ _) rfl ?_
    refine ⟨rfl, ?_, (pw_below_drewN (Below.refl B w) _).setCell (p := ⟨B, 1, none⟩) (Nat.le_refl _) _⟩
    exact SI.at_ (by rw [HE.out, HN.out]; omega) (HI.out.drew _)
  · subst hi
    go_enter Tryd.func39, Tryd.ntmps39
    go_wp2
    go_quiet ((go_at_call 71; exact Calls.quiet_of_same (HP.out _)))
    go_wp2
    go_quiet ((go_at_call 72; exact (HX.out _).mono fun _ _ h => ⟨h.1, _, h.2⟩))
    go_wp2
    refine bodyPost_ret (results_none rfl _ _ _) rfl ?_
    refine ⟨rfl, ?_, (pw_below_drewN (Below.refl B w) _).setCell (p := ⟨B, 1, none⟩) (Nat.le_refl _) _⟩
    exact SI.at_ (by rw [HE.out]; omega) (HI.out.drew _)
set_option maxHeartbeats 1000000 in
theorem sign_token (B : Nat) (src : ByteArray) (p : Nat) (v : Value) (l : List Tok) (w : World) (hs : src.size ≤ 65536) (hp : p < src.size) (hk : kl src[p] = 4) (hl : l.length ≤ 65536) (hc : Lib.hasPrefix (src.data.toList.drop p) [47, 47] = false) (hI : SI B w src p v l) :
    Calls Tryd.prog 39 #[.pointer (some ⟨B, 0, none⟩)] w (Adds B w src p l 1 ⟨3, bs [src[p]], 0, 0⟩ true) := by
  have hB : B ≤ w.heap.size := Nat.le_of_lt (blk_lt hI.blk)
  obtain ⟨hc0, hc1, -, hf0, hf1, -⟩ := cells3 hI.blk
  have hpre := fun w => Tryd.strings_HasPrefix (src.extract p src.size) ⟨#[47, 47]⟩ w
  have hdat : (src.extract p src.size).data.toList = src.data.toList.drop p := by
    rw [Lib.extract_data, List.take_of_length_le (by rw [List.length_drop, size_data]; omega)]
  rw [hdat] at hpre
  simp only [hc] at hpre
  have hone : src.extract p (p + 1) = bs [src[p]] := ((bs_inj _ _).2 (by rw [Lib.extract_data, data_drop src p hp, Nat.add_sub_cancel_left]; rfl)).symm
  have hval : validT ⟨3, bs [src[p]], 0, 0⟩ = true := by simp [validT, bs, hk]
  have hsz : (bs [src[p]]).size = 1 := rfl
  generalize bs [src[p]] = x at hone hval hsz ⊢
  have hadd := fun (nq : Nat) => add_any B src p v l x ⟨3, x, 0, 0⟩ (w.drewN nq) (by simp only []; omega) hs (by omega) hl (hI.drew nq)
  rw [hval, hsz] at hadd
  have HADD := Aside0.mk hadd
  have HP := Aside0.mk hpre
  have HONE := Aside0.mk hone
  clear hpre hI hdat hc hadd hone hk hval hsz
  go_enter Tryd.func39, Tryd.ntmps39
  go_wp2
  go_quiet ((go_at_call 71; exact Calls.quiet_of_same (HP.out _)))
  go_wp2
  go_quiet (fail)
  go_wp2_with (fail)
  rw [HONE.out]
  refine (HADD.out _).mono ?_
  rintro e w1 ⟨hb, (⟨-, rfl, hi⟩ | ⟨hok, -⟩)⟩
  · have HB := Aside0.mk ((pw_below_drewN (Below.refl B w) _).trans hb)
    clear hb
    go_wp2
    go_end0
    exact ⟨HB.out, .inl ⟨rfl, rfl, hi⟩⟩
  · cases hok
end Go.Proofs.YtomglbjcfcijkaaDoor.PLx
