/- THE SCANNER's METHOD number by its contract. -/
import Derived.Test.YtomglbjcfcijkaaDoorLexName
import Derived.Test.YtomglbjcfcijkaaDoorLexLaid
import Derived.Lib.AppendIntMem
import Derived.WideLaws
namespace Go.Proofs.YtomglbjcfcijkaaDoor.PLx
open Go.RowKit Go.Proofs.YtomglbjcfcijkaaDoorW.PrintWords Go.Proofs.YtomglbjcfcijkaaDoorW.PrintLast Go.Proofs.YtomglbjcfcijkaaDoorW.PrintMore

theorem atoi_ok (x : ByteArray) (hs : x.size ≤ 65536) (v : Int) (h : Lib.atoiAll x.data.toList = .ok v) (w : World) :
    Calls Tryd.prog 70 #[.string x] w fun e w' => e = .returned (.tuple #[.int .i64 v, .nilIface]) ∧ Below w.heap.size w w' := by
  refine (Tryd.strconv_Atoi_ok x (by omega) v h w).mono ?_
  rintro e w' ⟨rfl, rfl | ⟨t, rfl⟩⟩
  · exact ⟨rfl, Below.refl _ _⟩
  · exact ⟨rfl, bytes_below (Below.refl _ _) (Nat.le_refl _) _ _⟩
theorem atoi_range (x : ByteArray) (hs : x.size ≤ 65536) (h : Lib.atoiAll x.data.toList = .range) (w : World) (hL : Laid w) :
    Calls Tryd.prog 70 #[.string x] w fun e w' => ∃ (n : Int) (a : Addr), e = .returned (.tuple #[.int .i64 n, .iface 144 (.pointer (some a))]) ∧ Below w.heap.size w w' := by
  obtain ⟨tp, p, hv⟩ := hL.rng
  refine (Tryd.strconv_Atoi_range_var x (by omega) h tp p w hv).mono ?_
  rintro e w' ⟨N, rfl, _, _, hb⟩
  exact ⟨_, _, rfl, hb⟩
theorem itoa_any (n : Nat) (h : n ≤ 9223372036854775807) (w : World) (hL : Laid w) :
    Calls Tryd.prog 47 #[.int .i64 (n : Int)] w fun e w' => e = .returned (.string (bs (Lib.decDigits n))) ∧ Below w.heap.size w w' := by
  refine (Tryd.strconv_Itoa n (by omega) (by omega) w hL.tab).mono ?_
  rintro e w' ⟨rfl, k, os, rfl⟩
  exact ⟨by rw [Lib.itoa_nonneg]; rfl, Lib.below_grow _ _ (Nat.le_refl _) _ _⟩

theorem SI.below {B : Nat} {w w1 : World} {src : ByteArray} {p : Nat} {v : Value} {l : List Tok} (h : SI B w src p v l) (hb : Below w.heap.size w w1) : SI B w1 src p v l := ⟨blk_below h.blk hb, Kd.R_below h.row hb⟩
theorem bs_inj (l : List UInt8) (x : ByteArray) : bs l = x ↔ l = x.data.toList := by
  constructor
  · rintro rfl; rfl
  · intro h; rw [h]; rfl
theorem okNum_ne (x : ByteArray) (h : digits x.data.toList) (hne : x.data.toList ≠ []) (hd : bs (Lib.decDigits (numVal x.data.toList)) ≠ x) : okNum x.data.toList = false := by
  have h1 : ¬ (x.data.toList.length = 1 ∨ x.data.toList.head? ≠ some 48) := fun hc => hd ((bs_inj _ _).2 ((dec_iff _ h hne).2 hc))
  have h2 : (x.data.toList.length == 1) = false := beq_eq_false_iff_ne.2 fun hc => h1 (.inl hc)
  have h3 : (x.data.toList.head? != some 48) = false := by
    rw [bne_eq_false_iff_eq]
    exact Classical.byContradiction fun hc => h1 (.inr hc)
  unfold okNum
  rw [h2, h3]; rfl
theorem okNum_eq (x : ByteArray) (h : digits x.data.toList) (hne : x.data.toList ≠ []) (hd : bs (Lib.decDigits (numVal x.data.toList)) = x) : okNum x.data.toList = decide (numVal x.data.toList ≤ 1099511627776) := by
  have h1 := (dec_iff _ h hne).1 ((bs_inj _ _).1 hd)
  unfold okNum
  have : (x.data.toList.length == 1 || x.data.toList.head? != some 48) = true := by
    rcases h1 with h1 | h1
    · rw [h1]; rfl
    · rw [Bool.or_eq_true]; right; rw [bne_iff_ne]; exact h1
  rw [this, Bool.true_and]

theorem take_while (P : UInt8 → Bool) : ∀ l : List UInt8, l.take (l.takeWhile P).length = l.takeWhile P
  | [] => rfl
  | c :: r => by
    cases h : P c
    · rw [List.takeWhile_cons_of_neg (by simp [h])]; rfl
    · rw [List.takeWhile_cons_of_pos h, List.length_cons, List.take_succ_cons, take_while P r]
theorem mem_while (P : UInt8 → Bool) : ∀ (l : List UInt8) (c : UInt8), c ∈ l.takeWhile P → P c = true
  | [], c, h => by simp at h
  | x :: r, c, h => by
    cases hx : P x
    · rw [List.takeWhile_cons_of_neg (by simp [hx])] at h; simp at h
    · rw [List.takeWhile_cons_of_pos hx] at h
      rcases List.mem_cons.1 h with rfl | h
      · exact hx
      · exact mem_while P r c h
/-- What run hands back, as a list. -/
theorem run_data (src : ByteArray) (ls : List Int) (p : Nat) (_hp : p ≤ src.size) : (src.extract p (runEnd src ls p)).data.toList = (src.data.toList.drop p).takeWhile fun c => ls.contains (kl c) := by
  rw [Lib.extract_data]
  unfold runEnd
  rw [Nat.add_sub_cancel_left]
  exact take_while _ _
theorem kl_digit (c : UInt8) (h : kl c = 3) : 48 ≤ c.toNat ∧ c.toNat ≤ 57 := by
  unfold kl cls at h
  split at h
  · cases h
  split at h
  · omega
  split at h
  · cases h
  split at h
  · cases h
  split at h <;> cases h
set_option maxHeartbeats 1000000 in
theorem number_any (B : Nat) (src : ByteArray) (p : Nat) (v : Value) (l : List Tok) (w : World) (hL : Laid w) (hs : src.size ≤ 65536) (hp : p < src.size) (hd : kl src[p] = 3) (hl : l.length ≤ 65536) (hI : SI B w src p v l) :
    Calls Tryd.prog 38 #[.pointer (some ⟨B, 0, none⟩)] w (Adds B w src p l (runEnd src [3] p - p) ⟨2, bs [], numVal (src.extract p (runEnd src [3] p)).data.toList, 0⟩ (okNum (src.extract p (runEnd src [3] p)).data.toList)) := by
  have hrs := run_size src [3] p (by omega)
  have hes := extract_size src p (runEnd src [3] p) hrs.1
  have hrun := run_lit B src p v l [3] w hs (by omega) (by decide) hI
  have hdig : digits (src.extract p (runEnd src [3] p)).data.toList := by
    rw [run_data src [3] p (by omega)]
    intro c hc
    have := mem_while _ _ c hc
    exact kl_digit c (by simpa using this)
  have hne : (src.extract p (runEnd src [3] p)).data.toList ≠ [] := by
    rw [run_data src [3] p (by omega), data_drop src p hp, List.takeWhile_cons_of_pos (by rw [hd]; rfl)]
    simp
  rw [← hes]
  generalize hre : runEnd src [3] p = q at hrs hes hrun hdig hne ⊢
  generalize hex : src.extract p q = x at hes hrun hdig hne ⊢
  have hat := atoi_digits _ hdig hne
  have hk1 := okNum_ne x hdig hne
  have hk2 := okNum_eq x hdig hne
  have hxs : x.size ≤ 65536 := by omega
  have hB : B ≤ w.heap.size := Nat.le_of_lt (blk_lt hI.blk)
  have HRUN := Aside0.mk hrun
  clear hrun hre hex hdig hne
  by_cases hbig : numVal x.data.toList < 9223372036854775808
  · rw [if_pos hbig] at hat
    have HOK := Aside0.mk (atoi_ok x hxs _ hat)
    have HIT := Aside0.mk (fun w => itoa_any (numVal x.data.toList) (by omega) w)
    have HI := Aside0.mk hI
    have HL := Aside0.mk hL
    have hu := Tryd.underlying112
    generalize hn : numVal x.data.toList = n at HOK HIT hk1 hk2 ⊢
    have hn0 : n ≤ 9223372036854775807 := by omega
    generalize hy : bs (Lib.decDigits n) = y at HIT hk1 hk2
    by_cases he : y = x
    · have hko := hk2 he
      subst he
      have hval : validT ⟨2, bs [], (n : Int), 0⟩ = okNum y.data.toList := by
        rw [hko]; simp [validT, bs]; omega
      have HADD := Aside0.mk (fun (w2 : World) (hi : SI B w2 src p v l) => hval ▸ add_any B src p v l y ⟨2, bs [], (n : Int), 0⟩ w2 (show (0 : Nat) ≤ 65536 by omega) hs (by omega) hl hi)
      clear hat hk1 hk2 hy hn hbig hI hL hval hko
      go_enter Tryd.func38, Tryd.ntmps38
      go_wp2_with (first | (go_at_call 68; refine HRUN.out.mono ?_; rintro e w' ⟨rfl, ⟨nd, rfl⟩⟩) | (go_at_call 70; refine (HOK.out _).mono ?_; rintro e w1 ⟨rfl, hb⟩; have hc1 := (cells3 (blk_below (((HI.out.alloc _).drew _).blk) hb)).2.1; have HB := Aside0.mk hb; clear hb) | (go_at_call 47; refine (HIT.out _ (HL.out.below (below_step (pw_below_drewN ((Below.refl _ w).alloc (Nat.le_refl _) _) _) HB.out))).mono ?_; rintro e w2 ⟨rfl, hb⟩; have hc2 := (cells3 (blk_below (blk_below (((HI.out.alloc _).drew _).blk) HB.out) hb)).2.1; have HB2 := Aside0.mk hb; clear hb) | (go_at_call 69; refine (HADD.out w2 ((((HI.out.alloc _).drew _).below HB.out).below HB2.out)).mono ?_; rintro e w3 ⟨hb, (⟨hok, rfl, hi⟩ | ⟨hok, rfl⟩)⟩ <;> (have HK := Aside0.mk hok; clear hok; have HB3 := Aside0.mk hb; clear hb)))
      all_goals have h9 : Below B w w3 := (((pw_below_drewN ((Below.refl B w).alloc hB _) _).trans (HB.out.mono (by simp; omega))).trans (HB2.out.mono (Nat.le_trans (by simp; omega) HB.out.size))).trans HB3.out
      · go_end0
        exact ⟨h9, .inl ⟨HK.out, rfl, hes ▸ hi⟩⟩
      · exact ⟨rfl, h9, .inr ⟨HK.out, rfl⟩⟩
    · have HBAD := Aside0.mk (hk1 he)
      have hq : (y.toList == x.toList) = false := by
        rw [toList_eq, toList_eq]
        refine beq_eq_false_iff_ne.2 fun h => he ?_
        cases x; cases y
        simp at h
        rw [h]
      clear hat hk1 hk2 hy hn he hbig hI hL
      go_enter Tryd.func38, Tryd.ntmps38
      go_wp2_with (first | (go_at_call 68; refine HRUN.out.mono ?_; rintro e w' ⟨rfl, ⟨nd, rfl⟩⟩) | (go_at_call 70; refine (HOK.out _).mono ?_; rintro e w1 ⟨rfl, hb⟩; have hc1 := (cells3 (blk_below (((HI.out.alloc _).drew _).blk) hb)).2.1; have HB := Aside0.mk hb; clear hb) | (go_at_call 47; refine (HIT.out _ (HL.out.below (below_step (pw_below_drewN ((Below.refl _ w).alloc (Nat.le_refl _) _) _) HB.out))).mono ?_; rintro e w2 ⟨rfl, hb⟩; have hc2 := (cells3 (blk_below (blk_below (((HI.out.alloc _).drew _).blk) HB.out) hb)).2.1; have HB2 := Aside0.mk hb; clear hb))
      exact ⟨rfl, ((pw_below_drewN ((Below.refl B w).alloc hB _) _).trans (HB.out.mono (by simp; omega))).trans (HB2.out.mono (Nat.le_trans (by simp; omega) HB.out.size)), .inr ⟨HBAD.out, rfl⟩⟩
  · rw [if_neg hbig] at hat
    have hbad : okNum x.data.toList = false := by
      unfold okNum; rw [decide_eq_false (by omega), Bool.and_false]
    have HI := Aside0.mk hI
    have HL := Aside0.mk hL
    have HAT := Aside0.mk (atoi_range x hxs hat)
    have HBAD := Aside0.mk hbad
    clear hat hbad hk1 hk2 hbig hI hL
    have hu := Tryd.underlying112
    go_enter Tryd.func38, Tryd.ntmps38
    go_wp2_with (first | (go_at_call 68; refine HRUN.out.mono ?_; rintro e w' ⟨rfl, ⟨nd, rfl⟩⟩) | (go_at_call 70; refine (HAT.out _ (HL.out.below (pw_below_drewN ((Below.refl _ w).alloc (Nat.le_refl _) _) _))).mono ?_; rintro e w1 ⟨n, a, rfl, hb⟩; have hc1 := (cells3 (blk_below (((HI.out.alloc _).drew _).blk) hb)).2.1; have HB := Aside0.mk hb; clear hb))
    exact ⟨rfl, (pw_below_drewN ((Below.refl B w).alloc hB _) _).trans (HB.out.mono (by simp; omega)), .inr ⟨HBAD.out, rfl⟩⟩
end Go.Proofs.YtomglbjcfcijkaaDoor.PLx
