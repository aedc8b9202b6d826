/- Written by xprint.py (this session's own program over the kit's print); Lean checks it. -/
import Derived.Test.YtomglbjcfcijkaaDoorPLxx0
import Derived.Test.YtomglbjcfcijkaaDoorPLxx7
import Derived.Test.YtomglbjcfcijkaaDoorLexExt
import Derived.Test.YtomglbjcfcijkaaDoorLexFact
import Derived.Test.YtomglbjcfcijkaaDoorPackErr
import Derived.Test.YtomglbjcfcijkaaDoorRows
import Derived.Test.YtomglbjcfcijkaaDoorCards
import Derived.Test.YtomglbjcfcijkaaDoorTie
import Derived.Test.YtomglbjcfcijkaaDoorLexMet
import Derived.WalkKit
import Derived.ProofKit
import Derived.OpenShut
import Derived.ShutString
import Derived.ChangeOld
import Derived.Below
import Derived.SizedLaws
import Derived.LaidMore
import Derived.SevenTiedAt
import Derived.Stop.Joined
import Derived.JoinedOf
namespace Go.Proofs.YtomglbjcfcijkaaDoor.PLx
open Go.RowKit Go.Proofs.YtomglbjcfcijkaaDoorW.PrintWords Go.Proofs.YtomglbjcfcijkaaDoorW.PrintLast Go.Proofs.YtomglbjcfcijkaaDoorW.PrintMore
attribute [local go_sem] max2_int min2_int max_two min_two max_three min_three max_four min_four   -- for this text's walks alone
set_option linter.unusedVariables false
set_option linter.unusedSimpArgs false

/-! ### sizarref09_Space: function 25 -/
def sizarref09_Space.f (a0 : Int) : Option (Bool) := if a0 = 32 then (some true) else (if a0 = 9 then (some true) else (if a0 = 10 then (some true) else (some (a0 == 13))))
set_option maxHeartbeats 8000000 in
set_option maxRecDepth 100000 in
theorem sizarref09_Space.calls (a0 : Int) (r : Bool) (w : World) (h : sizarref09_Space.f a0 = some r) :
    Calls Tryd.prog 25 #[.int .u8 a0] w fun e w' => e = .returned (.bool r) ∧ Drawn0 w w' := by
  have H : (if a0 = 32 then (some true) else (if a0 = 9 then (some true) else (if a0 = 10 then (some true) else (some (a0 == 13))))) = some r := h
  clear h
  by_cases c2 : a0 = 32
  · rw [if_pos c2] at H
    have c2b0 : (a0 == 32) = true := beq_iff_eq.mpr c2
    have c2b1 : (a0 != 32) = false := bne_eq_false_iff_eq.mpr c2
    clear c2
    obtain rfl := Option.some.inj H
    go_enter Tryd.func25, Tryd.ntmps25
    go_wp2
    go_ret
    exact ⟨by first | rfl | (simp; done) | (simp [*]; done), by repeat (first | exact Drawn0.refl _ | apply Drawn0.step)⟩
  · rw [if_neg c2] at H
    have c2b0 : (a0 == 32) = false := beq_eq_false_iff_ne.mpr c2
    have c2b1 : (a0 != 32) = true := bne_iff_ne.mpr c2
    by_cases c3 : a0 = 9
    · rw [if_pos c3] at H
      have c3b0 : (a0 == 9) = true := beq_iff_eq.mpr c3
      have c3b1 : (a0 != 9) = false := bne_eq_false_iff_eq.mpr c3
      clear c3
      obtain rfl := Option.some.inj H
      go_enter Tryd.func25, Tryd.ntmps25
      go_wp2
      go_ret
      exact ⟨by first | rfl | (simp; done) | (simp [*]; done), by repeat (first | exact Drawn0.refl _ | apply Drawn0.step)⟩
    · rw [if_neg c3] at H
      have c3b0 : (a0 == 9) = false := beq_eq_false_iff_ne.mpr c3
      have c3b1 : (a0 != 9) = true := bne_iff_ne.mpr c3
      by_cases c4 : a0 = 10
      · rw [if_pos c4] at H
        have c4b0 : (a0 == 10) = true := beq_iff_eq.mpr c4
        have c4b1 : (a0 != 10) = false := bne_eq_false_iff_eq.mpr c4
        clear c4
        obtain rfl := Option.some.inj H
        go_enter Tryd.func25, Tryd.ntmps25
        go_wp2
        go_ret
        exact ⟨by first | rfl | (simp; done) | (simp [*]; done), by repeat (first | exact Drawn0.refl _ | apply Drawn0.step)⟩
      · rw [if_neg c4] at H
        have c4b0 : (a0 == 10) = false := beq_eq_false_iff_ne.mpr c4
        have c4b1 : (a0 != 10) = true := bne_iff_ne.mpr c4
        obtain rfl := Option.some.inj H
        go_enter Tryd.func25, Tryd.ntmps25
        go_wp2
        go_ret
        exact ⟨by first | rfl | (simp; done) | (simp [*]; done), by repeat (first | exact Drawn0.refl _ | apply Drawn0.step)⟩

/-! ### sizarlaw09_spelled: function 26 -/
def sizarlaw09_spelled.l0 : Nat → ByteArray → Int → Option (ByteArray)
  | 0, _, _ => none
  | k + 1, x3, x4 => (some (([(wrap64 (48 + (Int.tmod x4 10))) % 256] : List Int) : List Int)).bind fun y243 => (if (strOfNums y243).size + x3.size ≤ 9223372036854775807 then (if x4 < 10 then (some ((strOfNums y243) ++ x3)) else (sizarlaw09_spelled.l0 k ((strOfNums y243) ++ x3) (wrap64 (Int.tdiv x4 10)))) else (none))
def sizarlaw09_spelled.f (k : Nat) (a0_0 : Int) (a0_1 : ByteArray) (a0_2 : Int) (a0_3 : Int) : Option (ByteArray) := if a0_0 = 2 then (sizarlaw09_spelled.l0 k (⟨#[]⟩ : ByteArray) a0_2) else (some a0_1)
theorem sizarlaw09_spelled.mono_l : ∀ k, (∀ y0 y1, LeO (sizarlaw09_spelled.l0 k y0 y1) (sizarlaw09_spelled.l0 (k + 1) y0 y1))
  | 0 => fun _ _ r h => by simp [sizarlaw09_spelled.l0] at h
  | k + 1 => by
    have ih0 := sizarlaw09_spelled.mono_l k
    · intro y0 y1
      unfold sizarlaw09_spelled.l0
      repeat' first
      | (with_reducible exact ih0 _ _)
      | (with_reducible exact LeO.refl _)
      | (with_reducible exact LeO.none _)
      | (with_reducible refine LeO.ite ?_ ?_)
      | (with_reducible refine LeO.bind ?_ (fun _ => ?_))
      | exact ih0 _ _
      | exact LeO.none _
      | refine LeO.ite ?_ ?_
      | refine LeO.bind ?_ (fun _ => ?_)
theorem sizarlaw09_spelled.mono : ∀ a0 a1 a2 a3 k, LeO (sizarlaw09_spelled.f k a0 a1 a2 a3) (sizarlaw09_spelled.f (k + 1) a0 a1 a2 a3) := by
  intro a0 a1 a2 a3 k
  have ih0 := sizarlaw09_spelled.mono_l k
  unfold sizarlaw09_spelled.f
  repeat' first
      | (with_reducible exact ih0 _ _)
      | (with_reducible exact LeO.refl _)
      | (with_reducible exact LeO.none _)
      | (with_reducible refine LeO.ite ?_ ?_)
      | (with_reducible refine LeO.bind ?_ (fun _ => ?_))
      | exact ih0 _ _
      | exact LeO.none _
      | refine LeO.ite ?_ ?_
      | refine LeO.bind ?_ (fun _ => ?_)
set_option maxHeartbeats 8000000 in
set_option maxRecDepth 100000 in
theorem sizarlaw09_spelled.calls (k : Nat) (a0_0 : Int) (a0_1 : ByteArray) (a0_2 : Int) (a0_3 : Int) (r : ByteArray) (w : World) (h : sizarlaw09_spelled.f k a0_0 a0_1 a0_2 a0_3 = some r) :
    Calls Tryd.prog 26 #[.agg #[.int .i64 a0_0, .string a0_1, .int .i64 a0_2, .int .i64 a0_3]] w fun e w' => e = .returned (.string r) ∧ Below w.heap.size w w' := by
  have hu35 := Tryd.underlying35
  have HB := Aside0.mk (Below.refl w.heap.size w)
  have H : (if a0_0 = 2 then (sizarlaw09_spelled.l0 k (⟨#[]⟩ : ByteArray) a0_2) else (some a0_1)) = some r := h
  clear h
  by_cases c2 : a0_0 = 2
  · rw [if_pos c2] at H
    have c2b0 : (a0_0 == 2) = true := beq_iff_eq.mpr c2
    have c2b1 : (a0_0 != 2) = false := bne_eq_false_iff_eq.mpr c2
    clear c2
    have H' := Aside0.mk H
    clear H
    go_enter Tryd.func26, Tryd.ntmps26
    go_wp2_with (first | ((with_reducible refine gate_dst (N := 1) rfl ?_); refine box_event ?hg (N := 1) ?hd (cs := #[.int .i64 a0_0, .string a0_1, .int .i64 a0_2, .int .i64 a0_3]) (t := 35) ?hr ?_; (case hd => rfl); (case hg => rfl); (case hr => first | (go_simp; done) | (go_simp; rfl)); intro gb242 hg w3 hbox hb; have n0_ := Aside0.mk (below_step (by repeat (first | (with_reducible first | exact HB.out | apply below_alloc | apply pw_below_drewN | apply below_drew1) | exact HB.out)) hb); have n1_ := Aside0.mk (hbox); have n2_ := Aside0.mk ((by rw [hg]; exact (below_size (by repeat (first | (with_reducible first | exact HB.out | apply below_alloc | apply pw_below_drewN | apply below_drew1) | exact HB.out))) : w.heap.size ≤ gb242)); have n3_ := Aside0.mk ((by rw [hg]; exact (below_size (by repeat (first | (with_reducible first | exact HB.out | apply below_alloc | apply pw_below_drewN | apply below_drew1) | exact HB.out))) : w.heap.size ≤ gb242)); clear HB; have HB := n0_; have BK242 := n1_; have GW242 := n2_; have GE242 := n3_; clear n0_ n1_ n2_ n3_; clear hb hbox hg; have hcz4_0 : w3.cell? ⟨gb242, 0, none⟩ = some (.int .i64 a0_0) := (blk_cell BK242.out 0).trans rfl; have hcz4_1 : w3.cell? ⟨gb242, 1, none⟩ = some (.string a0_1) := (blk_cell BK242.out 1).trans rfl; have hcz4_2 : w3.cell? ⟨gb242, 2, none⟩ = some (.int .i64 a0_2) := (blk_cell BK242.out 2).trans rfl; have hcz4_3 : w3.cell? ⟨gb242, 3, none⟩ = some (.int .i64 a0_3) := (blk_cell BK242.out 3).trans rfl; have hfz4_0 := blk_frozen BK242.out 0; have hfz4_1 := blk_frozen BK242.out 1; have hfz4_2 := blk_frozen BK242.out 2; have hfz4_3 := blk_frozen BK242.out 3))
    go_loopg [3, 4] k (fun kq v3 v4 w' => ∃ (x3_1 : ByteArray) (x4_1 : Int), v3 = .string x3_1 ∧ v4 = .int .i64 x4_1 ∧ Aside0 (sizarlaw09_spelled.l0 kq x3_1 x4_1 = some r) ∧ Aside0 (kq ≤ k) ∧ Aside0 (w'.heap[gb242]? = some (.cells #[.int .i64 a0_0, .string a0_1, .int .i64 a0_2, .int .i64 a0_3] 35 (0, 0))) ∧ Aside0 (Below w.heap.size w w'))
    case atStart => exact ⟨((⟨#[]⟩ : ByteArray)), (a0_2), (by first | rfl | (simp; done) | (simp [*]; done)), (by first | rfl | (simp; done) | (simp [*]; done)), H', ⟨Nat.le_refl _⟩, ⟨by (with_reducible repeat (first | refine blk_drewN ?_ _ | refine blk_drew ?_ | refine blk_alloc ?_ _)); exact BK242.out⟩, ⟨by repeat (first | (with_reducible first | exact HB.out | apply below_alloc | apply pw_below_drewN | apply below_drew1 | refine below_set ?_ GE242.out) | exact HB.out)⟩⟩
    case round =>
      clear H'
      try clear c2
      try clear c2b0
      try clear c2b1
      try clear p2
      try clear hcz4_0
      try clear hcz4_1
      try clear hcz4_2
      try clear hcz4_3
      try clear hfz4_0
      try clear hfz4_1
      try clear hfz4_2
      try clear hfz4_3
      obtain ⟨x3_1, x4_1, rfl, rfl, HA, HK1, BK242, HB⟩ := hrel
      cases gk with
      | zero => exact absurd HA.out (by simp [sizarlaw09_spelled.l0])
      | succ k1 =>
        have H := HA.out
        clear HA
        simp only [sizarlaw09_spelled.l0] at H
        obtain ⟨y243, hy243⟩ : ∃ y_ : List Int, y_ = (([(wrap64 (48 + (Int.tmod x4_1 10))) % 256] : List Int)) := ⟨_, rfl⟩
        replace H : (if (strOfNums y243).size + x3_1.size ≤ 9223372036854775807 then (if x4_1 < 10 then (some ((strOfNums y243) ++ x3_1)) else (sizarlaw09_spelled.l0 k1 ((strOfNums y243) ++ x3_1) (wrap64 (Int.tdiv x4_1 10)))) else (none)) = some r := by first | (rw [hy243]; with_reducible exact H) | (have H2_ := (Option.bind_some _ _).symm.trans H; rw [hy243]; with_reducible exact H2_) | (have H2_ := (Option.bind_some _ _).symm.trans H; with_reducible exact H2_) | with_reducible exact H | (rw [hy243]; exact H) | exact H
        have Ny243 := Aside0.mk hy243
        clear hy243
        by_cases c5 : (strOfNums y243).size + x3_1.size ≤ 9223372036854775807
        · rw [if_pos c5] at H
          have c5b0 := eq_true c5
          have c5b1 : decide ((strOfNums y243).size + x3_1.size ≤ 9223372036854775807) = true := decide_eq_true c5
          try have c5b2 : (9223372036854775807 < (strOfNums y243).size + x3_1.size) = False := eq_false (Nat.not_lt.2 c5)
          by_cases c6 : x4_1 < 10
          · rw [if_pos c6] at H
            have c6b0 : decide (x4_1 < 10) = true := decide_eq_true c6
            clear c6
            obtain rfl := Option.some.inj H
            go_wp2_with (first | ((with_reducible refine gate_dst (N := 18) rfl ?_); refine Kd.R_lit (Kd.int .u8) _ 5 ?hg (N := 18) ?hd (xs := ([(wrap64 (48 + (Int.tmod x4_1 10))) % 256] : List Int)) (inner := [.int .u8 ((wrap64 (48 + (Int.tmod x4_1 10))) % 256)]) (ok := fun _ => True) (okp := fun _ => True) ?hr ?hp (fun _ hk => hk) trivial (Below.refl _ _) (Nat.le_refl _) (by simp) ?_; (case hd => rfl); (case hg => rfl); (case hr => first | (go_simp; done) | (go_simp; rfl)); (case hp => exact (Reps.one (show Kd.M (Kd.int .u8) _ _ _ ((wrap64 (48 + (Int.tmod x4_1 10))) % 256) [.int .u8 ((wrap64 (48 + (Int.tmod x4_1 10))) % 256)] from rfl) (Reps.none _ _))); intro v244 w7 ho8 hb hg_ hnew_; clear hg_ hnew_; (first | rw [← Ny243.out] at ho8 | (simp only [Int.reduceToNat] at ho8; rw [← Ny243.out] at ho8)); have n0_ := Aside0.mk (Kd.R_lower ho8 (below_size (by repeat (first | (with_reducible first | exact HB.out | apply below_alloc | apply pw_below_drewN | apply below_drew1 | refine below_set ?_ GE242.out) | exact HB.out)))); have n1_ := Aside0.mk (blk_below (g := gb242) (o := .cells #[.int .i64 a0_0, .string a0_1, .int .i64 a0_2, .int .i64 a0_3] 35 (0, 0)) (by (with_reducible repeat (first | refine blk_drewN ?_ _ | refine blk_drew ?_ | refine blk_alloc ?_ _)); exact BK242.out) hb); have n2_ := Aside0.mk (below_step (by repeat (first | (with_reducible first | exact HB.out | apply below_alloc | apply pw_below_drewN | apply below_drew1 | refine below_set ?_ GE242.out) | exact HB.out)) hb); clear BK242; clear HB; have HO245 := n0_; have BK242 := n1_; have HB := n2_; clear n0_ n1_ n2_; clear hb ho8; have hcv9 := own_string (P := Tryd.prog) Tryd.underlying38 Tryd.underlying5 Tryd.underlying9 (Kd.own_of_R HO245.out)))
            go_ret
            exact ⟨by first | rfl | (simp [errW_none, errW_some] <;> rfl) | (simp [*, errW_none, errW_some] <;> rfl), by repeat (first | (with_reducible first | exact HB.out | apply below_alloc | apply pw_below_drewN | apply below_drew1 | refine below_set ?_ GE242.out) | exact HB.out)⟩
          · rw [if_neg c6] at H
            have c6b0 : decide (x4_1 < 10) = false := decide_eq_false c6
            clear c6
            have H' := Aside0.mk H
            clear H
            go_wp2_with (first | ((with_reducible refine gate_dst (N := 18) rfl ?_); refine Kd.R_lit (Kd.int .u8) _ 5 ?hg (N := 18) ?hd (xs := ([(wrap64 (48 + (Int.tmod x4_1 10))) % 256] : List Int)) (inner := [.int .u8 ((wrap64 (48 + (Int.tmod x4_1 10))) % 256)]) (ok := fun _ => True) (okp := fun _ => True) ?hr ?hp (fun _ hk => hk) trivial (Below.refl _ _) (Nat.le_refl _) (by simp) ?_; (case hd => rfl); (case hg => rfl); (case hr => first | (go_simp; done) | (go_simp; rfl)); (case hp => exact (Reps.one (show Kd.M (Kd.int .u8) _ _ _ ((wrap64 (48 + (Int.tmod x4_1 10))) % 256) [.int .u8 ((wrap64 (48 + (Int.tmod x4_1 10))) % 256)] from rfl) (Reps.none _ _))); intro v244 w10 ho11 hb hg_ hnew_; clear hg_ hnew_; (first | rw [← Ny243.out] at ho11 | (simp only [Int.reduceToNat] at ho11; rw [← Ny243.out] at ho11)); have n0_ := Aside0.mk (Kd.R_lower ho11 (below_size (by repeat (first | (with_reducible first | exact HB.out | apply below_alloc | apply pw_below_drewN | apply below_drew1 | refine below_set ?_ GE242.out) | exact HB.out)))); have n1_ := Aside0.mk (blk_below (g := gb242) (o := .cells #[.int .i64 a0_0, .string a0_1, .int .i64 a0_2, .int .i64 a0_3] 35 (0, 0)) (by (with_reducible repeat (first | refine blk_drewN ?_ _ | refine blk_drew ?_ | refine blk_alloc ?_ _)); exact BK242.out) hb); have n2_ := Aside0.mk (below_step (by repeat (first | (with_reducible first | exact HB.out | apply below_alloc | apply pw_below_drewN | apply below_drew1 | refine below_set ?_ GE242.out) | exact HB.out)) hb); clear BK242; clear HB; have HO245 := n0_; have BK242 := n1_; have HB := n2_; clear n0_ n1_ n2_; clear hb ho11; have hcv12 := own_string (P := Tryd.prog) Tryd.underlying38 Tryd.underlying5 Tryd.underlying9 (Kd.own_of_R HO245.out)))
            go_roundg k1
            case measure => have := HK1.out; omega
            case rel => exact ⟨((strOfNums y243) ++ x3_1), (wrap64 (Int.tdiv x4_1 10)), (by first | rfl | (simp; done) | (simp [*]; done)), (by first | rfl | (simp; done) | (simp [*]; done)), H', ⟨by have := HK1.out; omega⟩, ⟨by (with_reducible repeat (first | refine blk_drewN ?_ _ | refine blk_drew ?_ | refine blk_alloc ?_ _)); exact BK242.out⟩, ⟨by repeat (first | (with_reducible first | exact HB.out | apply below_alloc | apply pw_below_drewN | apply below_drew1 | refine below_set ?_ GE242.out) | exact HB.out)⟩⟩
        · rw [if_neg c5] at H
          exact absurd H (by simp)
  · rw [if_neg c2] at H
    have c2b0 : (a0_0 == 2) = false := beq_eq_false_iff_ne.mpr c2
    have c2b1 : (a0_0 != 2) = true := bne_iff_ne.mpr c2
    obtain rfl := Option.some.inj H
    go_enter Tryd.func26, Tryd.ntmps26
    go_wp2_with (first | ((with_reducible refine gate_dst (N := 1) rfl ?_); refine box_event ?hg (N := 1) ?hd (cs := #[.int .i64 a0_0, .string a0_1, .int .i64 a0_2, .int .i64 a0_3]) (t := 35) ?hr ?_; (case hd => rfl); (case hg => rfl); (case hr => first | (go_simp; done) | (go_simp; rfl)); intro gb242 hg w13 hbox hb; have n0_ := Aside0.mk (below_step (by repeat (first | (with_reducible first | exact HB.out | apply below_alloc | apply pw_below_drewN | apply below_drew1) | exact HB.out)) hb); have n1_ := Aside0.mk (hbox); have n2_ := Aside0.mk ((by rw [hg]; exact (below_size (by repeat (first | (with_reducible first | exact HB.out | apply below_alloc | apply pw_below_drewN | apply below_drew1) | exact HB.out))) : w.heap.size ≤ gb242)); have n3_ := Aside0.mk ((by rw [hg]; exact (below_size (by repeat (first | (with_reducible first | exact HB.out | apply below_alloc | apply pw_below_drewN | apply below_drew1) | exact HB.out))) : w.heap.size ≤ gb242)); clear HB; have HB := n0_; have BK242 := n1_; have GW242 := n2_; have GE242 := n3_; clear n0_ n1_ n2_ n3_; clear hb hbox hg; have hcz14_0 : w13.cell? ⟨gb242, 0, none⟩ = some (.int .i64 a0_0) := (blk_cell BK242.out 0).trans rfl; have hcz14_1 : w13.cell? ⟨gb242, 1, none⟩ = some (.string a0_1) := (blk_cell BK242.out 1).trans rfl; have hcz14_2 : w13.cell? ⟨gb242, 2, none⟩ = some (.int .i64 a0_2) := (blk_cell BK242.out 2).trans rfl; have hcz14_3 : w13.cell? ⟨gb242, 3, none⟩ = some (.int .i64 a0_3) := (blk_cell BK242.out 3).trans rfl; have hfz14_0 := blk_frozen BK242.out 0; have hfz14_1 := blk_frozen BK242.out 1; have hfz14_2 := blk_frozen BK242.out 2; have hfz14_3 := blk_frozen BK242.out 3))
    go_ret
    exact ⟨by first | rfl | (simp [errW_none, errW_some] <;> rfl) | (simp [*, errW_none, errW_some] <;> rfl), by repeat (first | (with_reducible first | exact HB.out | apply below_alloc | apply pw_below_drewN | apply below_drew1 | refine below_set ?_ GE242.out) | exact HB.out)⟩

end Go.Proofs.YtomglbjcfcijkaaDoor.PLx

namespace Go.Proofs.YtomglbjcfcijkaaDoor.PLx
open Go.RowKit Go.Proofs.YtomglbjcfcijkaaDoorW.PrintWords Go.Proofs.YtomglbjcfcijkaaDoorW.PrintLast Go.Proofs.YtomglbjcfcijkaaDoorW.PrintMore
attribute [local go_sem] max2_int min2_int max_two min_two max_three min_three max_four min_four   -- for this text's walks alone
set_option linter.unusedVariables false
set_option linter.unusedSimpArgs false

/-! ### sizarlaw09_LexPlaces: function 6 -/
mutual
def sizarlaw09_LexPlaces.l0 : Nat → ByteArray → List (S35) → Int → Int → Option (Bool)
  | 0, _, _, _, _ => none
  | k + 1, x0, x3, x6, x7 => if x7 ≤ (x3.length : Int) then (if x7 < (x3.length : Int) then (if 0 ≤ x7 then (sizarlaw09_LexPlaces.j1 k x0 x3 x6 x7 ((rd_T35 x3 x7).f3)) else (none)) else (sizarlaw09_LexPlaces.j1 k x0 x3 x6 x7 (x0.size : Int))) else (some true)
def sizarlaw09_LexPlaces.j1 : Nat → ByteArray → List (S35) → Int → Int → Int → Option (Bool)
  | 0, _, _, _, _, _ => none
  | k + 1, x0, x3, x6, x7, x8 => if x8 < x6 then (sizarlaw09_LexPlaces.j2 k x0 x3 x6 x7 x8 true) else (sizarlaw09_LexPlaces.j2 k x0 x3 x6 x7 x8 (decide (x8 > (x0.size : Int))))
def sizarlaw09_LexPlaces.j2 : Nat → ByteArray → List (S35) → Int → Int → Int → Bool → Option (Bool)
  | 0, _, _, _, _, _, _ => none
  | k + 1, x0, x3, x6, x7, x8, x52 => if x52 = true then (some false) else (sizarlaw09_LexPlaces.l1 k x0 x3 x6 x7 x8 false)
def sizarlaw09_LexPlaces.l1 : Nat → ByteArray → List (S35) → Int → Int → Int → Bool → Option (Bool)
  | 0, _, _, _, _, _, _ => none
  | k + 1, x0, x3, x6, x7, x8, x9 => if x6 < x8 then (if 0 ≤ x6 then (if x6 < (x0.size : Int) then (if (bt x0 x6) = 10 then ((sizarref09_Space.f (bt x0 x6)).bind fun t253 => (if t253 = true then (sizarlaw09_LexPlaces.l1 k x0 x3 (wrap64 (x6 + 1)) x7 x8 false) else (some false))) else (if x9 = true then (sizarlaw09_LexPlaces.l1 k x0 x3 (wrap64 (x6 + 1)) x7 x8 true) else (if (bt x0 x6) = 47 then (if (wrap64 (x6 + 1)) < x8 then (if 0 ≤ (wrap64 (x6 + 1)) then (if (wrap64 (x6 + 1)) < (x0.size : Int) then (if ((bt x0 (wrap64 (x6 + 1))) = 47) then (sizarlaw09_LexPlaces.l1 k x0 x3 (wrap64 (x6 + 1)) x7 x8 ((bt x0 (wrap64 (x6 + 1))) == 47)) else ((sizarref09_Space.f (bt x0 x6)).bind fun t254 => (if t254 = true then (sizarlaw09_LexPlaces.l1 k x0 x3 (wrap64 (x6 + 1)) x7 x8 ((bt x0 (wrap64 (x6 + 1))) == 47)) else (some false)))) else (none)) else (none)) else ((sizarref09_Space.f (bt x0 x6)).bind fun t255 => (if t255 = true then (sizarlaw09_LexPlaces.l1 k x0 x3 (wrap64 (x6 + 1)) x7 x8 false) else (some false)))) else ((sizarref09_Space.f (bt x0 x6)).bind fun t256 => (if t256 = true then (sizarlaw09_LexPlaces.l1 k x0 x3 (wrap64 (x6 + 1)) x7 x8 false) else (some false)))))) else (none)) else (none)) else (if x7 = (x3.length : Int) then (some true) else (if 0 ≤ x7 then (if x7 < (x3.length : Int) then ((sizarlaw09_spelled.f k ((rd_T35 x3 x7).f0) ((rd_T35 x3 x7).f1) ((rd_T35 x3 x7).f2) ((rd_T35 x3 x7).f3)).bind fun t258 => (if x9 = true then (some false) else (if (t258.size : Int) = 0 then (some false) else (if (wrap64 (x6 + (t258.size : Int))) > (x0.size : Int) then (some false) else (if 0 ≤ x6 then (if x6 ≤ (wrap64 (x6 + (t258.size : Int))) then (if (wrap64 (x6 + (t258.size : Int))) ≤ (x0.size : Int) then (if (x0.extract (x6 : Int).toNat ((wrap64 (x6 + (t258.size : Int))) : Int).toNat).toList = t258.toList then (sizarlaw09_LexPlaces.l0 k x0 x3 (wrap64 (x6 + (t258.size : Int))) (wrap64 (x7 + 1))) else (some false)) else (none)) else (none)) else (none)))))) else (none)) else (none)))
end
def sizarlaw09_LexPlaces.f (k : Nat) (a0 : ByteArray) : Option (Bool) := (sizarlaw09_sane.f k).bind fun t246 => (if t246 = true then (if (a0.size : Int) > 3000 then (some true) else ((lex_Lex.f a0).bind fun bt247 => (if bt247.2.2 = 0 then (sizarlaw09_LexPlaces.l0 k a0 bt247.1 0 0) else (some ((bt247.1.length : Int) == 0))))) else (some false))
theorem sizarlaw09_LexPlaces.mono_l : ∀ k, (∀ y0 y1 y2 y3, LeO (sizarlaw09_LexPlaces.l0 k y0 y1 y2 y3) (sizarlaw09_LexPlaces.l0 (k + 1) y0 y1 y2 y3)) ∧ (∀ y0 y1 y2 y3 y4, LeO (sizarlaw09_LexPlaces.j1 k y0 y1 y2 y3 y4) (sizarlaw09_LexPlaces.j1 (k + 1) y0 y1 y2 y3 y4)) ∧ (∀ y0 y1 y2 y3 y4 y5, LeO (sizarlaw09_LexPlaces.j2 k y0 y1 y2 y3 y4 y5) (sizarlaw09_LexPlaces.j2 (k + 1) y0 y1 y2 y3 y4 y5)) ∧ (∀ y0 y1 y2 y3 y4 y5, LeO (sizarlaw09_LexPlaces.l1 k y0 y1 y2 y3 y4 y5) (sizarlaw09_LexPlaces.l1 (k + 1) y0 y1 y2 y3 y4 y5))
  | 0 => ⟨fun _ _ _ _ r h => by simp [sizarlaw09_LexPlaces.l0] at h, fun _ _ _ _ _ r h => by simp [sizarlaw09_LexPlaces.j1] at h, fun _ _ _ _ _ _ r h => by simp [sizarlaw09_LexPlaces.j2] at h, fun _ _ _ _ _ _ r h => by simp [sizarlaw09_LexPlaces.l1] at h⟩
  | k + 1 => by
    obtain ⟨ih0, ih1, ih2, ih3⟩ := sizarlaw09_LexPlaces.mono_l k
    refine ⟨?_, ?_, ?_, ?_⟩
    · intro y0 y1 y2 y3
      unfold sizarlaw09_LexPlaces.l0
      repeat' first
      | (with_reducible exact ih0 _ _ _ _)
      | (with_reducible exact ih1 _ _ _ _ _)
      | (with_reducible exact ih2 _ _ _ _ _ _)
      | (with_reducible exact ih3 _ _ _ _ _ _)
      | (with_reducible exact sizarlaw09_sane.mono _)
      | (with_reducible exact sizarlaw09_spelled.mono _ _ _ _ _)
      | (with_reducible exact LeO.refl _)
      | (with_reducible exact LeO.none _)
      | (with_reducible refine LeO.ite ?_ ?_)
      | (with_reducible refine LeO.bind ?_ (fun _ => ?_))
      | exact ih0 _ _ _ _
      | exact ih1 _ _ _ _ _
      | exact ih2 _ _ _ _ _ _
      | exact ih3 _ _ _ _ _ _
      | exact sizarlaw09_sane.mono _
      | exact sizarlaw09_spelled.mono _ _ _ _ _
      | exact LeO.none _
      | refine LeO.ite ?_ ?_
      | refine LeO.bind ?_ (fun _ => ?_)
    · intro y0 y1 y2 y3 y4
      unfold sizarlaw09_LexPlaces.j1
      repeat' first
      | (with_reducible exact ih0 _ _ _ _)
      | (with_reducible exact ih1 _ _ _ _ _)
      | (with_reducible exact ih2 _ _ _ _ _ _)
      | (with_reducible exact ih3 _ _ _ _ _ _)
      | (with_reducible exact sizarlaw09_sane.mono _)
      | (with_reducible exact sizarlaw09_spelled.mono _ _ _ _ _)
      | (with_reducible exact LeO.refl _)
      | (with_reducible exact LeO.none _)
      | (with_reducible refine LeO.ite ?_ ?_)
      | (with_reducible refine LeO.bind ?_ (fun _ => ?_))
      | exact ih0 _ _ _ _
      | exact ih1 _ _ _ _ _
      | exact ih2 _ _ _ _ _ _
      | exact ih3 _ _ _ _ _ _
      | exact sizarlaw09_sane.mono _
      | exact sizarlaw09_spelled.mono _ _ _ _ _
      | exact LeO.none _
      | refine LeO.ite ?_ ?_
      | refine LeO.bind ?_ (fun _ => ?_)
    · intro y0 y1 y2 y3 y4 y5
      unfold sizarlaw09_LexPlaces.j2
      repeat' first
      | (with_reducible exact ih0 _ _ _ _)
      | (with_reducible exact ih1 _ _ _ _ _)
      | (with_reducible exact ih2 _ _ _ _ _ _)
      | (with_reducible exact ih3 _ _ _ _ _ _)
      | (with_reducible exact sizarlaw09_sane.mono _)
      | (with_reducible exact sizarlaw09_spelled.mono _ _ _ _ _)
      | (with_reducible exact LeO.refl _)
      | (with_reducible exact LeO.none _)
      | (with_reducible refine LeO.ite ?_ ?_)
      | (with_reducible refine LeO.bind ?_ (fun _ => ?_))
      | exact ih0 _ _ _ _
      | exact ih1 _ _ _ _ _
      | exact ih2 _ _ _ _ _ _
      | exact ih3 _ _ _ _ _ _
      | exact sizarlaw09_sane.mono _
      | exact sizarlaw09_spelled.mono _ _ _ _ _
      | exact LeO.none _
      | refine LeO.ite ?_ ?_
      | refine LeO.bind ?_ (fun _ => ?_)
    · intro y0 y1 y2 y3 y4 y5
      unfold sizarlaw09_LexPlaces.l1
      repeat' first
      | (with_reducible exact ih0 _ _ _ _)
      | (with_reducible exact ih1 _ _ _ _ _)
      | (with_reducible exact ih2 _ _ _ _ _ _)
      | (with_reducible exact ih3 _ _ _ _ _ _)
      | (with_reducible exact sizarlaw09_sane.mono _)
      | (with_reducible exact sizarlaw09_spelled.mono _ _ _ _ _)
      | (with_reducible exact LeO.refl _)
      | (with_reducible exact LeO.none _)
      | (with_reducible refine LeO.ite ?_ ?_)
      | (with_reducible refine LeO.bind ?_ (fun _ => ?_))
      | exact ih0 _ _ _ _
      | exact ih1 _ _ _ _ _
      | exact ih2 _ _ _ _ _ _
      | exact ih3 _ _ _ _ _ _
      | exact sizarlaw09_sane.mono _
      | exact sizarlaw09_spelled.mono _ _ _ _ _
      | exact LeO.none _
      | refine LeO.ite ?_ ?_
      | refine LeO.bind ?_ (fun _ => ?_)
theorem sizarlaw09_LexPlaces.mono : ∀ a0 k, LeO (sizarlaw09_LexPlaces.f k a0) (sizarlaw09_LexPlaces.f (k + 1) a0) := by
  intro a0 k
  obtain ⟨ih0, ih1, ih2, ih3⟩ := sizarlaw09_LexPlaces.mono_l k
  unfold sizarlaw09_LexPlaces.f
  repeat' first
      | (with_reducible exact ih0 _ _ _ _)
      | (with_reducible exact ih1 _ _ _ _ _)
      | (with_reducible exact ih2 _ _ _ _ _ _)
      | (with_reducible exact ih3 _ _ _ _ _ _)
      | (with_reducible exact sizarlaw09_sane.mono _)
      | (with_reducible exact sizarlaw09_spelled.mono _ _ _ _ _)
      | (with_reducible exact LeO.refl _)
      | (with_reducible exact LeO.none _)
      | (with_reducible refine LeO.ite ?_ ?_)
      | (with_reducible refine LeO.bind ?_ (fun _ => ?_))
      | exact ih0 _ _ _ _
      | exact ih1 _ _ _ _ _
      | exact ih2 _ _ _ _ _ _
      | exact ih3 _ _ _ _ _ _
      | exact sizarlaw09_sane.mono _
      | exact sizarlaw09_spelled.mono _ _ _ _ _
      | exact LeO.none _
      | refine LeO.ite ?_ ?_
      | refine LeO.bind ?_ (fun _ => ?_)
set_option maxHeartbeats 8000000 in
set_option maxRecDepth 100000 in
theorem sizarlaw09_LexPlaces.calls (k : Nat) (a0 : ByteArray) (r : Bool) (w : World) (hL : Laid w) (h : sizarlaw09_LexPlaces.f k a0 = some r) :
    Calls Tryd.prog 6 #[.string a0] w fun e w' => e = .returned (.bool r) ∧ Below w.heap.size w w' := by
  have hu35 := Tryd.underlying35
  have HB := Aside0.mk (Below.refl w.heap.size w)
  have H : ((sizarlaw09_sane.f k).bind fun t246 => (if t246 = true then (if (a0.size : Int) > 3000 then (some true) else ((lex_Lex.f a0).bind fun bt247 => (if bt247.2.2 = 0 then (sizarlaw09_LexPlaces.l0 k a0 bt247.1 0 0) else (some ((bt247.1.length : Int) == 0))))) else (some false))) = some r := h
  clear h
  replace H := Option.bind_eq_some_iff.mp H
  obtain ⟨t246, A20, H⟩ := H
  replace H : (if t246 = true then (if (a0.size : Int) > 3000 then (some true) else ((lex_Lex.f a0).bind fun bt247 => (if bt247.2.2 = 0 then (sizarlaw09_LexPlaces.l0 k a0 bt247.1 0 0) else (some ((bt247.1.length : Int) == 0))))) else (some false)) = some r := H
  have A2 := Aside0.mk A20
  clear A20
  by_cases c3 : t246 = true
  · subst c3
    have H1 : (if (a0.size : Int) > 3000 then (some true) else ((lex_Lex.f a0).bind fun bt247 => (if bt247.2.2 = 0 then (sizarlaw09_LexPlaces.l0 k a0 bt247.1 0 0) else (some ((bt247.1.length : Int) == 0))))) = some r := by rw [if_pos rfl] at H; exact H
    clear H
    have H := H1
    clear H1
    by_cases c4 : (a0.size : Int) > 3000
    · rw [if_pos c4] at H
      have c4b0 : decide (3000 < (a0.size : Int)) = true := decide_eq_true c4
      have c4b1 : decide (3000 < a0.size) = true := decide_eq_true (by omega)
      clear c4
      obtain rfl := Option.some.inj H
      go_enter Tryd.func6, Tryd.ntmps6
      go_wp2_with (first | ((with_reducible refine gate_callee (f := 14) rfl ?_); refine goesL_ (some 11) rfl rfl Tryd.func14 (by kernel_rfl) rfl #[] rfl (by (try simp only [List.map_toArray, List.map_cons, List.map_nil]); first | done | rfl | (simp only [List.length_drop, List.length_take]; rfl)) ?_; (with_reducible refine (sizarlaw09_sane.calls k  true _ ?side1 A2.out).mono ?_); (case side1 => exact Laid.below hL (by repeat (first | (with_reducible first | exact HB.out | apply below_alloc | apply pw_below_drewN | apply below_drew1) | exact HB.out))); rintro e w5 ⟨rfl, hb⟩; refine ⟨_, rfl, ?_⟩; have n0_ := Aside0.mk (below_step (by repeat (first | (with_reducible first | exact HB.out | apply below_alloc | apply pw_below_drewN | apply below_drew1) | exact HB.out)) hb); clear HB; have HB := n0_; clear n0_; (try clear hb); (try clear hb2); (try clear hk); (try clear hi)))
      go_ret
      exact ⟨by first | rfl | (simp [errW_none, errW_some] <;> rfl) | (simp [*, errW_none, errW_some] <;> rfl), by repeat (first | (with_reducible first | exact HB.out | apply below_alloc | apply pw_below_drewN | apply below_drew1) | exact HB.out)⟩
    · rw [if_neg c4] at H
      have c4b0 : decide (3000 < (a0.size : Int)) = false := decide_eq_false c4
      have c4b1 : decide (3000 < a0.size) = false := decide_eq_false (by omega)
      clear c4
      replace H := Option.bind_eq_some_iff.mp H
      obtain ⟨⟨t247, t248, t249⟩, A60, H⟩ := H
      replace H : (if t249 = 0 then (sizarlaw09_LexPlaces.l0 k a0 t247 0 0) else (some ((t247.length : Int) == 0))) = some r := H
      have A6 := Aside0.mk A60
      clear A60
      by_cases c7 : t249 = 0
      · rw [if_pos c7] at H
        have c7b0 : (t249 == 0) = true := beq_iff_eq.mpr c7
        have c7b1 : (t249 != 0) = false := bne_eq_false_iff_eq.mpr c7
        clear c7
        have H' := Aside0.mk H
        clear H
        go_enter Tryd.func6, Tryd.ntmps6
        go_wp2_with (first | ((with_reducible refine gate_callee (f := 14) rfl ?_); refine goesL_ (some 11) rfl rfl Tryd.func14 (by kernel_rfl) rfl #[] rfl (by (try simp only [List.map_toArray, List.map_cons, List.map_nil]); first | done | rfl | (simp only [List.length_drop, List.length_take]; rfl)) ?_; (with_reducible refine (sizarlaw09_sane.calls k  true _ ?side1 A2.out).mono ?_); (case side1 => exact Laid.below hL (by repeat (first | (with_reducible first | exact HB.out | apply below_alloc | apply pw_below_drewN | apply below_drew1) | exact HB.out))); rintro e w8 ⟨rfl, hb⟩; refine ⟨_, rfl, ?_⟩; have n0_ := Aside0.mk (below_step (by repeat (first | (with_reducible first | exact HB.out | apply below_alloc | apply pw_below_drewN | apply below_drew1) | exact HB.out)) hb); clear HB; have HB := n0_; clear n0_; (try clear hb); (try clear hb2); (try clear hk); (try clear hi)) | ((with_reducible refine gate_callee (f := 15) rfl ?_); refine goesL_ (some 18) rfl rfl Tryd.func15 (by kernel_rfl) rfl #[.string a0] rfl (by (try simp only [List.map_toArray, List.map_cons, List.map_nil]); first | done | rfl | (simp only [List.length_drop, List.length_take]; rfl)) ?_; (with_reducible refine (lex_Lex.calls a0 t247 t248 t249 _ ?side1 A6.out).mono ?_); (case side1 => exact Laid.below hL (by repeat (first | (with_reducible first | exact HB.out | apply below_alloc | apply pw_below_drewN | apply below_drew1) | exact HB.out))); rintro e w9 ⟨v250, rfl, ho0, hb⟩; refine ⟨_, rfl, ?_⟩; have n0_ := Aside0.mk (Kd.R_lower ho0 (below_size (by repeat (first | (with_reducible first | exact HB.out | apply below_alloc | apply pw_below_drewN | apply below_drew1) | exact HB.out)))); have n1_ := Aside0.mk (below_step (by repeat (first | (with_reducible first | exact HB.out | apply below_alloc | apply pw_below_drewN | apply below_drew1) | exact HB.out)) hb); clear HB; have HO251 := n0_; have HB := n1_; clear n0_ n1_; (try clear hb); (try clear hb2); (try clear hk); (try clear hi); (try clear ho0)))
        go_loopg [6, 7] k (fun kq v6 v7 w' => ∃ (x6_1 : Int) (x7_1 : Int), v6 = .int .i64 x6_1 ∧ v7 = .int .i64 x7_1 ∧ Aside0 (sizarlaw09_LexPlaces.l0 kq a0 t247 x6_1 x7_1 = some r) ∧ Aside0 (kq ≤ k) ∧ Aside0 (Kd.R k35 35 w' w.heap.size (fun _ => True) v250 t247) ∧ Aside0 (Below w.heap.size w w'))
        case atStart => exact ⟨(0), (0), (by first | rfl | (simp; done) | (simp [*]; done)), (by first | rfl | (simp; done) | (simp [*]; done)), H', ⟨Nat.le_refl _⟩, ⟨by (with_reducible repeat (first | apply Kd.R_alloc | apply Kd.R_drewN | apply Kd.R_drew)); exact HO251.out⟩, ⟨by repeat (first | (with_reducible first | exact HB.out | apply below_alloc | apply pw_below_drewN | apply below_drew1) | exact HB.out)⟩⟩
        case round =>
          clear H'
          try clear c1
          try clear p2
          try clear c3
          try clear c4
          try clear c4b0
          try clear c4b1
          try clear c6
          try clear c7
          try clear c7b0
          try clear c7b1
          obtain ⟨x6_1, x7_1, rfl, rfl, HA, HK1, HO_3, HB⟩ := hrel
          cases gk with
          | zero => exact absurd HA.out (by simp [sizarlaw09_LexPlaces.l0])
          | succ k1 =>
            have H := HA.out
            clear HA
            simp only [sizarlaw09_LexPlaces.l0] at H
            by_cases c10 : x7_1 ≤ (t247.length : Int)
            · rw [if_pos c10] at H
              have c10b0 : decide (x7_1 ≤ (t247.length : Int)) = true := decide_eq_true c10
              clear c10
              have HC11 := Aside0.mk H
              clear H
              obtain ⟨Ao12, co12, eo12⟩ := Kd.R_slice HO_3.out
              subst eo12
              go_upto_if 38 with (fail)
              go_cut [8] (fun v8 wc => ∃ (kq : Nat) (x8_10 : Int), v8 = .int .i64 x8_10 ∧ Aside0 (sizarlaw09_LexPlaces.j1 kq a0 t247 x6_1 x7_1 x8_10 = some r) ∧ Aside0 (kq ≤ k1) ∧ Aside0 (Kd.R k35 35 wc w.heap.size (fun _ => True) (.slice Ao12 t247.length co12) t247) ∧ Aside0 (Below w.heap.size w wc))
              case first =>
                have H := HC11.out
                clear HC11
                by_cases c13 : x7_1 < (t247.length : Int)
                · rw [if_pos c13] at H
                  have c13b0 : decide (x7_1 < (t247.length : Int)) = true := decide_eq_true c13
                  clear c13
                  (first | rw [c13b0] | (simp only [i64_w, i32_w]; rw [c13b0]) | skip)
                  by_cases c14 : 0 ≤ x7_1
                  · rw [if_pos c14] at H
                    have c14b0 : decide (0 ≤ x7_1) = true := decide_eq_true c14
                    clear c14
                    have H' := Aside0.mk H
                    clear H
                    have p252 : 0 ≤ (x7_1 : Int) := of_decide_eq_true (by first | (with_reducible assumption) | assumption)
                    have q252 : x7_1 < (t247.length : Int) := of_decide_eq_true (by first | (with_reducible assumption) | assumption)
                    obtain ⟨ad252, e252, hx252_0, hx252_1, hx252_2, hx252_3⟩ := at_T35 (Kd.R_reads' HO_3.out).2.2 x7_1 p252 q252
                    cases e252
                    replace p252 := eq_true p252
                    replace q252 := eq_true q252
                    go_wp2
                    go_meet
                    case rel => exact ⟨_, ((rd_T35 t247 x7_1).f3), (by first | rfl | (simp; done) | (simp [*]; done)), H', ⟨by have := HK1.out; first | omega | exact Nat.le_refl _⟩, ⟨by (with_reducible repeat (first | apply Kd.R_alloc | apply Kd.R_drewN | apply Kd.R_drew)); exact HO_3.out⟩, ⟨by repeat (first | (with_reducible first | exact HB.out | apply below_alloc | apply pw_below_drewN | apply below_drew1) | exact HB.out)⟩⟩
                  · rw [if_neg c14] at H
                    exact absurd H (by simp)
                · rw [if_neg c13] at H
                  have c13b0 : decide (x7_1 < (t247.length : Int)) = false := decide_eq_false c13
                  clear c13
                  (first | rw [c13b0] | (simp only [i64_w, i32_w]; rw [c13b0]) | skip)
                  have H' := Aside0.mk H
                  clear H
                  go_wp2
                  go_meet
                  case rel => exact ⟨_, ((a0.size : Int)), (by first | rfl | (simp; done) | (simp [*]; done)), H', ⟨by have := HK1.out; first | omega | exact Nat.le_refl _⟩, ⟨by (with_reducible repeat (first | apply Kd.R_alloc | apply Kd.R_drewN | apply Kd.R_drew)); exact HO_3.out⟩, ⟨by repeat (first | (with_reducible first | exact HB.out | apply below_alloc | apply pw_below_drewN | apply below_drew1) | exact HB.out)⟩⟩
              case rest =>
                clear HC11
                try clear c1
                try clear p2
                try clear q2
                try clear hx2
                try clear c3
                try clear c4
                try clear c4b0
                try clear c4b1
                try clear c6
                try clear c7
                try clear c7b0
                try clear c7b1
                try clear c10
                try clear c10b0
                try clear c13
                try clear c13b0
                try clear c14
                try clear c14b0
                try clear hx252_0
                try clear hx252_1
                try clear hx252_2
                try clear hx252_3
                try clear p2
                try clear p252
                try clear q252
                obtain ⟨kq, x8_10, rfl, HA, HJ10, HO_3, HB⟩ := hcut
                cases kq with
                | zero => exact absurd HA.out (by simp [sizarlaw09_LexPlaces.j1])
                | succ kj10 =>
                  have H := HA.out
                  clear HA
                  simp only [sizarlaw09_LexPlaces.j1] at H
                  have HC15 := Aside0.mk H
                  clear H
                  go_upto_region 15 with (fail)
                  go_cut [52] (fun v52 wc => ∃ (kq : Nat) (x52_14 : Bool), v52 = .bool x52_14 ∧ Aside0 (sizarlaw09_LexPlaces.j2 kq a0 t247 x6_1 x7_1 x8_10 x52_14 = some r) ∧ Aside0 (kq ≤ kj10) ∧ Aside0 (Kd.R k35 35 wc w.heap.size (fun _ => True) (.slice Ao12 t247.length co12) t247) ∧ Aside0 (Below w.heap.size w wc))
                  case first =>
                    have H := HC15.out
                    clear HC15
                    by_cases c16 : x8_10 < x6_1
                    · rw [if_pos c16] at H
                      have c16b0 : decide (x8_10 < x6_1) = true := decide_eq_true c16
                      clear c16
                      (first | rw [c16b0] | (simp only [i64_w, i32_w]; rw [c16b0]) | skip)
                      have H' := Aside0.mk H
                      clear H
                      go_wp2
                      go_meet
                      case rel => exact ⟨_, (true), (by first | rfl | (simp; done) | (simp [*]; done)), H', ⟨by have := HK1.out; have := HJ10.out; first | omega | exact Nat.le_refl _⟩, ⟨by (with_reducible repeat (first | apply Kd.R_alloc | apply Kd.R_drewN | apply Kd.R_drew)); exact HO_3.out⟩, ⟨by repeat (first | (with_reducible first | exact HB.out | apply below_alloc | apply pw_below_drewN | apply below_drew1) | exact HB.out)⟩⟩
                    · rw [if_neg c16] at H
                      have c16b0 : decide (x8_10 < x6_1) = false := decide_eq_false c16
                      clear c16
                      (first | rw [c16b0] | (simp only [i64_w, i32_w]; rw [c16b0]) | skip)
                      have H' := Aside0.mk H
                      clear H
                      go_wp2
                      go_meet
                      case rel => exact ⟨_, (decide (x8_10 > (a0.size : Int))), (by first | rfl | (simp; done) | (simp [*]; done)), H', ⟨by have := HK1.out; have := HJ10.out; first | omega | exact Nat.le_refl _⟩, ⟨by (with_reducible repeat (first | apply Kd.R_alloc | apply Kd.R_drewN | apply Kd.R_drew)); exact HO_3.out⟩, ⟨by repeat (first | (with_reducible first | exact HB.out | apply below_alloc | apply pw_below_drewN | apply below_drew1) | exact HB.out)⟩⟩
                  case rest =>
                    clear HC15
                    try clear c1
                    try clear p2
                    try clear q2
                    try clear hx2
                    try clear c3
                    try clear c4
                    try clear c4b0
                    try clear c4b1
                    try clear c6
                    try clear c7
                    try clear c7b0
                    try clear c7b1
                    try clear c10
                    try clear c10b0
                    try clear c13
                    try clear c13b0
                    try clear c14
                    try clear c14b0
                    try clear c15
                    try clear c16
                    try clear c16b0
                    try clear hx252_0
                    try clear hx252_1
                    try clear hx252_2
                    try clear hx252_3
                    try clear p2
                    try clear p252
                    try clear q2
                    try clear q252
                    obtain ⟨kq, x52_14, rfl, HA, HJ14, HO_3, HB⟩ := hcut
                    cases kq with
                    | zero => exact absurd HA.out (by simp [sizarlaw09_LexPlaces.j2])
                    | succ kj14 =>
                      have H := HA.out
                      clear HA
                      simp only [sizarlaw09_LexPlaces.j2] at H
                      by_cases c17 : x52_14 = true
                      · subst c17
                        have H1 : (some false) = some r := by rw [if_pos rfl] at H; exact H
                        clear H
                        have H := H1
                        clear H1
                        obtain rfl := Option.some.inj H
                        go_wp2
                        go_ret
                        exact ⟨by first | rfl | (simp [errW_none, errW_some] <;> rfl) | (simp [*, errW_none, errW_some] <;> rfl), by repeat (first | (with_reducible first | exact HB.out | apply below_alloc | apply pw_below_drewN | apply below_drew1) | exact HB.out)⟩
                      · replace c17 := Bool.eq_false_iff.mpr c17
                        subst c17
                        have H1 : (sizarlaw09_LexPlaces.l1 kj14 a0 t247 x6_1 x7_1 x8_10 false) = some r := by rw [if_neg (show ¬ (false = true) by decide)] at H; exact H
                        clear H
                        have H := H1
                        clear H1
                        have H' := Aside0.mk H
                        clear H
                        go_wp2
                        go_loopg [6, 9] kj14 (fun kq v6 v9 w' => ∃ (x6_4 : Int) (x9_4 : Bool), v6 = .int .i64 x6_4 ∧ v9 = .bool x9_4 ∧ Aside0 (sizarlaw09_LexPlaces.l1 kq a0 t247 x6_4 x7_1 x8_10 x9_4 = some r) ∧ Aside0 (kq ≤ kj14) ∧ Aside0 (Kd.R k35 35 w' w.heap.size (fun _ => True) (.slice Ao12 t247.length co12) t247) ∧ Aside0 (Below w.heap.size w w'))
                        case atStart => exact ⟨(x6_1), (false), (by first | rfl | (simp; done) | (simp [*]; done)), (by first | rfl | (simp; done) | (simp [*]; done)), H', ⟨Nat.le_refl _⟩, ⟨by (with_reducible repeat (first | apply Kd.R_alloc | apply Kd.R_drewN | apply Kd.R_drew)); exact HO_3.out⟩, ⟨by repeat (first | (with_reducible first | exact HB.out | apply below_alloc | apply pw_below_drewN | apply below_drew1) | exact HB.out)⟩⟩
                        case round =>
                          clear H'
                          try clear c1
                          try clear p2
                          try clear q2
                          try clear hx2
                          try clear c3
                          try clear c4
                          try clear c4b0
                          try clear c4b1
                          try clear c6
                          try clear c7
                          try clear c7b0
                          try clear c7b1
                          try clear c10
                          try clear c10b0
                          try clear c13
                          try clear c13b0
                          try clear c14
                          try clear c14b0
                          try clear c15
                          try clear c16
                          try clear c16b0
                          try clear c17
                          try clear hx252_0
                          try clear hx252_1
                          try clear hx252_2
                          try clear hx252_3
                          try clear p2
                          try clear p252
                          try clear q2
                          try clear q252
                          obtain ⟨x6_4, x9_4, rfl, rfl, HA, HK4, HO_3, HB⟩ := hrel
                          cases gk with
                          | zero => exact absurd HA.out (by simp [sizarlaw09_LexPlaces.l1])
                          | succ k4 =>
                            have H := HA.out
                            clear HA
                            simp only [sizarlaw09_LexPlaces.l1] at H
                            by_cases c18 : x6_4 < x8_10
                            · rw [if_pos c18] at H
                              have c18b0 : decide (x6_4 < x8_10) = true := decide_eq_true c18
                              clear c18
                              by_cases c19 : 0 ≤ x6_4
                              · rw [if_pos c19] at H
                                have c19b0 : decide (0 ≤ x6_4) = true := decide_eq_true c19
                                clear c19
                                by_cases c20 : x6_4 < (a0.size : Int)
                                · rw [if_pos c20] at H
                                  have c20b0 : decide (x6_4 < (a0.size : Int)) = true := decide_eq_true c20
                                  clear c20
                                  by_cases c22 : (bt a0 x6_4) = 10
                                  · rw [if_pos c22] at H
                                    have c22b0 : ((bt a0 x6_4) == 10) = true := beq_iff_eq.mpr c22
                                    have c22b1 : ((bt a0 x6_4) != 10) = false := bne_eq_false_iff_eq.mpr c22
                                    clear c22
                                    replace H := Option.bind_eq_some_iff.mp H
                                    obtain ⟨t253, A240, H⟩ := H
                                    replace H : (if t253 = true then (sizarlaw09_LexPlaces.l1 k4 a0 t247 (wrap64 (x6_4 + 1)) x7_1 x8_10 false) else (some false)) = some r := H
                                    have A24 := Aside0.mk A240
                                    clear A240
                                    by_cases c25 : t253 = true
                                    · subst c25
                                      have H1 : (sizarlaw09_LexPlaces.l1 k4 a0 t247 (wrap64 (x6_4 + 1)) x7_1 x8_10 false) = some r := by rw [if_pos rfl] at H; exact H
                                      clear H
                                      have H := H1
                                      clear H1
                                      have H' := Aside0.mk H
                                      clear H
                                      have p21 : 0 ≤ (x6_4 : Int) := of_decide_eq_true (by first | (with_reducible assumption) | assumption)
                                      have q21 : x6_4 < (a0.size : Int) := of_decide_eq_true (by first | (with_reducible assumption) | assumption)
                                      have hx21 := bt_at a0 x6_4
                                      replace p21 := eq_true p21
                                      replace q21 := eq_true q21
                                      have p23 : 0 ≤ (x6_4 : Int) := of_decide_eq_true (by first | (with_reducible assumption) | assumption)
                                      have q23 : x6_4 < (a0.size : Int) := of_decide_eq_true (by first | (with_reducible assumption) | assumption)
                                      have hx23 := bt_at a0 x6_4
                                      replace p23 := eq_true p23
                                      replace q23 := eq_true q23
                                      go_wp2_with (first | (go_at_call 25; (with_reducible refine (sizarref09_Space.calls (bt a0 x6_4) true _ A24.out).mono ?_); rintro e w' ⟨rfl, ⟨nd, rfl⟩⟩))
                                      go_roundg k4
                                      case measure => have := HK1.out; have := HJ10.out; have := HJ14.out; have := HK4.out; omega
                                      case rel => exact ⟨(wrap64 (x6_4 + 1)), (false), (by first | rfl | (simp; done) | (simp [*]; done)), (by first | rfl | (simp; done) | (simp [*]; done)), H', ⟨by have := HK1.out; have := HJ10.out; have := HJ14.out; have := HK4.out; omega⟩, ⟨by (with_reducible repeat (first | apply Kd.R_alloc | apply Kd.R_drewN | apply Kd.R_drew)); exact HO_3.out⟩, ⟨by repeat (first | (with_reducible first | exact HB.out | apply below_alloc | apply pw_below_drewN | apply below_drew1) | exact HB.out)⟩⟩
                                    · replace c25 := Bool.eq_false_iff.mpr c25
                                      subst c25
                                      have H1 : (some false) = some r := by rw [if_neg (show ¬ (false = true) by decide)] at H; exact H
                                      clear H
                                      have H := H1
                                      clear H1
                                      obtain rfl := Option.some.inj H
                                      have p21 : 0 ≤ (x6_4 : Int) := of_decide_eq_true (by first | (with_reducible assumption) | assumption)
                                      have q21 : x6_4 < (a0.size : Int) := of_decide_eq_true (by first | (with_reducible assumption) | assumption)
                                      have hx21 := bt_at a0 x6_4
                                      replace p21 := eq_true p21
                                      replace q21 := eq_true q21
                                      have p23 : 0 ≤ (x6_4 : Int) := of_decide_eq_true (by first | (with_reducible assumption) | assumption)
                                      have q23 : x6_4 < (a0.size : Int) := of_decide_eq_true (by first | (with_reducible assumption) | assumption)
                                      have hx23 := bt_at a0 x6_4
                                      replace p23 := eq_true p23
                                      replace q23 := eq_true q23
                                      go_wp2_with (first | (go_at_call 25; (with_reducible refine (sizarref09_Space.calls (bt a0 x6_4) false _ A24.out).mono ?_); rintro e w' ⟨rfl, ⟨nd, rfl⟩⟩))
                                      go_ret
                                      exact ⟨by first | rfl | (simp [errW_none, errW_some] <;> rfl) | (simp [*, errW_none, errW_some] <;> rfl), by repeat (first | (with_reducible first | exact HB.out | apply below_alloc | apply pw_below_drewN | apply below_drew1) | exact HB.out)⟩
                                  · rw [if_neg c22] at H
                                    have c22b0 : ((bt a0 x6_4) == 10) = false := beq_eq_false_iff_ne.mpr c22
                                    have c22b1 : ((bt a0 x6_4) != 10) = true := bne_iff_ne.mpr c22
                                    by_cases c26 : x9_4 = true
                                    · subst c26
                                      have H1 : (sizarlaw09_LexPlaces.l1 k4 a0 t247 (wrap64 (x6_4 + 1)) x7_1 x8_10 true) = some r := by rw [if_pos rfl] at H; exact H
                                      clear H
                                      have H := H1
                                      clear H1
                                      have H' := Aside0.mk H
                                      clear H
                                      have p21 : 0 ≤ (x6_4 : Int) := of_decide_eq_true (by first | (with_reducible assumption) | assumption)
                                      have q21 : x6_4 < (a0.size : Int) := of_decide_eq_true (by first | (with_reducible assumption) | assumption)
                                      have hx21 := bt_at a0 x6_4
                                      replace p21 := eq_true p21
                                      replace q21 := eq_true q21
                                      go_wp2
                                      go_roundg k4
                                      case measure => have := HK1.out; have := HJ10.out; have := HJ14.out; have := HK4.out; omega
                                      case rel => exact ⟨(wrap64 (x6_4 + 1)), (true), (by first | rfl | (simp; done) | (simp [*]; done)), (by first | rfl | (simp; done) | (simp [*]; done)), H', ⟨by have := HK1.out; have := HJ10.out; have := HJ14.out; have := HK4.out; omega⟩, ⟨by (with_reducible repeat (first | apply Kd.R_alloc | apply Kd.R_drewN | apply Kd.R_drew)); exact HO_3.out⟩, ⟨by repeat (first | (with_reducible first | exact HB.out | apply below_alloc | apply pw_below_drewN | apply below_drew1) | exact HB.out)⟩⟩
                                    · replace c26 := Bool.eq_false_iff.mpr c26
                                      subst c26
                                      have H1 : (if (bt a0 x6_4) = 47 then (if (wrap64 (x6_4 + 1)) < x8_10 then (if 0 ≤ (wrap64 (x6_4 + 1)) then (if (wrap64 (x6_4 + 1)) < (a0.size : Int) then (if ((bt a0 (wrap64 (x6_4 + 1))) = 47) then (sizarlaw09_LexPlaces.l1 k4 a0 t247 (wrap64 (x6_4 + 1)) x7_1 x8_10 ((bt a0 (wrap64 (x6_4 + 1))) == 47)) else ((sizarref09_Space.f (bt a0 x6_4)).bind fun t254 => (if t254 = true then (sizarlaw09_LexPlaces.l1 k4 a0 t247 (wrap64 (x6_4 + 1)) x7_1 x8_10 ((bt a0 (wrap64 (x6_4 + 1))) == 47)) else (some false)))) else (none)) else (none)) else ((sizarref09_Space.f (bt a0 x6_4)).bind fun t255 => (if t255 = true then (sizarlaw09_LexPlaces.l1 k4 a0 t247 (wrap64 (x6_4 + 1)) x7_1 x8_10 false) else (some false)))) else ((sizarref09_Space.f (bt a0 x6_4)).bind fun t256 => (if t256 = true then (sizarlaw09_LexPlaces.l1 k4 a0 t247 (wrap64 (x6_4 + 1)) x7_1 x8_10 false) else (some false)))) = some r := by rw [if_neg (show ¬ (false = true) by decide)] at H; exact H
                                      clear H
                                      have H := H1
                                      clear H1
                                      by_cases c28 : (bt a0 x6_4) = 47
                                      · rw [if_pos c28] at H
                                        have c28b0 : ((bt a0 x6_4) == 47) = true := beq_iff_eq.mpr c28
                                        have c28b1 : ((bt a0 x6_4) != 47) = false := bne_eq_false_iff_eq.mpr c28
                                        clear c28
                                        by_cases c29 : (wrap64 (x6_4 + 1)) < x8_10
                                        · rw [if_pos c29] at H
                                          have c29b0 : decide ((wrap64 (x6_4 + 1)) < x8_10) = true := decide_eq_true c29
                                          clear c29
                                          obtain ⟨ji30, hji30⟩ : ∃ j_ : Int, (wrap64 (x6_4 + 1)) = j_ := ⟨_, rfl⟩
                                          replace H : (if 0 ≤ (ji30) then (if (ji30) < (a0.size : Int) then (if ((bt a0 (ji30)) = 47) then (sizarlaw09_LexPlaces.l1 k4 a0 t247 ji30 x7_1 x8_10 ((bt a0 (ji30)) == 47)) else ((sizarref09_Space.f (bt a0 x6_4)).bind fun t254 => (if t254 = true then (sizarlaw09_LexPlaces.l1 k4 a0 t247 ji30 x7_1 x8_10 ((bt a0 (ji30)) == 47)) else (some false)))) else (none)) else (none)) = some r := by first | (rw [hji30] at H; exact H) | (simp only [hji30] at H ⊢; exact H)
                                          (try rw [hji30] at c29b0)
                                          have hji30w : (IntKind.i64.wrap (x6_4 + 1)) = ji30 := (i64_w _).trans hji30
                                          by_cases c31 : 0 ≤ (ji30)
                                          · rw [if_pos c31] at H
                                            have c31b0 : decide (0 ≤ (ji30)) = true := decide_eq_true c31
                                            clear c31
                                            by_cases c32 : (ji30) < (a0.size : Int)
                                            · rw [if_pos c32] at H
                                              have c32b0 : decide ((ji30) < (a0.size : Int)) = true := decide_eq_true c32
                                              clear c32
                                              by_cases c34 : ((bt a0 (ji30)) = 47)
                                              · rw [if_pos c34] at H
                                                have c34b0 : ((bt a0 (ji30)) == 47) = true := beq_iff_eq.mpr c34
                                                have c34b1 : ((bt a0 (ji30)) != 47) = false := bne_eq_false_iff_eq.mpr c34
                                                clear c34
                                                have H' := Aside0.mk H
                                                clear H
                                                have p21 : 0 ≤ (x6_4 : Int) := of_decide_eq_true (by first | (with_reducible assumption) | assumption)
                                                have q21 : x6_4 < (a0.size : Int) := of_decide_eq_true (by first | (with_reducible assumption) | assumption)
                                                have hx21 := bt_at a0 x6_4
                                                replace p21 := eq_true p21
                                                replace q21 := eq_true q21
                                                have p27 : 0 ≤ (x6_4 : Int) := of_decide_eq_true (by first | (with_reducible assumption) | assumption)
                                                have q27 : x6_4 < (a0.size : Int) := of_decide_eq_true (by first | (with_reducible assumption) | assumption)
                                                have hx27 := bt_at a0 x6_4
                                                replace p27 := eq_true p27
                                                replace q27 := eq_true q27
                                                have p33 : 0 ≤ ((ji30) : Int) := of_decide_eq_true (by first | (with_reducible assumption) | assumption)
                                                have q33 : (ji30) < (a0.size : Int) := of_decide_eq_true (by first | (with_reducible assumption) | assumption)
                                                have hx33 := bt_at a0 (ji30)
                                                replace p33 := eq_true p33
                                                replace q33 := eq_true q33
                                                go_wp2
                                                go_roundg k4
                                                case measure => have := HK1.out; have := HJ10.out; have := HJ14.out; have := HK4.out; omega
                                                case rel => exact ⟨(ji30), (((bt a0 (ji30)) == 47)), (by first | rfl | (simp; done) | (simp only [← hji30] <;> (first | rfl | (simp; done))) | (simp [*]; done)), (by first | rfl | (simp; done) | (simp only [← hji30] <;> (first | rfl | (simp; done))) | (simp [*]; done)), H', ⟨by have := HK1.out; have := HJ10.out; have := HJ14.out; have := HK4.out; omega⟩, ⟨by (with_reducible repeat (first | apply Kd.R_alloc | apply Kd.R_drewN | apply Kd.R_drew)); exact HO_3.out⟩, ⟨by repeat (first | (with_reducible first | exact HB.out | apply below_alloc | apply pw_below_drewN | apply below_drew1) | exact HB.out)⟩⟩
                                              · rw [if_neg c34] at H
                                                have c34b0 : ((bt a0 (ji30)) == 47) = false := beq_eq_false_iff_ne.mpr c34
                                                have c34b1 : ((bt a0 (ji30)) != 47) = true := bne_iff_ne.mpr c34
                                                replace H := Option.bind_eq_some_iff.mp H
                                                obtain ⟨t254, A360, H⟩ := H
                                                replace H : (if t254 = true then (sizarlaw09_LexPlaces.l1 k4 a0 t247 ji30 x7_1 x8_10 ((bt a0 (ji30)) == 47)) else (some false)) = some r := H
                                                have A36 := Aside0.mk A360
                                                clear A360
                                                by_cases c37 : t254 = true
                                                · subst c37
                                                  have H1 : (sizarlaw09_LexPlaces.l1 k4 a0 t247 ji30 x7_1 x8_10 ((bt a0 (ji30)) == 47)) = some r := by rw [if_pos rfl] at H; exact H
                                                  clear H
                                                  have H := H1
                                                  clear H1
                                                  have H' := Aside0.mk H
                                                  clear H
                                                  have p21 : 0 ≤ (x6_4 : Int) := of_decide_eq_true (by first | (with_reducible assumption) | assumption)
                                                  have q21 : x6_4 < (a0.size : Int) := of_decide_eq_true (by first | (with_reducible assumption) | assumption)
                                                  have hx21 := bt_at a0 x6_4
                                                  replace p21 := eq_true p21
                                                  replace q21 := eq_true q21
                                                  have p27 : 0 ≤ (x6_4 : Int) := of_decide_eq_true (by first | (with_reducible assumption) | assumption)
                                                  have q27 : x6_4 < (a0.size : Int) := of_decide_eq_true (by first | (with_reducible assumption) | assumption)
                                                  have hx27 := bt_at a0 x6_4
                                                  replace p27 := eq_true p27
                                                  replace q27 := eq_true q27
                                                  have p33 : 0 ≤ ((ji30) : Int) := of_decide_eq_true (by first | (with_reducible assumption) | assumption)
                                                  have q33 : (ji30) < (a0.size : Int) := of_decide_eq_true (by first | (with_reducible assumption) | assumption)
                                                  have hx33 := bt_at a0 (ji30)
                                                  replace p33 := eq_true p33
                                                  replace q33 := eq_true q33
                                                  have p35 : 0 ≤ (x6_4 : Int) := of_decide_eq_true (by first | (with_reducible assumption) | assumption)
                                                  have q35 : x6_4 < (a0.size : Int) := of_decide_eq_true (by first | (with_reducible assumption) | assumption)
                                                  have hx35 := bt_at a0 x6_4
                                                  replace p35 := eq_true p35
                                                  replace q35 := eq_true q35
                                                  go_wp2_with (first | (go_at_call 25; (with_reducible refine (sizarref09_Space.calls (bt a0 x6_4) true _ A36.out).mono ?_); rintro e w' ⟨rfl, ⟨nd, rfl⟩⟩))
                                                  go_roundg k4
                                                  case measure => have := HK1.out; have := HJ10.out; have := HJ14.out; have := HK4.out; omega
                                                  case rel => exact ⟨(ji30), (((bt a0 (ji30)) == 47)), (by first | rfl | (simp; done) | (simp only [← hji30] <;> (first | rfl | (simp; done))) | (simp [*]; done)), (by first | rfl | (simp; done) | (simp only [← hji30] <;> (first | rfl | (simp; done))) | (simp [*]; done)), H', ⟨by have := HK1.out; have := HJ10.out; have := HJ14.out; have := HK4.out; omega⟩, ⟨by (with_reducible repeat (first | apply Kd.R_alloc | apply Kd.R_drewN | apply Kd.R_drew)); exact HO_3.out⟩, ⟨by repeat (first | (with_reducible first | exact HB.out | apply below_alloc | apply pw_below_drewN | apply below_drew1) | exact HB.out)⟩⟩
                                                · replace c37 := Bool.eq_false_iff.mpr c37
                                                  subst c37
                                                  have H1 : (some false) = some r := by rw [if_neg (show ¬ (false = true) by decide)] at H; exact H
                                                  clear H
                                                  have H := H1
                                                  clear H1
                                                  obtain rfl := Option.some.inj H
                                                  have p21 : 0 ≤ (x6_4 : Int) := of_decide_eq_true (by first | (with_reducible assumption) | assumption)
                                                  have q21 : x6_4 < (a0.size : Int) := of_decide_eq_true (by first | (with_reducible assumption) | assumption)
                                                  have hx21 := bt_at a0 x6_4
                                                  replace p21 := eq_true p21
                                                  replace q21 := eq_true q21
                                                  have p27 : 0 ≤ (x6_4 : Int) := of_decide_eq_true (by first | (with_reducible assumption) | assumption)
                                                  have q27 : x6_4 < (a0.size : Int) := of_decide_eq_true (by first | (with_reducible assumption) | assumption)
                                                  have hx27 := bt_at a0 x6_4
                                                  replace p27 := eq_true p27
                                                  replace q27 := eq_true q27
                                                  have p33 : 0 ≤ ((ji30) : Int) := of_decide_eq_true (by first | (with_reducible assumption) | assumption)
                                                  have q33 : (ji30) < (a0.size : Int) := of_decide_eq_true (by first | (with_reducible assumption) | assumption)
                                                  have hx33 := bt_at a0 (ji30)
                                                  replace p33 := eq_true p33
                                                  replace q33 := eq_true q33
                                                  have p35 : 0 ≤ (x6_4 : Int) := of_decide_eq_true (by first | (with_reducible assumption) | assumption)
                                                  have q35 : x6_4 < (a0.size : Int) := of_decide_eq_true (by first | (with_reducible assumption) | assumption)
                                                  have hx35 := bt_at a0 x6_4
                                                  replace p35 := eq_true p35
                                                  replace q35 := eq_true q35
                                                  go_wp2_with (first | (go_at_call 25; (with_reducible refine (sizarref09_Space.calls (bt a0 x6_4) false _ A36.out).mono ?_); rintro e w' ⟨rfl, ⟨nd, rfl⟩⟩))
                                                  go_ret
                                                  exact ⟨by first | rfl | (simp [errW_none, errW_some] <;> rfl) | (simp only [← hji30]; first | rfl | (simp [errW_none, errW_some] <;> rfl)) | (simp [*, errW_none, errW_some] <;> rfl), by repeat (first | (with_reducible first | exact HB.out | apply below_alloc | apply pw_below_drewN | apply below_drew1) | exact HB.out)⟩
                                            · rw [if_neg c32] at H
                                              exact absurd H (by simp)
                                          · rw [if_neg c31] at H
                                            exact absurd H (by simp)
                                        · rw [if_neg c29] at H
                                          have c29b0 : decide ((wrap64 (x6_4 + 1)) < x8_10) = false := decide_eq_false c29
                                          clear c29
                                          replace H := Option.bind_eq_some_iff.mp H
                                          obtain ⟨t255, A390, H⟩ := H
                                          replace H : (if t255 = true then (sizarlaw09_LexPlaces.l1 k4 a0 t247 (wrap64 (x6_4 + 1)) x7_1 x8_10 false) else (some false)) = some r := H
                                          have A39 := Aside0.mk A390
                                          clear A390
                                          by_cases c40 : t255 = true
                                          · subst c40
                                            have H1 : (sizarlaw09_LexPlaces.l1 k4 a0 t247 (wrap64 (x6_4 + 1)) x7_1 x8_10 false) = some r := by rw [if_pos rfl] at H; exact H
                                            clear H
                                            have H := H1
                                            clear H1
                                            have H' := Aside0.mk H
                                            clear H
                                            have p21 : 0 ≤ (x6_4 : Int) := of_decide_eq_true (by first | (with_reducible assumption) | assumption)
                                            have q21 : x6_4 < (a0.size : Int) := of_decide_eq_true (by first | (with_reducible assumption) | assumption)
                                            have hx21 := bt_at a0 x6_4
                                            replace p21 := eq_true p21
                                            replace q21 := eq_true q21
                                            have p27 : 0 ≤ (x6_4 : Int) := of_decide_eq_true (by first | (with_reducible assumption) | assumption)
                                            have q27 : x6_4 < (a0.size : Int) := of_decide_eq_true (by first | (with_reducible assumption) | assumption)
                                            have hx27 := bt_at a0 x6_4
                                            replace p27 := eq_true p27
                                            replace q27 := eq_true q27
                                            have p38 : 0 ≤ (x6_4 : Int) := of_decide_eq_true (by first | (with_reducible assumption) | assumption)
                                            have q38 : x6_4 < (a0.size : Int) := of_decide_eq_true (by first | (with_reducible assumption) | assumption)
                                            have hx38 := bt_at a0 x6_4
                                            replace p38 := eq_true p38
                                            replace q38 := eq_true q38
                                            go_wp2_with (first | (go_at_call 25; (with_reducible refine (sizarref09_Space.calls (bt a0 x6_4) true _ A39.out).mono ?_); rintro e w' ⟨rfl, ⟨nd, rfl⟩⟩))
                                            go_roundg k4
                                            case measure => have := HK1.out; have := HJ10.out; have := HJ14.out; have := HK4.out; omega
                                            case rel => exact ⟨(wrap64 (x6_4 + 1)), (false), (by first | rfl | (simp; done) | (simp [*]; done)), (by first | rfl | (simp; done) | (simp [*]; done)), H', ⟨by have := HK1.out; have := HJ10.out; have := HJ14.out; have := HK4.out; omega⟩, ⟨by (with_reducible repeat (first | apply Kd.R_alloc | apply Kd.R_drewN | apply Kd.R_drew)); exact HO_3.out⟩, ⟨by repeat (first | (with_reducible first | exact HB.out | apply below_alloc | apply pw_below_drewN | apply below_drew1) | exact HB.out)⟩⟩
                                          · replace c40 := Bool.eq_false_iff.mpr c40
                                            subst c40
                                            have H1 : (some false) = some r := by rw [if_neg (show ¬ (false = true) by decide)] at H; exact H
                                            clear H
                                            have H := H1
                                            clear H1
                                            obtain rfl := Option.some.inj H
                                            have p21 : 0 ≤ (x6_4 : Int) := of_decide_eq_true (by first | (with_reducible assumption) | assumption)
                                            have q21 : x6_4 < (a0.size : Int) := of_decide_eq_true (by first | (with_reducible assumption) | assumption)
                                            have hx21 := bt_at a0 x6_4
                                            replace p21 := eq_true p21
                                            replace q21 := eq_true q21
                                            have p27 : 0 ≤ (x6_4 : Int) := of_decide_eq_true (by first | (with_reducible assumption) | assumption)
                                            have q27 : x6_4 < (a0.size : Int) := of_decide_eq_true (by first | (with_reducible assumption) | assumption)
                                            have hx27 := bt_at a0 x6_4
                                            replace p27 := eq_true p27
                                            replace q27 := eq_true q27
                                            have p38 : 0 ≤ (x6_4 : Int) := of_decide_eq_true (by first | (with_reducible assumption) | assumption)
                                            have q38 : x6_4 < (a0.size : Int) := of_decide_eq_true (by first | (with_reducible assumption) | assumption)
                                            have hx38 := bt_at a0 x6_4
                                            replace p38 := eq_true p38
                                            replace q38 := eq_true q38
                                            go_wp2_with (first | (go_at_call 25; (with_reducible refine (sizarref09_Space.calls (bt a0 x6_4) false _ A39.out).mono ?_); rintro e w' ⟨rfl, ⟨nd, rfl⟩⟩))
                                            go_ret
                                            exact ⟨by first | rfl | (simp [errW_none, errW_some] <;> rfl) | (simp [*, errW_none, errW_some] <;> rfl), by repeat (first | (with_reducible first | exact HB.out | apply below_alloc | apply pw_below_drewN | apply below_drew1) | exact HB.out)⟩
                                      · rw [if_neg c28] at H
                                        have c28b0 : ((bt a0 x6_4) == 47) = false := beq_eq_false_iff_ne.mpr c28
                                        have c28b1 : ((bt a0 x6_4) != 47) = true := bne_iff_ne.mpr c28
                                        replace H := Option.bind_eq_some_iff.mp H
                                        obtain ⟨t256, A420, H⟩ := H
                                        replace H : (if t256 = true then (sizarlaw09_LexPlaces.l1 k4 a0 t247 (wrap64 (x6_4 + 1)) x7_1 x8_10 false) else (some false)) = some r := H
                                        have A42 := Aside0.mk A420
                                        clear A420
                                        by_cases c43 : t256 = true
                                        · subst c43
                                          have H1 : (sizarlaw09_LexPlaces.l1 k4 a0 t247 (wrap64 (x6_4 + 1)) x7_1 x8_10 false) = some r := by rw [if_pos rfl] at H; exact H
                                          clear H
                                          have H := H1
                                          clear H1
                                          have H' := Aside0.mk H
                                          clear H
                                          have p21 : 0 ≤ (x6_4 : Int) := of_decide_eq_true (by first | (with_reducible assumption) | assumption)
                                          have q21 : x6_4 < (a0.size : Int) := of_decide_eq_true (by first | (with_reducible assumption) | assumption)
                                          have hx21 := bt_at a0 x6_4
                                          replace p21 := eq_true p21
                                          replace q21 := eq_true q21
                                          have p27 : 0 ≤ (x6_4 : Int) := of_decide_eq_true (by first | (with_reducible assumption) | assumption)
                                          have q27 : x6_4 < (a0.size : Int) := of_decide_eq_true (by first | (with_reducible assumption) | assumption)
                                          have hx27 := bt_at a0 x6_4
                                          replace p27 := eq_true p27
                                          replace q27 := eq_true q27
                                          have p41 : 0 ≤ (x6_4 : Int) := of_decide_eq_true (by first | (with_reducible assumption) | assumption)
                                          have q41 : x6_4 < (a0.size : Int) := of_decide_eq_true (by first | (with_reducible assumption) | assumption)
                                          have hx41 := bt_at a0 x6_4
                                          replace p41 := eq_true p41
                                          replace q41 := eq_true q41
                                          go_wp2_with (first | (go_at_call 25; (with_reducible refine (sizarref09_Space.calls (bt a0 x6_4) true _ A42.out).mono ?_); rintro e w' ⟨rfl, ⟨nd, rfl⟩⟩))
                                          go_roundg k4
                                          case measure => have := HK1.out; have := HJ10.out; have := HJ14.out; have := HK4.out; omega
                                          case rel => exact ⟨(wrap64 (x6_4 + 1)), (false), (by first | rfl | (simp; done) | (simp [*]; done)), (by first | rfl | (simp; done) | (simp [*]; done)), H', ⟨by have := HK1.out; have := HJ10.out; have := HJ14.out; have := HK4.out; omega⟩, ⟨by (with_reducible repeat (first | apply Kd.R_alloc | apply Kd.R_drewN | apply Kd.R_drew)); exact HO_3.out⟩, ⟨by repeat (first | (with_reducible first | exact HB.out | apply below_alloc | apply pw_below_drewN | apply below_drew1) | exact HB.out)⟩⟩
                                        · replace c43 := Bool.eq_false_iff.mpr c43
                                          subst c43
                                          have H1 : (some false) = some r := by rw [if_neg (show ¬ (false = true) by decide)] at H; exact H
                                          clear H
                                          have H := H1
                                          clear H1
                                          obtain rfl := Option.some.inj H
                                          have p21 : 0 ≤ (x6_4 : Int) := of_decide_eq_true (by first | (with_reducible assumption) | assumption)
                                          have q21 : x6_4 < (a0.size : Int) := of_decide_eq_true (by first | (with_reducible assumption) | assumption)
                                          have hx21 := bt_at a0 x6_4
                                          replace p21 := eq_true p21
                                          replace q21 := eq_true q21
                                          have p27 : 0 ≤ (x6_4 : Int) := of_decide_eq_true (by first | (with_reducible assumption) | assumption)
                                          have q27 : x6_4 < (a0.size : Int) := of_decide_eq_true (by first | (with_reducible assumption) | assumption)
                                          have hx27 := bt_at a0 x6_4
                                          replace p27 := eq_true p27
                                          replace q27 := eq_true q27
                                          have p41 : 0 ≤ (x6_4 : Int) := of_decide_eq_true (by first | (with_reducible assumption) | assumption)
                                          have q41 : x6_4 < (a0.size : Int) := of_decide_eq_true (by first | (with_reducible assumption) | assumption)
                                          have hx41 := bt_at a0 x6_4
                                          replace p41 := eq_true p41
                                          replace q41 := eq_true q41
                                          go_wp2_with (first | (go_at_call 25; (with_reducible refine (sizarref09_Space.calls (bt a0 x6_4) false _ A42.out).mono ?_); rintro e w' ⟨rfl, ⟨nd, rfl⟩⟩))
                                          go_ret
                                          exact ⟨by first | rfl | (simp [errW_none, errW_some] <;> rfl) | (simp [*, errW_none, errW_some] <;> rfl), by repeat (first | (with_reducible first | exact HB.out | apply below_alloc | apply pw_below_drewN | apply below_drew1) | exact HB.out)⟩
                                · rw [if_neg c20] at H
                                  exact absurd H (by simp)
                              · rw [if_neg c19] at H
                                exact absurd H (by simp)
                            · rw [if_neg c18] at H
                              have c18b0 : decide (x6_4 < x8_10) = false := decide_eq_false c18
                              clear c18
                              by_cases c44 : x7_1 = (t247.length : Int)
                              · rw [if_pos c44] at H
                                have c44b0 : (x7_1 == (t247.length : Int)) = true := beq_iff_eq.mpr c44
                                have c44b1 : (x7_1 != (t247.length : Int)) = false := bne_eq_false_iff_eq.mpr c44
                                clear c44
                                obtain rfl := Option.some.inj H
                                go_wp2
                                go_ret
                                exact ⟨by first | rfl | (simp [errW_none, errW_some] <;> rfl) | (simp [*, errW_none, errW_some] <;> rfl), by repeat (first | (with_reducible first | exact HB.out | apply below_alloc | apply pw_below_drewN | apply below_drew1) | exact HB.out)⟩
                              · rw [if_neg c44] at H
                                have c44b0 : (x7_1 == (t247.length : Int)) = false := beq_eq_false_iff_ne.mpr c44
                                have c44b1 : (x7_1 != (t247.length : Int)) = true := bne_iff_ne.mpr c44
                                by_cases c45 : 0 ≤ x7_1
                                · rw [if_pos c45] at H
                                  have c45b0 : decide (0 ≤ x7_1) = true := decide_eq_true c45
                                  clear c45
                                  by_cases c46 : x7_1 < (t247.length : Int)
                                  · rw [if_pos c46] at H
                                    have c46b0 : decide (x7_1 < (t247.length : Int)) = true := decide_eq_true c46
                                    clear c46
                                    replace H := Option.bind_eq_some_iff.mp H
                                    obtain ⟨t258, A470, H⟩ := H
                                    replace H : (if x9_4 = true then (some false) else (if (t258.size : Int) = 0 then (some false) else (if (wrap64 (x6_4 + (t258.size : Int))) > (a0.size : Int) then (some false) else (if 0 ≤ x6_4 then (if x6_4 ≤ (wrap64 (x6_4 + (t258.size : Int))) then (if (wrap64 (x6_4 + (t258.size : Int))) ≤ (a0.size : Int) then (if (a0.extract (x6_4 : Int).toNat ((wrap64 (x6_4 + (t258.size : Int))) : Int).toNat).toList = t258.toList then (sizarlaw09_LexPlaces.l0 k4 a0 t247 (wrap64 (x6_4 + (t258.size : Int))) (wrap64 (x7_1 + 1))) else (some false)) else (none)) else (none)) else (none))))) = some r := H
                                    have A47 := Aside0.mk A470
                                    clear A470
                                    by_cases c48 : x9_4 = true
                                    · subst c48
                                      have H1 : (some false) = some r := by rw [if_pos rfl] at H; exact H
                                      clear H
                                      have H := H1
                                      clear H1
                                      obtain rfl := Option.some.inj H
                                      have p257 : 0 ≤ (x7_1 : Int) := of_decide_eq_true (by first | (with_reducible assumption) | assumption)
                                      have q257 : x7_1 < (t247.length : Int) := of_decide_eq_true (by first | (with_reducible assumption) | assumption)
                                      obtain ⟨ad257, e257, hx257_0, hx257_1, hx257_2, hx257_3⟩ := at_T35 (Kd.R_reads' HO_3.out).2.2 x7_1 p257 q257
                                      cases e257
                                      replace p257 := eq_true p257
                                      replace q257 := eq_true q257
                                      go_wp2_with (first | ((with_reducible refine gate_callee (f := 26) rfl ?_); refine goesL_ (some 101) rfl rfl Tryd.func26 (by kernel_rfl) rfl #[.agg #[.int .i64 ((rd_T35 t247 x7_1).f0), .string ((rd_T35 t247 x7_1).f1), .int .i64 ((rd_T35 t247 x7_1).f2), .int .i64 ((rd_T35 t247 x7_1).f3)]] rfl (by (try simp only [List.map_toArray, List.map_cons, List.map_nil]); first | done | rfl | (simp only [List.length_drop, List.length_take]; rfl)) ?_; (with_reducible refine (sizarlaw09_spelled.calls k4 ((rd_T35 t247 x7_1).f0) ((rd_T35 t247 x7_1).f1) ((rd_T35 t247 x7_1).f2) ((rd_T35 t247 x7_1).f3) t258 _ A47.out).mono ?_); rintro e w49 ⟨rfl, hb⟩; refine ⟨_, rfl, ?_⟩; have n0_ := Aside0.mk (Kd.R_below (by (with_reducible repeat (first | apply Kd.R_alloc | apply Kd.R_drewN | apply Kd.R_drew)); exact HO_3.out) hb); have n1_ := Aside0.mk (below_step (by repeat (first | (with_reducible first | exact HB.out | apply below_alloc | apply pw_below_drewN | apply below_drew1) | exact HB.out)) hb); clear HO_3; clear HB; have HO_3 := n0_; have HB := n1_; clear n0_ n1_; (try clear hb); (try clear hb2); (try clear hk); (try clear hi)))
                                      go_ret
                                      exact ⟨by first | rfl | (simp [errW_none, errW_some] <;> rfl) | (simp [*, errW_none, errW_some] <;> rfl), by repeat (first | (with_reducible first | exact HB.out | apply below_alloc | apply pw_below_drewN | apply below_drew1) | exact HB.out)⟩
                                    · replace c48 := Bool.eq_false_iff.mpr c48
                                      subst c48
                                      have H1 : (if (t258.size : Int) = 0 then (some false) else (if (wrap64 (x6_4 + (t258.size : Int))) > (a0.size : Int) then (some false) else (if 0 ≤ x6_4 then (if x6_4 ≤ (wrap64 (x6_4 + (t258.size : Int))) then (if (wrap64 (x6_4 + (t258.size : Int))) ≤ (a0.size : Int) then (if (a0.extract (x6_4 : Int).toNat ((wrap64 (x6_4 + (t258.size : Int))) : Int).toNat).toList = t258.toList then (sizarlaw09_LexPlaces.l0 k4 a0 t247 (wrap64 (x6_4 + (t258.size : Int))) (wrap64 (x7_1 + 1))) else (some false)) else (none)) else (none)) else (none)))) = some r := by rw [if_neg (show ¬ (false = true) by decide)] at H; exact H
                                      clear H
                                      have H := H1
                                      clear H1
                                      by_cases c50 : (t258.size : Int) = 0
                                      · rw [if_pos c50] at H
                                        have c50b0 : ((t258.size : Int) == 0) = true := beq_iff_eq.mpr c50
                                        have c50b1 : ((t258.size : Int) != 0) = false := bne_eq_false_iff_eq.mpr c50
                                        clear c50
                                        obtain rfl := Option.some.inj H
                                        have p257 : 0 ≤ (x7_1 : Int) := of_decide_eq_true (by first | (with_reducible assumption) | assumption)
                                        have q257 : x7_1 < (t247.length : Int) := of_decide_eq_true (by first | (with_reducible assumption) | assumption)
                                        obtain ⟨ad257, e257, hx257_0, hx257_1, hx257_2, hx257_3⟩ := at_T35 (Kd.R_reads' HO_3.out).2.2 x7_1 p257 q257
                                        cases e257
                                        replace p257 := eq_true p257
                                        replace q257 := eq_true q257
                                        go_wp2_with (first | ((with_reducible refine gate_callee (f := 26) rfl ?_); refine goesL_ (some 101) rfl rfl Tryd.func26 (by kernel_rfl) rfl #[.agg #[.int .i64 ((rd_T35 t247 x7_1).f0), .string ((rd_T35 t247 x7_1).f1), .int .i64 ((rd_T35 t247 x7_1).f2), .int .i64 ((rd_T35 t247 x7_1).f3)]] rfl (by (try simp only [List.map_toArray, List.map_cons, List.map_nil]); first | done | rfl | (simp only [List.length_drop, List.length_take]; rfl)) ?_; (with_reducible refine (sizarlaw09_spelled.calls k4 ((rd_T35 t247 x7_1).f0) ((rd_T35 t247 x7_1).f1) ((rd_T35 t247 x7_1).f2) ((rd_T35 t247 x7_1).f3) t258 _ A47.out).mono ?_); rintro e w51 ⟨rfl, hb⟩; refine ⟨_, rfl, ?_⟩; have n0_ := Aside0.mk (Kd.R_below (by (with_reducible repeat (first | apply Kd.R_alloc | apply Kd.R_drewN | apply Kd.R_drew)); exact HO_3.out) hb); have n1_ := Aside0.mk (below_step (by repeat (first | (with_reducible first | exact HB.out | apply below_alloc | apply pw_below_drewN | apply below_drew1) | exact HB.out)) hb); clear HO_3; clear HB; have HO_3 := n0_; have HB := n1_; clear n0_ n1_; (try clear hb); (try clear hb2); (try clear hk); (try clear hi)))
                                        go_ret
                                        exact ⟨by first | rfl | (simp [errW_none, errW_some] <;> rfl) | (simp [*, errW_none, errW_some] <;> rfl), by repeat (first | (with_reducible first | exact HB.out | apply below_alloc | apply pw_below_drewN | apply below_drew1) | exact HB.out)⟩
                                      · rw [if_neg c50] at H
                                        have c50b0 : ((t258.size : Int) == 0) = false := beq_eq_false_iff_ne.mpr c50
                                        have c50b1 : ((t258.size : Int) != 0) = true := bne_iff_ne.mpr c50
                                        by_cases c52 : (wrap64 (x6_4 + (t258.size : Int))) > (a0.size : Int)
                                        · rw [if_pos c52] at H
                                          have c52b0 : decide ((a0.size : Int) < (wrap64 (x6_4 + (t258.size : Int)))) = true := decide_eq_true c52
                                          clear c52
                                          obtain rfl := Option.some.inj H
                                          have p257 : 0 ≤ (x7_1 : Int) := of_decide_eq_true (by first | (with_reducible assumption) | assumption)
                                          have q257 : x7_1 < (t247.length : Int) := of_decide_eq_true (by first | (with_reducible assumption) | assumption)
                                          obtain ⟨ad257, e257, hx257_0, hx257_1, hx257_2, hx257_3⟩ := at_T35 (Kd.R_reads' HO_3.out).2.2 x7_1 p257 q257
                                          cases e257
                                          replace p257 := eq_true p257
                                          replace q257 := eq_true q257
                                          go_wp2_with (first | ((with_reducible refine gate_callee (f := 26) rfl ?_); refine goesL_ (some 101) rfl rfl Tryd.func26 (by kernel_rfl) rfl #[.agg #[.int .i64 ((rd_T35 t247 x7_1).f0), .string ((rd_T35 t247 x7_1).f1), .int .i64 ((rd_T35 t247 x7_1).f2), .int .i64 ((rd_T35 t247 x7_1).f3)]] rfl (by (try simp only [List.map_toArray, List.map_cons, List.map_nil]); first | done | rfl | (simp only [List.length_drop, List.length_take]; rfl)) ?_; (with_reducible refine (sizarlaw09_spelled.calls k4 ((rd_T35 t247 x7_1).f0) ((rd_T35 t247 x7_1).f1) ((rd_T35 t247 x7_1).f2) ((rd_T35 t247 x7_1).f3) t258 _ A47.out).mono ?_); rintro e w53 ⟨rfl, hb⟩; refine ⟨_, rfl, ?_⟩; have n0_ := Aside0.mk (Kd.R_below (by (with_reducible repeat (first | apply Kd.R_alloc | apply Kd.R_drewN | apply Kd.R_drew)); exact HO_3.out) hb); have n1_ := Aside0.mk (below_step (by repeat (first | (with_reducible first | exact HB.out | apply below_alloc | apply pw_below_drewN | apply below_drew1) | exact HB.out)) hb); clear HO_3; clear HB; have HO_3 := n0_; have HB := n1_; clear n0_ n1_; (try clear hb); (try clear hb2); (try clear hk); (try clear hi)))
                                          go_ret
                                          exact ⟨by first | rfl | (simp [errW_none, errW_some] <;> rfl) | (simp [*, errW_none, errW_some] <;> rfl), by repeat (first | (with_reducible first | exact HB.out | apply below_alloc | apply pw_below_drewN | apply below_drew1) | exact HB.out)⟩
                                        · rw [if_neg c52] at H
                                          have c52b0 : decide ((a0.size : Int) < (wrap64 (x6_4 + (t258.size : Int)))) = false := decide_eq_false c52
                                          clear c52
                                          by_cases c54 : 0 ≤ x6_4
                                          · rw [if_pos c54] at H
                                            have c54b0 := eq_true c54
                                            have c54b1 : decide (0 ≤ x6_4) = true := decide_eq_true c54
                                            clear c54
                                            by_cases c55 : x6_4 ≤ (wrap64 (x6_4 + (t258.size : Int)))
                                            · rw [if_pos c55] at H
                                              have c55b0 := eq_true c55
                                              have c55b1 : decide (x6_4 ≤ (wrap64 (x6_4 + (t258.size : Int)))) = true := decide_eq_true c55
                                              by_cases c56 : (wrap64 (x6_4 + (t258.size : Int))) ≤ (a0.size : Int)
                                              · rw [if_pos c56] at H
                                                have c56b0 := eq_true c56
                                                have c56b1 : decide ((wrap64 (x6_4 + (t258.size : Int))) ≤ (a0.size : Int)) = true := decide_eq_true c56
                                                by_cases c57 : (a0.extract (x6_4 : Int).toNat ((wrap64 (x6_4 + (t258.size : Int))) : Int).toNat).toList = t258.toList
                                                · rw [if_pos c57] at H
                                                  have c57b0 : ((a0.extract (x6_4 : Int).toNat ((wrap64 (x6_4 + (t258.size : Int))) : Int).toNat).toList == t258.toList) = true := beq_iff_eq.mpr c57
                                                  have c57b1 : ((a0.extract (x6_4 : Int).toNat ((wrap64 (x6_4 + (t258.size : Int))) : Int).toNat).toList != t258.toList) = false := bne_eq_false_iff_eq.mpr c57
                                                  clear c57
                                                  have H' := Aside0.mk H
                                                  clear H
                                                  have p257 : 0 ≤ (x7_1 : Int) := of_decide_eq_true (by first | (with_reducible assumption) | assumption)
                                                  have q257 : x7_1 < (t247.length : Int) := of_decide_eq_true (by first | (with_reducible assumption) | assumption)
                                                  obtain ⟨ad257, e257, hx257_0, hx257_1, hx257_2, hx257_3⟩ := at_T35 (Kd.R_reads' HO_3.out).2.2 x7_1 p257 q257
                                                  cases e257
                                                  replace p257 := eq_true p257
                                                  replace q257 := eq_true q257
                                                  go_wp2_with (first | ((with_reducible refine gate_callee (f := 26) rfl ?_); refine goesL_ (some 101) rfl rfl Tryd.func26 (by kernel_rfl) rfl #[.agg #[.int .i64 ((rd_T35 t247 x7_1).f0), .string ((rd_T35 t247 x7_1).f1), .int .i64 ((rd_T35 t247 x7_1).f2), .int .i64 ((rd_T35 t247 x7_1).f3)]] rfl (by (try simp only [List.map_toArray, List.map_cons, List.map_nil]); first | done | rfl | (simp only [List.length_drop, List.length_take]; rfl)) ?_; (with_reducible refine (sizarlaw09_spelled.calls k4 ((rd_T35 t247 x7_1).f0) ((rd_T35 t247 x7_1).f1) ((rd_T35 t247 x7_1).f2) ((rd_T35 t247 x7_1).f3) t258 _ A47.out).mono ?_); rintro e w58 ⟨rfl, hb⟩; refine ⟨_, rfl, ?_⟩; have n0_ := Aside0.mk (Kd.R_below (by (with_reducible repeat (first | apply Kd.R_alloc | apply Kd.R_drewN | apply Kd.R_drew)); exact HO_3.out) hb); have n1_ := Aside0.mk (below_step (by repeat (first | (with_reducible first | exact HB.out | apply below_alloc | apply pw_below_drewN | apply below_drew1) | exact HB.out)) hb); clear HO_3; clear HB; have HO_3 := n0_; have HB := n1_; clear n0_ n1_; (try clear hb); (try clear hb2); (try clear hk); (try clear hi)))
                                                  go_roundg k4
                                                  case measure => have := HK1.out; have := HJ10.out; have := HJ14.out; have := HK4.out; omega
                                                  case rel => exact ⟨(wrap64 (x6_4 + (t258.size : Int))), (wrap64 (x7_1 + 1)), (by first | rfl | (simp; done) | (simp [*]; done)), (by first | rfl | (simp; done) | (simp [*]; done)), H', ⟨by have := HK1.out; have := HJ10.out; have := HJ14.out; have := HK4.out; omega⟩, ⟨by (with_reducible repeat (first | apply Kd.R_alloc | apply Kd.R_drewN | apply Kd.R_drew)); exact HO_3.out⟩, ⟨by repeat (first | (with_reducible first | exact HB.out | apply below_alloc | apply pw_below_drewN | apply below_drew1) | exact HB.out)⟩⟩
                                                · rw [if_neg c57] at H
                                                  have c57b0 : ((a0.extract (x6_4 : Int).toNat ((wrap64 (x6_4 + (t258.size : Int))) : Int).toNat).toList == t258.toList) = false := beq_eq_false_iff_ne.mpr c57
                                                  have c57b1 : ((a0.extract (x6_4 : Int).toNat ((wrap64 (x6_4 + (t258.size : Int))) : Int).toNat).toList != t258.toList) = true := bne_iff_ne.mpr c57
                                                  obtain rfl := Option.some.inj H
                                                  have p257 : 0 ≤ (x7_1 : Int) := of_decide_eq_true (by first | (with_reducible assumption) | assumption)
                                                  have q257 : x7_1 < (t247.length : Int) := of_decide_eq_true (by first | (with_reducible assumption) | assumption)
                                                  obtain ⟨ad257, e257, hx257_0, hx257_1, hx257_2, hx257_3⟩ := at_T35 (Kd.R_reads' HO_3.out).2.2 x7_1 p257 q257
                                                  cases e257
                                                  replace p257 := eq_true p257
                                                  replace q257 := eq_true q257
                                                  go_wp2_with (first | ((with_reducible refine gate_callee (f := 26) rfl ?_); refine goesL_ (some 101) rfl rfl Tryd.func26 (by kernel_rfl) rfl #[.agg #[.int .i64 ((rd_T35 t247 x7_1).f0), .string ((rd_T35 t247 x7_1).f1), .int .i64 ((rd_T35 t247 x7_1).f2), .int .i64 ((rd_T35 t247 x7_1).f3)]] rfl (by (try simp only [List.map_toArray, List.map_cons, List.map_nil]); first | done | rfl | (simp only [List.length_drop, List.length_take]; rfl)) ?_; (with_reducible refine (sizarlaw09_spelled.calls k4 ((rd_T35 t247 x7_1).f0) ((rd_T35 t247 x7_1).f1) ((rd_T35 t247 x7_1).f2) ((rd_T35 t247 x7_1).f3) t258 _ A47.out).mono ?_); rintro e w59 ⟨rfl, hb⟩; refine ⟨_, rfl, ?_⟩; have n0_ := Aside0.mk (Kd.R_below (by (with_reducible repeat (first | apply Kd.R_alloc | apply Kd.R_drewN | apply Kd.R_drew)); exact HO_3.out) hb); have n1_ := Aside0.mk (below_step (by repeat (first | (with_reducible first | exact HB.out | apply below_alloc | apply pw_below_drewN | apply below_drew1) | exact HB.out)) hb); clear HO_3; clear HB; have HO_3 := n0_; have HB := n1_; clear n0_ n1_; (try clear hb); (try clear hb2); (try clear hk); (try clear hi)))
                                                  go_ret
                                                  exact ⟨by first | rfl | (simp [errW_none, errW_some] <;> rfl) | (simp [*, errW_none, errW_some] <;> rfl), by repeat (first | (with_reducible first | exact HB.out | apply below_alloc | apply pw_below_drewN | apply below_drew1) | exact HB.out)⟩
                                              · rw [if_neg c56] at H
                                                exact absurd H (by simp)
                                            · rw [if_neg c55] at H
                                              exact absurd H (by simp)
                                          · rw [if_neg c54] at H
                                            exact absurd H (by simp)
                                  · rw [if_neg c46] at H
                                    exact absurd H (by simp)
                                · rw [if_neg c45] at H
                                  exact absurd H (by simp)
            · rw [if_neg c10] at H
              have c10b0 : decide (x7_1 ≤ (t247.length : Int)) = false := decide_eq_false c10
              clear c10
              obtain rfl := Option.some.inj H
              obtain ⟨Ao60, co60, eo60⟩ := Kd.R_slice HO_3.out
              subst eo60
              go_wp2
              go_ret
              exact ⟨by first | rfl | (simp [errW_none, errW_some] <;> rfl) | (simp [*, errW_none, errW_some] <;> rfl), by repeat (first | (with_reducible first | exact HB.out | apply below_alloc | apply pw_below_drewN | apply below_drew1) | exact HB.out)⟩
      · rw [if_neg c7] at H
        have c7b0 : (t249 == 0) = false := beq_eq_false_iff_ne.mpr c7
        have c7b1 : (t249 != 0) = true := bne_iff_ne.mpr c7
        obtain rfl := Option.some.inj H
        go_enter Tryd.func6, Tryd.ntmps6
        go_wp2_with (first | ((with_reducible refine gate_callee (f := 14) rfl ?_); refine goesL_ (some 11) rfl rfl Tryd.func14 (by kernel_rfl) rfl #[] rfl (by (try simp only [List.map_toArray, List.map_cons, List.map_nil]); first | done | rfl | (simp only [List.length_drop, List.length_take]; rfl)) ?_; (with_reducible refine (sizarlaw09_sane.calls k  true _ ?side1 A2.out).mono ?_); (case side1 => exact Laid.below hL (by repeat (first | (with_reducible first | exact HB.out | apply below_alloc | apply pw_below_drewN | apply below_drew1) | exact HB.out))); rintro e w61 ⟨rfl, hb⟩; refine ⟨_, rfl, ?_⟩; have n0_ := Aside0.mk (below_step (by repeat (first | (with_reducible first | exact HB.out | apply below_alloc | apply pw_below_drewN | apply below_drew1) | exact HB.out)) hb); clear HB; have HB := n0_; clear n0_; (try clear hb); (try clear hb2); (try clear hk); (try clear hi)) | ((with_reducible refine gate_callee (f := 15) rfl ?_); refine goesL_ (some 18) rfl rfl Tryd.func15 (by kernel_rfl) rfl #[.string a0] rfl (by (try simp only [List.map_toArray, List.map_cons, List.map_nil]); first | done | rfl | (simp only [List.length_drop, List.length_take]; rfl)) ?_; (with_reducible refine (lex_Lex.calls a0 t247 t248 t249 _ ?side1 A6.out).mono ?_); (case side1 => exact Laid.below hL (by repeat (first | (with_reducible first | exact HB.out | apply below_alloc | apply pw_below_drewN | apply below_drew1) | exact HB.out))); rintro e w62 ⟨v250, rfl, ho0, hb⟩; refine ⟨_, rfl, ?_⟩; have n0_ := Aside0.mk (Kd.R_lower ho0 (below_size (by repeat (first | (with_reducible first | exact HB.out | apply below_alloc | apply pw_below_drewN | apply below_drew1) | exact HB.out)))); have n1_ := Aside0.mk (below_step (by repeat (first | (with_reducible first | exact HB.out | apply below_alloc | apply pw_below_drewN | apply below_drew1) | exact HB.out)) hb); clear HB; have HO251 := n0_; have HB := n1_; clear n0_ n1_; (try clear hb); (try clear hb2); (try clear hk); (try clear hi); (try clear ho0); obtain ⟨Ao63, co63, eo63⟩ := Kd.R_slice HO251.out; subst eo63))
        go_ret
        exact ⟨by first | rfl | (simp [errW_none, errW_some] <;> rfl) | (simp [*, errW_none, errW_some] <;> rfl), by repeat (first | (with_reducible first | exact HB.out | apply below_alloc | apply pw_below_drewN | apply below_drew1) | exact HB.out)⟩
  · replace c3 := Bool.eq_false_iff.mpr c3
    subst c3
    have H1 : (some false) = some r := by rw [if_neg (show ¬ (false = true) by decide)] at H; exact H
    clear H
    have H := H1
    clear H1
    obtain rfl := Option.some.inj H
    go_enter Tryd.func6, Tryd.ntmps6
    go_wp2_with (first | ((with_reducible refine gate_callee (f := 14) rfl ?_); refine goesL_ (some 11) rfl rfl Tryd.func14 (by kernel_rfl) rfl #[] rfl (by (try simp only [List.map_toArray, List.map_cons, List.map_nil]); first | done | rfl | (simp only [List.length_drop, List.length_take]; rfl)) ?_; (with_reducible refine (sizarlaw09_sane.calls k  false _ ?side1 A2.out).mono ?_); (case side1 => exact Laid.below hL (by repeat (first | (with_reducible first | exact HB.out | apply below_alloc | apply pw_below_drewN | apply below_drew1) | exact HB.out))); rintro e w64 ⟨rfl, hb⟩; refine ⟨_, rfl, ?_⟩; have n0_ := Aside0.mk (below_step (by repeat (first | (with_reducible first | exact HB.out | apply below_alloc | apply pw_below_drewN | apply below_drew1) | exact HB.out)) hb); clear HB; have HB := n0_; clear n0_; (try clear hb); (try clear hb2); (try clear hk); (try clear hi)))
    go_ret
    exact ⟨by first | rfl | (simp [errW_none, errW_some] <;> rfl) | (simp [*, errW_none, errW_some] <;> rfl), by repeat (first | (with_reducible first | exact HB.out | apply below_alloc | apply pw_below_drewN | apply below_drew1) | exact HB.out)⟩

/-- THE ONE PURE STATEMENT of sizarlaw09_LexPlaces: yours. -/
def sizarlaw09_LexPlaces.Pure : Prop := ∀ (a0 : ByteArray), a0.size ≤ 140737488351232 → ∃ k, sizarlaw09_LexPlaces.f k a0 = some true
theorem sizarlaw09_LexPlaces.walk (P : sizarlaw09_LexPlaces.Pure) (a0 : ByteArray) (w : World) (w0 : a0.size ≤ 140737488351232) (hL : Laid w) :
    Calls Tryd.prog 6 #[.string a0] w fun e w' => e = .returned (.bool true) ∧ Below w.heap.size w w' := by
  obtain ⟨k, h⟩ := P a0 w0
  refine (sizarlaw09_LexPlaces.calls k a0 true w hL h).mono ?_
  rintro e w' ⟨rfl, hd⟩
  exact ⟨rfl, hd⟩

end Go.Proofs.YtomglbjcfcijkaaDoor.PLx

namespace Go.Proofs.YtomglbjcfcijkaaDoor.PLx
open Go.RowKit Go.Proofs.YtomglbjcfcijkaaDoorW.PrintWords Go.Proofs.YtomglbjcfcijkaaDoorW.PrintLast Go.Proofs.YtomglbjcfcijkaaDoorW.PrintMore
theorem sane_40 : sizarlaw09_sane.f 40 = some true := by decide +kernel
theorem sane_all (k : Nat) (h : 40 ≤ k) : sizarlaw09_sane.f k = some true := more_rounds sizarlaw09_sane.mono sane_40 h
end Go.Proofs.YtomglbjcfcijkaaDoor.PLx

namespace Go.Proofs.YtomglbjcfcijkaaDoor.PLx
open Go.RowKit Go.Proofs.YtomglbjcfcijkaaDoorW.PrintWords Go.Proofs.YtomglbjcfcijkaaDoorW.PrintLast Go.Proofs.YtomglbjcfcijkaaDoorW.PrintMore

theorem space_ref (c : UInt8) : sizarref09_Space.f (c.toNat : Int) = some (decide (kl c = 1)) := by
  have : ∀ n : Nat, n < 256 → sizarref09_Space.f (n : Int) = some (decide (cls (n : Int) = 1)) := by decide +kernel
  exact this c.toNat c.toNat_lt
theorem bt_ten (c : UInt8) (x : UInt8) : ((c.toNat : Int) = (x.toNat : Int)) ↔ c = x := by
  constructor
  · intro h; exact UInt8.toNat_inj.1 (by omega)
  · rintro rfl; rfl
/-- The gap: the inner loop. -/
theorem gap_loop (src : ByteArray) (hs : src.size ≤ 3000) (l : List Tok) (x7 : Int) (tt : Nat) (hto : tt ≤ src.size) : ∀ (d i K : Nat) (fl f : Bool), i + d = tt → scanG fl ((src.data.toList.drop i).take d) = some f → d < K →
    sizarlaw09_LexPlaces.l1 K src l (i : Int) x7 (tt : Int) fl = sizarlaw09_LexPlaces.l1 (K - d) src l (tt : Int) x7 (tt : Int) f
  | 0, i, K, fl, f, hi, h, hK => by
    rw [List.take_zero] at h
    injection h with h
    subst h
    have : i = tt := by omega
    subst this
    rfl
  | d + 1, i, K, fl, f, hi, h, hK => by
    obtain ⟨K, rfl⟩ : ∃ m, K = m + 1 := ⟨K - 1, by omega⟩
    have hlt : i < src.size := by omega
    have hw : wrap64 ((i : Int) + 1) = ((i + 1 : Nat) : Int) := by unfold wrap64; omega
    rw [data_drop src i hlt, List.take_succ_cons, scanG] at h
    have ih := fun fl f h => gap_loop src hs l x7 tt hto d (i + 1) K fl f (by omega) h (by omega)
    have e1 : K + 1 - (d + 1) = K - d := by omega
    have hb : bt src (i : Int) = (src[i].toNat : Int) := bt_nat src i hlt
    have h10 : ((src[i].toNat : Int) = 10) ↔ src[i] = 10 := bt_ten src[i] 10
    have h47 : ((src[i].toNat : Int) = 47) ↔ src[i] = 47 := bt_ten src[i] 47
    rw [e1]
    have c1 : (i : Int) < (tt : Int) := by omega
    have c2 : (0 : Int) ≤ (i : Int) := by omega
    have c3 : (i : Int) < (src.size : Int) := by omega
    simp only [sizarlaw09_LexPlaces.l1, if_pos c1, if_pos c2, if_pos c3, hb, hw, space_ref, Option.bind_some]
    by_cases a10 : src[i] = 10
    · have k1 : kl src[i] = 1 := by rw [a10]; decide
      rw [if_pos (h10.2 a10)]
      rw [if_neg (by rw [a10]; simp), if_pos k1] at h
      rw [if_pos (decide_eq_true k1)]
      exact ih _ _ h
    · have n10 : (src[i] != 10) = true := by rw [bne_iff_ne]; exact a10
      rw [if_neg (fun hc => a10 (h10.1 hc))]
      rw [n10, Bool.true_and] at h
      cases fl with
      | true =>
        rw [if_pos rfl]
        rw [Bool.true_or, if_pos rfl] at h
        exact ih _ _ h
      | false =>
        rw [if_neg (by decide)]
        rw [Bool.false_or] at h
        by_cases a47 : src[i] = 47
        · rw [if_pos (h47.2 a47)]
          have k4 : ¬ kl src[i] = 1 := by rw [a47]; decide
          have b47 : (src[i] == 47) = true := by rw [beq_iff_eq]; exact a47
          rw [b47, Bool.true_and, if_neg k4] at h
          cases d with
          | zero =>
            rw [List.take_zero] at h
            simp at h
          | succ d =>
            have hlt2 : i + 1 < src.size := by omega
            rw [data_drop src (i + 1) hlt2, List.take_succ_cons, List.head?_cons] at h
            have hb2 : bt src ((i + 1 : Nat) : Int) = (src[i + 1].toNat : Int) := bt_nat src (i + 1) hlt2
            have h47' : ((src[i + 1].toNat : Int) = 47) ↔ src[i + 1] = 47 := bt_ten src[i + 1] 47
            by_cases a2 : src[i + 1] = 47
            · rw [if_pos (by omega), if_pos (by omega), if_pos (by omega), hb2, if_pos (h47'.2 a2)]
              rw [if_pos (by rw [a2]; rfl)] at h
              rw [beq_iff_eq.2 (h47'.2 a2)]
              refine ih true f ?_
              rw [data_drop src (i + 1) hlt2, List.take_succ_cons]; exact h
            · rw [if_neg (by simp [a2])] at h; cases h
        · have b47 : (src[i] == 47) = false := by rw [beq_eq_false_iff_ne]; exact a47
          rw [b47, Bool.false_and, if_neg (by decide)] at h
          rw [if_neg (fun hc => a47 (h47.1 hc))]
          split at h
          · rename_i k1
            rw [if_pos (decide_eq_true k1)]
            exact ih _ _ h
          · cases h

theorem spelled_loop : ∀ (m n K : Nat) (acc : ByteArray), n < 10 ^ (m + 1) → m < K → n ≤ 1099511627776 → acc.size + m ≤ 1000000 →
    sizarlaw09_spelled.l0 K acc (n : Int) = some (bs (Lib.decDigits n ++ acc.data.toList))
  | m, n, K, acc, hn, hK, hb, ha => by
    obtain ⟨K, rfl⟩ : ∃ k, K = k + 1 := ⟨K - 1, by omega⟩
    have hd : (wrap64 (48 + Int.tmod (n : Int) 10)) % 256 = ((48 + n % 10 : Nat) : Int) := by
      rw [Int.tmod_eq_emod_of_nonneg (by omega)]; unfold wrap64; omega
    have hw : wrap64 (Int.tdiv (n : Int) 10) = ((n / 10 : Nat) : Int) := by
      rw [Int.tdiv_eq_ediv_of_nonneg (by omega)]; unfold wrap64; omega
    have hstr : strOfNums [((48 + n % 10 : Nat) : Int)] = bs [UInt8.ofNat (48 + n % 10)] := rfl
    have hone : ∀ x : UInt8, (bs [x]).size = 1 := fun x => rfl
    have hcat : ∀ x : UInt8, bs [x] ++ acc = bs (x :: acc.data.toList) := by
      intro x
      apply ByteArray.ext
      simp [ByteArray.data_append, bs]
    simp only [sizarlaw09_spelled.l0, hd, hstr, Option.bind_some, hone, hw]
    rw [if_pos (by omega), hcat]
    by_cases h10 : n < 10
    · rw [if_pos (by omega), Lib.decDigits]
      rw [dif_pos h10, show n % 10 = n by omega]; rfl
    · rw [if_neg (by omega)]
      cases m with
      | zero => exact absurd hn (by simpa using h10)
      | succ m =>
        have hsz : (bs (UInt8.ofNat (48 + n % 10) :: acc.data.toList)).size = acc.size + 1 := by
          rw [← size_data, ← size_data]; rfl
        rw [spelled_loop m (n / 10) K _ (by rw [Nat.pow_succ] at hn; omega) (by omega) (by omega) (by omega)]
        rw [Lib.decDigits.eq_def n, dif_neg h10, List.append_assoc]; rfl
theorem wrap_succ (n : Nat) (h : n ≤ 3000) : wrap64 ((n : Int) + 1) = ((n + 1 : Nat) : Int) := by unfold wrap64; omega
theorem spelled_f (t : Tok) (hv : validT t = true) (K : Nat) (hK : 20 ≤ K) : sizarlaw09_spelled.f K t.f0 t.f1 t.f2 t.f3 = some (bs (spellT t)) := by
  obtain ⟨T0, T1, T2, T3⟩ := t
  unfold sizarlaw09_spelled.f spellT
  by_cases h2 : T0 = 2
  · subst h2
    have hb : 0 ≤ T2 ∧ T2 ≤ 1099511627776 := by
      unfold validT at hv
      simp only [show ¬ (2 : Int) = 1 by decide, if_false, if_true, Bool.and_eq_true, decide_eq_true_eq] at hv
      exact ⟨hv.1.2, hv.2⟩
    obtain ⟨n, rfl⟩ := Int.eq_ofNat_of_zero_le hb.1
    rw [if_pos rfl, if_pos rfl, spelled_loop 15 n K ⟨#[]⟩ (by omega) (by omega) (by omega) (by decide)]
    rw [List.append_nil]; rfl
  · rw [if_neg h2, if_neg h2]; rfl
set_option maxHeartbeats 1000000 in
theorem places_loop (src : ByteArray) (hs : src.size ≤ 3000) (l : List Tok) : ∀ (r : List Tok) (i idx K : Nat), l.drop idx = r → idx ≤ i → idx ≤ l.length → i ≤ src.size → rest src i = .ok r → (∀ t ∈ r, validT t = true) →
    4 * r.length + (src.size - i) + 30 ≤ K → sizarlaw09_LexPlaces.l0 K src l (i : Int) (idx : Int) = some true := by
  intro r
  induction r with
  | nil =>
    intro i idx K hd hii hil hi hr hv hK
    have hidx : idx = l.length := by
      have := congrArg List.length hd
      rw [List.length_drop] at this
      simp at this; omega
    obtain ⟨K, rfl⟩ : ∃ k, K = k + 3 := ⟨K - 3, by omega⟩
    rcases lexR_gap _ _ _ _ (Nat.lt_succ_self _) hr with ⟨_, f, hf⟩ | ⟨t, r, g, h, _⟩
    · have hg := gap_loop src hs l (idx : Int) src.size (Nat.le_refl _) (src.size - i) i K false f (by omega) (by rw [List.take_of_length_le (by rw [List.length_drop, size_data]; exact Nat.le_refl _)]; exact hf) (by omega)
      simp only [sizarlaw09_LexPlaces.l0, sizarlaw09_LexPlaces.j1, sizarlaw09_LexPlaces.j2]
      rw [if_pos (by omega), if_neg (by omega), if_neg (by omega), decide_eq_false (by omega), if_neg (by decide), hg]
      obtain ⟨m, hm⟩ : ∃ m, K - (src.size - i) = m + 1 := ⟨K - (src.size - i) - 1, by omega⟩
      rw [hm]
      simp only [sizarlaw09_LexPlaces.l1]
      rw [if_neg (by omega), if_pos (by omega)]
    · cases h
  | cons t r ih =>
    intro i idx K hd hii hil hi hr hv hK
    have hlt : idx < l.length := by
      rcases Nat.lt_or_ge idx l.length with h | h
      · exact h
      · rw [List.drop_of_length_le h] at hd; cases hd
    have hd1 := List.drop_eq_getElem_cons hlt
    rw [hd] at hd1
    injection hd1 with ht hdr
    have hrd : rd_T35 l (idx : Int) = t := by
      unfold rd_T35
      rw [Int.toNat_natCast, List.getD_eq_getElem?_getD, List.getElem?_eq_getElem hlt, ← ht]; rfl
    obtain ⟨K, rfl⟩ : ∃ k, K = k + 3 := ⟨K - 3, by omega⟩
    rcases lexR_gap _ _ _ _ (Nat.lt_succ_self _) hr with ⟨h, _⟩ | ⟨t', r', g, h, e1, e2, e3, e4, e5⟩
    · cases h
    injection h with h1 h2
    subst h1
    subst h2
    rw [List.drop_drop] at e4 e5
    rw [List.drop_drop] at e4
    have hlen := congrArg List.length e4
    rw [List.length_append, List.length_drop, List.length_drop, size_data] at hlen
    have hsp := spelled_f t (hv t List.mem_cons_self)
    generalize spellT t = w at e3 e4 e5 hlen hsp
    have hgap := gap_loop src hs l (idx : Int) (i + g) (by omega) g i K false false rfl e2 (by simp at hK; omega)
    have hK' : 4 * r.length + 4 + (src.size - i) + 30 ≤ K + 3 := by simpa [Nat.mul_add] using hK
    simp only [sizarlaw09_LexPlaces.l0, sizarlaw09_LexPlaces.j1, sizarlaw09_LexPlaces.j2]
    rw [if_pos (by omega), if_pos (by omega), if_pos (by omega), hrd, e1, if_neg (by omega), decide_eq_false (by omega), if_neg (by decide), hgap]
    obtain ⟨m, hm⟩ : ∃ m, K - g = m + 1 := ⟨K - g - 1, by omega⟩
    rw [hm]
    have hssz : (bs w).size = w.length := by rw [← size_data]; rfl
    have hw1 : wrap64 (((i + g : Nat) : Int) + (w.length : Int)) = ((i + g + w.length : Nat) : Int) := by unfold wrap64; omega
    have hw2 := wrap_succ idx (Nat.le_trans hii (Nat.le_trans hi hs))
    have hex : (src.extract (i + g) (i + g + w.length)).toList = (bs w).toList := by
      rw [toList_eq, toList_eq, Lib.extract_data, e4, Nat.add_sub_cancel_left, List.take_left]; rfl
    have hE : i + g + w.length ≤ src.size := by clear hK hK' hw1 hw2 hm; omega
    have hmb : 4 * r.length + (src.size - (i + g + w.length)) + 30 ≤ m := by clear hK hw1 hw2 hlen; omega
    have hidx : idx + 1 ≤ i + g + w.length := by clear hK hK' hw1 hw2 hm hlen hmb; omega
    have hm20 : 20 ≤ m := Nat.le_trans (by omega) hmb
    clear hK hK' hm hlen
    have n2 : ¬ (idx : Int) = (l.length : Int) := fun h => Nat.ne_of_lt hlt (Int.ofNat_inj.1 h)
    have n4 : (idx : Int) < (l.length : Int) := Int.ofNat_lt.2 hlt
    have n6 : ¬ (w.length : Int) = 0 := fun h => Nat.ne_of_gt e3 (Int.ofNat_inj.1 h)
    have n7 : ¬ ((i + g + w.length : Nat) : Int) > (src.size : Int) := Int.not_lt.2 (Int.ofNat_le.2 hE)
    have n8 : (0 : Int) ≤ ((i + g : Nat) : Int) := Int.natCast_nonneg _
    have n9 : ((i + g : Nat) : Int) ≤ ((i + g + w.length : Nat) : Int) := Int.ofNat_le.2 (Nat.le_add_right _ _)
    have n10 : ((i + g + w.length : Nat) : Int) ≤ (src.size : Int) := Int.ofNat_le.2 hE
    simp only [sizarlaw09_LexPlaces.l1, hrd, hsp m hm20, Option.bind_some, hssz, hw1, hw2, Int.toNat_natCast]
    rw [if_neg (Int.lt_irrefl _), if_neg n2, if_pos (Int.natCast_nonneg _), if_pos n4, if_neg (by decide), if_neg n6, if_neg n7, if_pos n8, if_pos n9, if_pos n10, if_pos hex]
    refine ih (i + g + w.length) (idx + 1) m hdr.symm hidx (Nat.succ_le_of_lt hlt) hE ?_ (fun x hx => hv x (List.mem_cons_of_mem _ hx)) hmb
    rw [show i + (g + w.length) = i + g + w.length from (Nat.add_assoc _ _ _).symm] at e5
    exact e5
theorem pureLexPlaces : sizarlaw09_LexPlaces.Pure := by
  intro a _
  cases hl : lexOf a.data.toList with
  | error p =>
    refine ⟨42, ?_⟩
    unfold sizarlaw09_LexPlaces.f
    rw [sane_all _ (by omega), Option.bind_some, if_pos rfl]
    by_cases h3000 : (a.size : Int) > 3000
    · rw [if_pos h3000]
    · rw [if_neg h3000, Lex_err (by omega) hl]; rfl
  | ok l =>
    refine ⟨4 * l.length + a.size + 70, ?_⟩
    unfold sizarlaw09_LexPlaces.f
    rw [sane_all _ (by omega), Option.bind_some, if_pos rfl]
    by_cases h3000 : (a.size : Int) > 3000
    · rw [if_pos h3000]
    · rw [if_neg h3000, Lex_ok (by omega) hl, Option.bind_some, if_pos rfl]
      exact places_loop a (by omega) l l 0 0 _ rfl (Nat.le_refl _) (Nat.zero_le _) (Nat.zero_le _) (by unfold rest; rw [List.drop_zero, ← lexOf_R]; exact hl) (lexOf_valid hl) (by omega)
end Go.Proofs.YtomglbjcfcijkaaDoor.PLx

namespace Go.Proofs.YtomglbjcfcijkaaDoor.lexPlaces
open Go.ChangeShapes Go.WideShapes Go.ChangeAt Go.RowKit
open Go.ChangeMaps (open_string shut_string)
open Go.Proofs.YtomglbjcfcijkaaDoor.PLx
set_option linter.unusedVariables false
set_option maxRecDepth 100000 in
theorem lifted (os : Os) (started : os.Started) (H : Type) (enc : TypeId × Value → H) :
    ReturnsInHanded {} Tryd.checked os 6 .any (fun w args => (Rows.lexPlacesSpec.pre enc Tryd.prog Tryd.f6 [] false w args ∧ laidMetH Tryd.prog Rows.lexPlacesRow.laid w) ∧ sizedMet enc Tryd.prog Tryd.f6 (OpenSpec.ofChange Rows.lexPlacesSpec) false w args) (Rows.lexPlacesSpec.post enc Tryd.prog Tryd.f6 false true false false) := by
  refine returnsInHanded_of_change_and (C := Tryd.checked) (X := fun w _ => laidMetH Tryd.prog Rows.lexPlacesRow.laid w) (fun _ _ _ hh h => h.of_heap hh) ownNone started (by kernel_rfl) Tryd.func6
    (ChangeSpec.witness_shaped (enc := enc) (C := Tryd.checked) (os := os) (X := fun w _ => laidMetH Tryd.prog Rows.lexPlacesRow.laid w) false (doorW os) #[.string ByteArray.empty] 8 rfl (World.shaped_of_RefB (by kernel_rfl) (by kernel_rfl)) (by kernel_rfl) (by kernel_rfl) (by kernel_rfl) (door_met os _)) ?_
  intro W base args ds gs before hval0 hW hcnd hsz0 hX _
  have hsz : (DataW.weightsEach Tryd.prog (Tryd.f6.params.toList ++ Rows.lexPlacesSpec.plain.varTypes Tryd.prog) (ds ++ gs)).all (· ≤ reachBytes) = true := hsz0
  have hval : ∀ (j : Nat) t v, Tryd.f6.params[j]? = some t → args[j]? = some v → Value.okWide Tryd.prog W .any base t v := hval0
  have hW' := hW
  obtain ⟨p, q, hA0, hV, rfl, hfz, hnd⟩ := hW
  have hA : DataW.TrodAll enc Tryd.prog W 0 (fun _ => true) true Tryd.f6.params.toList args.toList ds p := hA0
  rw [Tryd.params6] at hA hval hsz
  obtain ⟨v0, vs0, d0, ds0, p0, q0, hargs, rfl, rfl, h0, r0⟩ := trodAll_cons hA
  obtain ⟨rfl, rfl, rfl⟩ := trodAll_nil r0
  obtain rfl : args = #[v0] := by cases args; simp_all
  obtain ⟨rfl, rfl⟩ := trodVars_none hV
  have hL := laid_of_row hX
  obtain ⟨a0, rfl, rfl, rfl, y0⟩ := open_string Tryd.underlying9 (hval 0 9 v0 rfl rfl) h0
  have w0 : a0.size ≤ 140737488351232 := by
    have z := sized_string hsz (j := 0) (t := 9) rfl rfl
    rw [Array.length_toList] at z
    exact z
  refine (sizarlaw09_LexPlaces.walk pureLexPlaces a0 W w0 hL).mono fun e W' ⟨he, bel⟩ => ?_
  subst he
  exact ⟨_, rfl, _, _, _, [], _, [], hW', trodAll_mk1 (shut_bool Tryd.underlying4 _), (trodAll_cons_mk (shut_string Tryd.underlying9 y0) trodAll_mk0), rfl, bel.frame _, fun h => by cases h⟩
theorem over : Rows.lexPlacesRow.holds Tryd.pinned (OpenSpec.ofChange Rows.lexPlacesSpec) :=
  OpenClaim.holds_of_wide 6 Tryd.f6 rfl rfl rfl rfl rfl rfl rfl ⟨rfl, rfl, rfl, rfl, rfl⟩ rfl rfl rfl rfl rfl (by kernel_rfl) Tryd.func6 (by kernel_rfl)
    (of_decide_eq_true (by kernel_rfl)) (by unfold Func.isWrapper; first | (rw [if_pos (by decide +kernel)]; kernel_rfl) | (rw [if_neg (by decide +kernel)]; exact ⟨rfl, rfl⟩))
    (fun os started H enc _ => lifted os started H enc)
theorem card : Rows.LexPlacesCardSaid :=
  Claim7.holds_tied_plain_at .later [] [.data, .data, .data, .sentinel, .sentinel] true (true, "ae60ee85bae1412e4cc9c73726323c87789b3eb36cc3db7c69b93d92b3735f87") true
    over (fun _ h => by cases h) (by kernel_rfl) (fun _ h => by cases h) lexPlaces_row_tie rfl ⟨rfl, rfl⟩ (by kernel_rfl) rfl
    (fun f fn hf hfn => by
      obtain rfl : f = 6 := Option.some.inj ((show Tryd.prog.funcNamed "sizar/sizarlaw09.LexPlaces" = some 6 by kernel_rfl).symm.trans hf) |>.symm
      obtain rfl : fn = Tryd.f6 := (Option.some.inj (Tryd.func6.symm.trans hfn)).symm
      exact ⟨by kernel_rfl, fun j t ht => by
        rw [Tryd.params6] at ht
        have hm : t ∈ [9] := by simpa using Array.mem_of_getElem? ht
        have hall : ([9].all fun u => !Tryd.prog.wantsStandIn u) = true := by kernel_rfl
        exact (show Tryd.prog.wantsStandIn t = false by simpa using List.all_eq_true.1 hall t hm)⟩)
    (by kernel_rfl)
end Go.Proofs.YtomglbjcfcijkaaDoor.lexPlaces
namespace Go.Proofs.YtomglbjcfcijkaaDoor
/-- The card, under a short name, for the claim. -/
theorem lexPlaces_card_holds : Rows.LexPlacesCardSaid := lexPlaces.card
#print axioms lexPlaces_card_holds
end Go.Proofs.YtomglbjcfcijkaaDoor
