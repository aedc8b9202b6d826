/- Written by xprint.py (this session's own program over the kit's print); Lean checks it. -/
import Derived.Test.YtomglbjcfcijkaaDoorPLxx0
import Derived.Test.YtomglbjcfcijkaaDoorPLxx7
import Derived.Test.YtomglbjcfcijkaaDoorPackRef
import Derived.Test.YtomglbjcfcijkaaDoorLexExt
import Derived.Test.YtomglbjcfcijkaaDoorPLxx6
import Derived.Test.YtomglbjcfcijkaaDoorLexSame
import Derived.Test.YtomglbjcfcijkaaDoorPackErr
import Derived.Test.YtomglbjcfcijkaaDoorLexFact
import Derived.Test.YtomglbjcfcijkaaDoorLexM
import Derived.ChangeArms
import Derived.Lib.LaidTab
import Derived.WideShapes
import Derived.SizedLaws
import Derived.ProofKit
import Derived.JoinedOf
import Derived.Test.YtomglbjcfcijkaaDoorRows
import Derived.Test.YtomglbjcfcijkaaDoorCards
import Derived.Test.YtomglbjcfcijkaaDoorTie
import Derived.Test.YtomglbjcfcijkaaDoorLexMet
import Derived.WalkKit
import Derived.OpenShut
import Derived.ShutString
import Derived.ChangeOld
import Derived.Below
import Derived.LaidMore
import Derived.SevenTiedAt
import Derived.Stop.Joined
namespace Go.Proofs.YtomglbjcfcijkaaDoor.PLx
open Go.RowKit Go.Proofs.YtomglbjcfcijkaaDoorW.PrintWords Go.Proofs.YtomglbjcfcijkaaDoorW.PrintLast Go.Proofs.YtomglbjcfcijkaaDoorW.PrintMore
attribute [local go_sem] max2_int min2_int max_two min_two max_three min_three max_four min_four   -- for this text's walks alone
set_option linter.unusedVariables false
set_option linter.unusedSimpArgs false

/-! ### sizarlaw09_LexSpaces: function 7 -/
mutual
def sizarlaw09_LexSpaces.j0 : Nat → List (S35) → List Int → ByteArray → Bool → Option (Bool)
  | 0, _, _, _, _ => none
  | k + 1, x0, x1, x2, x30 => if x30 = true then (some true) else (sizarlaw09_LexSpaces.l0 k x0 x1 x2 (⟨#[]⟩ : ByteArray) 0)
def sizarlaw09_LexSpaces.l0 : Nat → List (S35) → List Int → ByteArray → ByteArray → Int → Option (Bool)
  | 0, _, _, _, _, _ => none
  | k + 1, x0, x1, x2, x7, x8 => if x8 < (x2.size : Int) then (if 0 ≤ x8 then (if (bt x2 x8) = 10 then (sizarlaw09_LexSpaces.l0 k x0 x1 x2 x7 (wrap64 (x8 + 1))) else (if x8 ≤ (wrap64 (x8 + 1)) then (if (wrap64 (x8 + 1)) ≤ (x2.size : Int) then (if x7.size + (x2.extract (x8 : Int).toNat ((wrap64 (x8 + 1)) : Int).toNat).size ≤ 9223372036854775807 then (sizarlaw09_LexSpaces.l0 k x0 x1 x2 (x7 ++ (x2.extract (x8 : Int).toNat ((wrap64 (x8 + 1)) : Int).toNat)) (wrap64 (x8 + 1))) else (none)) else (none)) else (none))) else (none)) else (if 2 + x7.size ≤ 9223372036854775807 then (if ((⟨#[47, 47]⟩ : ByteArray) ++ x7).size + 1 ≤ 9223372036854775807 then (sizarlaw09_LexSpaces.l1 k x0 x1 (([(⟨#[32]⟩ : ByteArray), (⟨#[9]⟩ : ByteArray), (⟨#[10]⟩ : ByteArray), (⟨#[13, 10]⟩ : ByteArray), (⟨#[32, 32]⟩ : ByteArray), ((⟨#[47, 47]⟩ : ByteArray) ++ x7) ++ (⟨#[10]⟩ : ByteArray), (⟨#[32, 47, 47, 32, 10]⟩ : ByteArray), (⟨#[10, 47, 47, 10]⟩ : ByteArray)] : List ByteArray)) (⟨#[10]⟩ : ByteArray) x0 (x0.length : Int) 0) else (none)) else (none))
def sizarlaw09_LexSpaces.l1 : Nat → List (S35) → List Int → List ByteArray → ByteArray → List (S35) → Int → Int → Option (Bool)
  | 0, _, _, _, _, _, _, _ => none
  | k + 1, x0, x1, x9, x10, x52, x53, x54 => if x54 < x53 then (if 0 ≤ x54 then (if x54 < (x52.length : Int) then ((lex_Text.f (([(⟨(rd_T35 x52 x54).f0, (rd_T35 x52 x54).f1, (rd_T35 x52 x54).f2, (rd_T35 x52 x54).f3⟩ : S35)] : List (S35)))).bind fun bt334 => (if bt334.2 = 0 then (if x54 < (x1.length : Int) then (if (x9.length : Int) = 0 then (none) else (if 0 ≤ (Int.tmod (wrap64 (rd x1 x54)) (x9.length : Int)) then (if (Int.tmod (wrap64 (rd x1 x54)) (x9.length : Int)) < (x9.length : Int) then (if bt334.1.size + 1 ≤ 9223372036854775807 then (if (bt334.1 ++ (⟨#[32]⟩ : ByteArray)).size + (rdOf ByteArray.empty x9 (Int.tmod (wrap64 (rd x1 x54)) (x9.length : Int))).size ≤ 9223372036854775807 then (if x10.size + ((bt334.1 ++ (⟨#[32]⟩ : ByteArray)) ++ (rdOf ByteArray.empty x9 (Int.tmod (wrap64 (rd x1 x54)) (x9.length : Int)))).size ≤ 9223372036854775807 then (sizarlaw09_LexSpaces.l1 k x0 x1 x9 (x10 ++ ((bt334.1 ++ (⟨#[32]⟩ : ByteArray)) ++ (rdOf ByteArray.empty x9 (Int.tmod (wrap64 (rd x1 x54)) (x9.length : Int))))) x52 x53 (wrap64 (x54 + 1))) else (none)) else (none)) else (none)) else (none)) else (none))) else (if bt334.1.size + 1 ≤ 9223372036854775807 then (if (bt334.1 ++ (⟨#[32]⟩ : ByteArray)).size + 1 ≤ 9223372036854775807 then (if x10.size + ((bt334.1 ++ (⟨#[32]⟩ : ByteArray)) ++ (⟨#[32]⟩ : ByteArray)).size ≤ 9223372036854775807 then (sizarlaw09_LexSpaces.l1 k x0 x1 x9 (x10 ++ ((bt334.1 ++ (⟨#[32]⟩ : ByteArray)) ++ (⟨#[32]⟩ : ByteArray))) x52 x53 (wrap64 (x54 + 1))) else (none)) else (none)) else (none))) else ((lex_Text.f x0).bind fun bt338 => (some (bt338.2 == 90))))) else (none)) else (none)) else ((lex_Lex.f x10).bind fun bt323 => (if bt323.2.2 = 0 then (if bt323.2.1 = 0 then ((lex_Same.f x0 bt323.1).bind fun t328 => (some t328)) else (some false)) else (some false)))
end
def sizarlaw09_LexSpaces.f (k : Nat) (l0 : List (S35)) (l1 : List Int) (a2 : ByteArray) : Option (Bool) := (sizarlaw09_sane.f k).bind fun t318 => (if t318 = true then ((sizarref09_Few.f k l0).bind fun t319 => (if t319 = true then (sizarlaw09_LexSpaces.j0 k l0 l1 a2 (decide ((a2.size : Int) > 100))) else (sizarlaw09_LexSpaces.j0 k l0 l1 a2 true))) else (some false))
theorem sizarlaw09_LexSpaces.mono_l : ∀ k, (∀ y0 y1 y2 y3, LeO (sizarlaw09_LexSpaces.j0 k y0 y1 y2 y3) (sizarlaw09_LexSpaces.j0 (k + 1) y0 y1 y2 y3)) ∧ (∀ y0 y1 y2 y3 y4, LeO (sizarlaw09_LexSpaces.l0 k y0 y1 y2 y3 y4) (sizarlaw09_LexSpaces.l0 (k + 1) y0 y1 y2 y3 y4)) ∧ (∀ y0 y1 y2 y3 y4 y5 y6, LeO (sizarlaw09_LexSpaces.l1 k y0 y1 y2 y3 y4 y5 y6) (sizarlaw09_LexSpaces.l1 (k + 1) y0 y1 y2 y3 y4 y5 y6))
  | 0 => ⟨fun _ _ _ _ r h => by simp [sizarlaw09_LexSpaces.j0] at h, fun _ _ _ _ _ r h => by simp [sizarlaw09_LexSpaces.l0] at h, fun _ _ _ _ _ _ _ r h => by simp [sizarlaw09_LexSpaces.l1] at h⟩
  | k + 1 => by
    obtain ⟨ih0, ih1, ih2⟩ := sizarlaw09_LexSpaces.mono_l k
    refine ⟨?_, ?_, ?_⟩
    · intro y0 y1 y2 y3
      unfold sizarlaw09_LexSpaces.j0
      repeat' first
      | (with_reducible exact ih0 _ _ _ _)
      | (with_reducible exact ih1 _ _ _ _ _)
      | (with_reducible exact ih2 _ _ _ _ _ _ _)
      | (with_reducible exact sizarlaw09_sane.mono _)
      | (with_reducible exact sizarref09_Few.mono _ _)
      | (with_reducible exact LeO.refl _)
      | (with_reducible exact LeO.none _)
      | (with_reducible refine LeO.ite ?_ ?_)
      | (with_reducible refine LeO.bind ?_ (fun _ => ?_))
      | exact ih0 _ _ _ _
      | exact ih1 _ _ _ _ _
      | exact ih2 _ _ _ _ _ _ _
      | exact sizarlaw09_sane.mono _
      | exact sizarref09_Few.mono _ _
      | exact LeO.none _
      | refine LeO.ite ?_ ?_
      | refine LeO.bind ?_ (fun _ => ?_)
    · intro y0 y1 y2 y3 y4
      unfold sizarlaw09_LexSpaces.l0
      repeat' first
      | (with_reducible exact ih0 _ _ _ _)
      | (with_reducible exact ih1 _ _ _ _ _)
      | (with_reducible exact ih2 _ _ _ _ _ _ _)
      | (with_reducible exact sizarlaw09_sane.mono _)
      | (with_reducible exact sizarref09_Few.mono _ _)
      | (with_reducible exact LeO.refl _)
      | (with_reducible exact LeO.none _)
      | (with_reducible refine LeO.ite ?_ ?_)
      | (with_reducible refine LeO.bind ?_ (fun _ => ?_))
      | exact ih0 _ _ _ _
      | exact ih1 _ _ _ _ _
      | exact ih2 _ _ _ _ _ _ _
      | exact sizarlaw09_sane.mono _
      | exact sizarref09_Few.mono _ _
      | exact LeO.none _
      | refine LeO.ite ?_ ?_
      | refine LeO.bind ?_ (fun _ => ?_)
    · intro y0 y1 y2 y3 y4 y5 y6
      unfold sizarlaw09_LexSpaces.l1
      repeat' first
      | (with_reducible exact ih0 _ _ _ _)
      | (with_reducible exact ih1 _ _ _ _ _)
      | (with_reducible exact ih2 _ _ _ _ _ _ _)
      | (with_reducible exact sizarlaw09_sane.mono _)
      | (with_reducible exact sizarref09_Few.mono _ _)
      | (with_reducible exact LeO.refl _)
      | (with_reducible exact LeO.none _)
      | (with_reducible refine LeO.ite ?_ ?_)
      | (with_reducible refine LeO.bind ?_ (fun _ => ?_))
      | exact ih0 _ _ _ _
      | exact ih1 _ _ _ _ _
      | exact ih2 _ _ _ _ _ _ _
      | exact sizarlaw09_sane.mono _
      | exact sizarref09_Few.mono _ _
      | exact LeO.none _
      | refine LeO.ite ?_ ?_
      | refine LeO.bind ?_ (fun _ => ?_)
theorem sizarlaw09_LexSpaces.mono : ∀ a0 a1 a2 k, LeO (sizarlaw09_LexSpaces.f k a0 a1 a2) (sizarlaw09_LexSpaces.f (k + 1) a0 a1 a2) := by
  intro a0 a1 a2 k
  obtain ⟨ih0, ih1, ih2⟩ := sizarlaw09_LexSpaces.mono_l k
  unfold sizarlaw09_LexSpaces.f
  repeat' first
      | (with_reducible exact ih0 _ _ _ _)
      | (with_reducible exact ih1 _ _ _ _ _)
      | (with_reducible exact ih2 _ _ _ _ _ _ _)
      | (with_reducible exact sizarlaw09_sane.mono _)
      | (with_reducible exact sizarref09_Few.mono _ _)
      | (with_reducible exact LeO.refl _)
      | (with_reducible exact LeO.none _)
      | (with_reducible refine LeO.ite ?_ ?_)
      | (with_reducible refine LeO.bind ?_ (fun _ => ?_))
      | exact ih0 _ _ _ _
      | exact ih1 _ _ _ _ _
      | exact ih2 _ _ _ _ _ _ _
      | exact sizarlaw09_sane.mono _
      | exact sizarref09_Few.mono _ _
      | exact LeO.none _
      | refine LeO.ite ?_ ?_
      | refine LeO.bind ?_ (fun _ => ?_)
set_option maxHeartbeats 8000000 in
set_option maxRecDepth 100000 in
theorem sizarlaw09_LexSpaces.calls (k : Nat) (A0 : Option Addr) (c0 : Nat) (l0 : List (S35)) (A1 : Option Addr) (c1 : Nat) (l1 : List Int) (a2 : ByteArray) (r : Bool) (w : World) (hr0 : Kd.C k35 w A0 l0.length l0) (hc0 : l0.length ≤ c0) (hr1 : Kd.C (Kd.int .u8) w A1 l1.length l1) (hc1 : l1.length ≤ c1) (hL : Laid w) (h : sizarlaw09_LexSpaces.f k l0 l1 a2 = some r) :
    Calls Tryd.prog 7 #[.slice A0 l0.length c0, .slice A1 l1.length c1, .string a2] w fun e w' => e = .returned (.bool r) ∧ Below w.heap.size w w' := by
  have hu35 := Tryd.underlying35
  have HR0 := Aside0.mk hr0
  have HC0 := Aside0.mk hc0
  clear hr0 hc0
  have HR1 := Aside0.mk hr1
  have HC1 := Aside0.mk hc1
  clear hr1 hc1
  have HB := Aside0.mk (Below.refl w.heap.size w)
  have H : ((sizarlaw09_sane.f k).bind fun t318 => (if t318 = true then ((sizarref09_Few.f k l0).bind fun t319 => (if t319 = true then (sizarlaw09_LexSpaces.j0 k l0 l1 a2 (decide ((a2.size : Int) > 100))) else (sizarlaw09_LexSpaces.j0 k l0 l1 a2 true))) else (some false))) = some r := h
  clear h
  replace H := Option.bind_eq_some_iff.mp H
  obtain ⟨t318, A40, H⟩ := H
  replace H : (if t318 = true then ((sizarref09_Few.f k l0).bind fun t319 => (if t319 = true then (sizarlaw09_LexSpaces.j0 k l0 l1 a2 (decide ((a2.size : Int) > 100))) else (sizarlaw09_LexSpaces.j0 k l0 l1 a2 true))) else (some false)) = some r := H
  have A4 := Aside0.mk A40
  clear A40
  by_cases c5 : t318 = true
  · subst c5
    have H1 : ((sizarref09_Few.f k l0).bind fun t319 => (if t319 = true then (sizarlaw09_LexSpaces.j0 k l0 l1 a2 (decide ((a2.size : Int) > 100))) else (sizarlaw09_LexSpaces.j0 k l0 l1 a2 true))) = some r := by rw [if_pos rfl] at H; exact H
    clear H
    have H := H1
    clear H1
    have HC6 := Aside0.mk H
    clear H
    go_enter Tryd.func7, Tryd.ntmps7
    go_upto_region 3 with (first | ((with_reducible refine gate_callee (f := 14) rfl ?_); refine goesL_ (some 21) rfl rfl Tryd.func14 (by kernel_rfl) rfl #[] rfl (by (try simp only [List.map_toArray, List.map_cons, List.map_nil]); first | done | rfl | (simp only [List.length_drop, List.length_take]; rfl)) ?_; (with_reducible refine (sizarlaw09_sane.calls k  true _ ?side1 A4.out).mono ?_); (case side1 => exact Laid.below hL (by repeat (first | (with_reducible first | exact HB.out | apply below_alloc | apply pw_below_drewN | apply below_drew1) | exact HB.out))); rintro e w7 ⟨rfl, hb⟩; refine ⟨_, rfl, ?_⟩; have n0_ := Aside0.mk (below_step (by repeat (first | (with_reducible first | exact HB.out | apply below_alloc | apply pw_below_drewN | apply below_drew1) | exact HB.out)) hb); clear HB; have HB := n0_; clear n0_; (try clear hb); (try clear hb2); (try clear hk); (try clear hi)))
    (try simp only [Act.put, List.setIfInBounds_toArray, List.set_cons_zero, List.set_cons_succ])
    go_cut [30] (fun v30 wc => ∃ (kq : Nat) (x30_5 : Bool), v30 = .bool x30_5 ∧ Aside0 (sizarlaw09_LexSpaces.j0 kq l0 l1 a2 x30_5 = some r) ∧ Aside0 (kq ≤ k) ∧ Aside0 (Below w.heap.size w wc))
    case first =>
      have H := HC6.out
      clear HC6
      replace H := Option.bind_eq_some_iff.mp H
      obtain ⟨t319, A80, H⟩ := H
      replace H : (if t319 = true then (sizarlaw09_LexSpaces.j0 k l0 l1 a2 (decide ((a2.size : Int) > 100))) else (sizarlaw09_LexSpaces.j0 k l0 l1 a2 true)) = some r := H
      have A8 := Aside0.mk A80
      clear A80
      by_cases c9 : t319 = true
      · subst c9
        have H1 : (sizarlaw09_LexSpaces.j0 k l0 l1 a2 (decide ((a2.size : Int) > 100))) = some r := by rw [if_pos rfl] at H; exact H
        clear H
        have H := H1
        clear H1
        have H' := Aside0.mk H
        clear H
        go_wp2_with (first | ((with_reducible refine gate_callee (f := 18) rfl ?_); refine goesL_ (some 24) rfl rfl Tryd.func18 (by kernel_rfl) rfl #[.slice A0 l0.length c0] rfl (by (try simp only [List.map_toArray, List.map_cons, List.map_nil]); first | done | rfl | (simp only [List.length_drop, List.length_take]; rfl)) ?_; (with_reducible refine (sizarref09_Few.calls k _ _ l0 true _ ?side1 ?side2 A8.out).mono ?_); (case side1 => repeat (first | exact (Kd.C_below HR0.out HB.out) | (with_reducible refine Kd.C_alloc ?_ _) | (with_reducible refine Kd.C_drewN ?_ _) | (with_reducible refine Kd.C_drew ?_))); (case side2 => exact HC0.out); rintro e w' ⟨rfl, ⟨nd, rfl⟩⟩; refine ⟨_, rfl, ?_⟩))
        go_meet
        case rel => exact ⟨_, (decide ((a2.size : Int) > 100)), (by first | rfl | (simp; done) | (simp [*]; done)), H', ⟨by first | omega | exact Nat.le_refl _⟩, ⟨by repeat (first | (with_reducible first | exact HB.out | apply below_alloc | apply pw_below_drewN | apply below_drew1) | exact HB.out)⟩⟩
      · replace c9 := Bool.eq_false_iff.mpr c9
        subst c9
        have H1 : (sizarlaw09_LexSpaces.j0 k l0 l1 a2 true) = some r := by rw [if_neg (show ¬ (false = true) by decide)] at H; exact H
        clear H
        have H := H1
        clear H1
        have H' := Aside0.mk H
        clear H
        go_wp2_with (first | ((with_reducible refine gate_callee (f := 18) rfl ?_); refine goesL_ (some 24) rfl rfl Tryd.func18 (by kernel_rfl) rfl #[.slice A0 l0.length c0] rfl (by (try simp only [List.map_toArray, List.map_cons, List.map_nil]); first | done | rfl | (simp only [List.length_drop, List.length_take]; rfl)) ?_; (with_reducible refine (sizarref09_Few.calls k _ _ l0 false _ ?side1 ?side2 A8.out).mono ?_); (case side1 => repeat (first | exact (Kd.C_below HR0.out HB.out) | (with_reducible refine Kd.C_alloc ?_ _) | (with_reducible refine Kd.C_drewN ?_ _) | (with_reducible refine Kd.C_drew ?_))); (case side2 => exact HC0.out); rintro e w' ⟨rfl, ⟨nd, rfl⟩⟩; refine ⟨_, rfl, ?_⟩))
        go_meet
        case rel => exact ⟨_, (true), (by first | rfl | (simp; done) | (simp [*]; done)), H', ⟨by first | omega | exact Nat.le_refl _⟩, ⟨by repeat (first | (with_reducible first | exact HB.out | apply below_alloc | apply pw_below_drewN | apply below_drew1) | exact HB.out)⟩⟩
    case rest =>
      clear HC6
      try clear c1
      try clear p2
      try clear c5
      try clear c7
      try clear c9
      obtain ⟨kq, x30_5, rfl, HA, HJ5, HB⟩ := hcut
      cases kq with
      | zero => exact absurd HA.out (by simp [sizarlaw09_LexSpaces.j0])
      | succ kj5 =>
        have H := HA.out
        clear HA
        simp only [sizarlaw09_LexSpaces.j0] at H
        by_cases c10 : x30_5 = true
        · subst c10
          have H1 : (some true) = some r := by rw [if_pos rfl] at H; exact H
          clear H
          have H := H1
          clear H1
          obtain rfl := Option.some.inj H
          go_wp2
          go_ret
          exact ⟨by first | rfl | (simp [errW_none, errW_some] <;> rfl) | (simp [*, errW_none, errW_some] <;> rfl), by repeat (first | (with_reducible first | exact HB.out | apply below_alloc | apply pw_below_drewN | apply below_drew1) | exact HB.out)⟩
        · replace c10 := Bool.eq_false_iff.mpr c10
          subst c10
          have H1 : (sizarlaw09_LexSpaces.l0 kj5 l0 l1 a2 (⟨#[]⟩ : ByteArray) 0) = some r := by rw [if_neg (show ¬ (false = true) by decide)] at H; exact H
          clear H
          have H := H1
          clear H1
          have H' := Aside0.mk H
          clear H
          go_wp2
          go_loopg [7, 8] kj5 (fun kq v7 v8 w' => ∃ (x7_2 : ByteArray) (x8_2 : Int), v7 = .string x7_2 ∧ v8 = .int .i64 x8_2 ∧ Aside0 (sizarlaw09_LexSpaces.l0 kq l0 l1 a2 x7_2 x8_2 = some r) ∧ Aside0 (kq ≤ kj5) ∧ Aside0 (Below w.heap.size w w'))
          case atStart => exact ⟨((⟨#[]⟩ : ByteArray)), (0), (by first | rfl | (simp; done) | (simp [*]; done)), (by first | rfl | (simp; done) | (simp [*]; done)), H', ⟨Nat.le_refl _⟩, ⟨by repeat (first | (with_reducible first | exact HB.out | apply below_alloc | apply pw_below_drewN | apply below_drew1) | exact HB.out)⟩⟩
          case round =>
            clear H'
            try clear c1
            try clear p2
            try clear c5
            try clear c7
            try clear c9
            try clear c10
            try clear p2
            obtain ⟨x7_2, x8_2, rfl, rfl, HA, HK2, HB⟩ := hrel
            cases gk with
            | zero => exact absurd HA.out (by simp [sizarlaw09_LexSpaces.l0])
            | succ k2 =>
              have H := HA.out
              clear HA
              simp only [sizarlaw09_LexSpaces.l0] at H
              by_cases c11 : x8_2 < (a2.size : Int)
              · rw [if_pos c11] at H
                have c11b0 : decide (x8_2 < (a2.size : Int)) = true := decide_eq_true c11
                clear c11
                by_cases c12 : 0 ≤ x8_2
                · rw [if_pos c12] at H
                  have c12b0 : decide (0 ≤ x8_2) = true := decide_eq_true c12
                  clear c12
                  by_cases c14 : (bt a2 x8_2) = 10
                  · rw [if_pos c14] at H
                    have c14b0 : ((bt a2 x8_2) == 10) = true := beq_iff_eq.mpr c14
                    have c14b1 : ((bt a2 x8_2) != 10) = false := bne_eq_false_iff_eq.mpr c14
                    clear c14
                    have H' := Aside0.mk H
                    clear H
                    have p13 : 0 ≤ (x8_2 : Int) := of_decide_eq_true (by first | (with_reducible assumption) | assumption)
                    have q13 : x8_2 < (a2.size : Int) := of_decide_eq_true (by first | (with_reducible assumption) | assumption)
                    have hx13 := bt_at a2 x8_2
                    replace p13 := eq_true p13
                    replace q13 := eq_true q13
                    go_wp2
                    go_roundg k2
                    case measure => have := HJ5.out; have := HK2.out; omega
                    case rel => exact ⟨(x7_2), (wrap64 (x8_2 + 1)), (by first | rfl | (simp; done) | (simp [*]; done)), (by first | rfl | (simp; done) | (simp [*]; done)), H', ⟨by have := HJ5.out; have := HK2.out; omega⟩, ⟨by repeat (first | (with_reducible first | exact HB.out | apply below_alloc | apply pw_below_drewN | apply below_drew1) | exact HB.out)⟩⟩
                  · rw [if_neg c14] at H
                    have c14b0 : ((bt a2 x8_2) == 10) = false := beq_eq_false_iff_ne.mpr c14
                    have c14b1 : ((bt a2 x8_2) != 10) = true := bne_iff_ne.mpr c14
                    have c15b0 := eq_true (of_decide_eq_true (by first | (with_reducible assumption) | assumption) : 0 ≤ x8_2)
                    by_cases c16 : x8_2 ≤ (wrap64 (x8_2 + 1))
                    · rw [if_pos c16] at H
                      have c16b0 := eq_true c16
                      have c16b1 : decide (x8_2 ≤ (wrap64 (x8_2 + 1))) = true := decide_eq_true c16
                      by_cases c17 : (wrap64 (x8_2 + 1)) ≤ (a2.size : Int)
                      · rw [if_pos c17] at H
                        have c17b0 := eq_true c17
                        have c17b1 : decide ((wrap64 (x8_2 + 1)) ≤ (a2.size : Int)) = true := decide_eq_true c17
                        by_cases c18 : x7_2.size + (a2.extract (x8_2 : Int).toNat ((wrap64 (x8_2 + 1)) : Int).toNat).size ≤ 9223372036854775807
                        · rw [if_pos c18] at H
                          have c18b0 := eq_true c18
                          have c18b1 : decide (x7_2.size + (a2.extract (x8_2 : Int).toNat ((wrap64 (x8_2 + 1)) : Int).toNat).size ≤ 9223372036854775807) = true := decide_eq_true c18
                          try have c18b2 : (9223372036854775807 < x7_2.size + (a2.extract (x8_2 : Int).toNat ((wrap64 (x8_2 + 1)) : Int).toNat).size) = False := eq_false (Nat.not_lt.2 c18)
                          have H' := Aside0.mk H
                          clear H
                          have p13 : 0 ≤ (x8_2 : Int) := of_decide_eq_true (by first | (with_reducible assumption) | assumption)
                          have q13 : x8_2 < (a2.size : Int) := of_decide_eq_true (by first | (with_reducible assumption) | assumption)
                          have hx13 := bt_at a2 x8_2
                          replace p13 := eq_true p13
                          replace q13 := eq_true q13
                          go_wp2
                          go_roundg k2
                          case measure => have := HJ5.out; have := HK2.out; omega
                          case rel => exact ⟨(x7_2 ++ (a2.extract (x8_2 : Int).toNat ((wrap64 (x8_2 + 1)) : Int).toNat)), (wrap64 (x8_2 + 1)), (by first | rfl | (simp; done) | (simp [*]; done)), (by first | rfl | (simp; done) | (simp [*]; done)), H', ⟨by have := HJ5.out; have := HK2.out; omega⟩, ⟨by repeat (first | (with_reducible first | exact HB.out | apply below_alloc | apply pw_below_drewN | apply below_drew1) | exact HB.out)⟩⟩
                        · rw [if_neg c18] at H
                          exact absurd H (by simp)
                      · rw [if_neg c17] at H
                        exact absurd H (by simp)
                    · rw [if_neg c16] at H
                      exact absurd H (by simp)
                · rw [if_neg c12] at H
                  exact absurd H (by simp)
              · rw [if_neg c11] at H
                have c11b0 : decide (x8_2 < (a2.size : Int)) = false := decide_eq_false c11
                clear c11
                by_cases c19 : 2 + x7_2.size ≤ 9223372036854775807
                · rw [if_pos c19] at H
                  have c19b0 := eq_true c19
                  have c19b1 : decide (2 + x7_2.size ≤ 9223372036854775807) = true := decide_eq_true c19
                  try have c19b2 : (9223372036854775807 < 2 + x7_2.size) = False := eq_false (Nat.not_lt.2 c19)
                  by_cases c20 : ((⟨#[47, 47]⟩ : ByteArray) ++ x7_2).size + 1 ≤ 9223372036854775807
                  · rw [if_pos c20] at H
                    have c20b0 := eq_true c20
                    have c20b1 : decide (((⟨#[47, 47]⟩ : ByteArray) ++ x7_2).size + 1 ≤ 9223372036854775807) = true := decide_eq_true c20
                    try have c20b2 : (9223372036854775807 < ((⟨#[47, 47]⟩ : ByteArray) ++ x7_2).size + 1) = False := eq_false (Nat.not_lt.2 c20)
                    try (have c20x := c20; simp only [ByteArray.size_append, show (⟨#[32]⟩ : ByteArray).size = 1 from rfl, show (⟨#[10]⟩ : ByteArray).size = 1 from rfl, show (⟨#[47, 47]⟩ : ByteArray).size = 2 from rfl] at c20x; have c20x0 := eq_true c20x; have c20x1 := decide_eq_true c20x; have c20x2 := eq_false (Nat.not_lt.2 c20x))
                    obtain ⟨y320, hy320⟩ : ∃ y_ : List ByteArray, y_ = (([(⟨#[32]⟩ : ByteArray), (⟨#[9]⟩ : ByteArray), (⟨#[10]⟩ : ByteArray), (⟨#[13, 10]⟩ : ByteArray), (⟨#[32, 32]⟩ : ByteArray), ((⟨#[47, 47]⟩ : ByteArray) ++ x7_2) ++ (⟨#[10]⟩ : ByteArray), (⟨#[32, 47, 47, 32, 10]⟩ : ByteArray), (⟨#[10, 47, 47, 10]⟩ : ByteArray)] : List ByteArray)) := ⟨_, rfl⟩
                    replace H : (sizarlaw09_LexSpaces.l1 k2 l0 l1 y320 (⟨#[10]⟩ : ByteArray) l0 (l0.length : Int) 0) = some r := by first | (rw [hy320]; with_reducible exact H) | (have H2_ := (Option.bind_some _ _).symm.trans H; rw [hy320]; with_reducible exact H2_) | (have H2_ := (Option.bind_some _ _).symm.trans H; with_reducible exact H2_) | with_reducible exact H | (rw [hy320]; exact H) | exact H
                    have Ny320 := Aside0.mk hy320
                    clear hy320
                    have H' := Aside0.mk H
                    clear H
                    go_wp2_with (first | ((with_reducible refine gate_dst (N := 51) rfl ?_); (try (refine gate_guard (by rfl) ?_; dsimp only)); refine Kd.R_lit Kd.string _ 9 ?hg (N := 51) ?hd (xs := ([(⟨#[32]⟩ : ByteArray), (⟨#[9]⟩ : ByteArray), (⟨#[10]⟩ : ByteArray), (⟨#[13, 10]⟩ : ByteArray), (⟨#[32, 32]⟩ : ByteArray), ((⟨#[47, 47]⟩ : ByteArray) ++ x7_2) ++ (⟨#[10]⟩ : ByteArray), (⟨#[32, 47, 47, 32, 10]⟩ : ByteArray), (⟨#[10, 47, 47, 10]⟩ : ByteArray)] : List ByteArray)) (inner := [.string (⟨#[32]⟩ : ByteArray), .string (⟨#[9]⟩ : ByteArray), .string (⟨#[10]⟩ : ByteArray), .string (⟨#[13, 10]⟩ : ByteArray), .string (⟨#[32, 32]⟩ : ByteArray), .string (((⟨#[47, 47]⟩ : ByteArray) ++ x7_2) ++ (⟨#[10]⟩ : ByteArray)), .string (⟨#[32, 47, 47, 32, 10]⟩ : ByteArray), .string (⟨#[10, 47, 47, 10]⟩ : ByteArray)]) (ok := fun _ => True) (okp := fun _ => True) ?hr ?hp (fun _ hk => hk) trivial (Below.refl _ _) (Nat.le_refl _) (by simp) ?_; (case hd => rfl); (case hg => rfl); (case hr => first | (go_simp; done) | (go_simp; rfl)); (case hp => exact (Reps.one (show Kd.M Kd.string _ _ _ (⟨#[32]⟩ : ByteArray) [.string (⟨#[32]⟩ : ByteArray)] from rfl) (Reps.one (show Kd.M Kd.string _ _ _ (⟨#[9]⟩ : ByteArray) [.string (⟨#[9]⟩ : ByteArray)] from rfl) (Reps.one (show Kd.M Kd.string _ _ _ (⟨#[10]⟩ : ByteArray) [.string (⟨#[10]⟩ : ByteArray)] from rfl) (Reps.one (show Kd.M Kd.string _ _ _ (⟨#[13, 10]⟩ : ByteArray) [.string (⟨#[13, 10]⟩ : ByteArray)] from rfl) (Reps.one (show Kd.M Kd.string _ _ _ (⟨#[32, 32]⟩ : ByteArray) [.string (⟨#[32, 32]⟩ : ByteArray)] from rfl) (Reps.one (show Kd.M Kd.string _ _ _ (((⟨#[47, 47]⟩ : ByteArray) ++ x7_2) ++ (⟨#[10]⟩ : ByteArray)) [.string (((⟨#[47, 47]⟩ : ByteArray) ++ x7_2) ++ (⟨#[10]⟩ : ByteArray))] from rfl) (Reps.one (show Kd.M Kd.string _ _ _ (⟨#[32, 47, 47, 32, 10]⟩ : ByteArray) [.string (⟨#[32, 47, 47, 32, 10]⟩ : ByteArray)] from rfl) (Reps.one (show Kd.M Kd.string _ _ _ (⟨#[10, 47, 47, 10]⟩ : ByteArray) [.string (⟨#[10, 47, 47, 10]⟩ : ByteArray)] from rfl) (Reps.none _ _)))))))))); intro v321 w21 ho22 hb hg_ hnew_; clear hg_ hnew_; (first | rw [← Ny320.out] at ho22 | (simp only [Int.reduceToNat] at ho22; rw [← Ny320.out] at ho22)); have n0_ := Aside0.mk (Kd.R_lower ho22 (below_size (by repeat (first | (with_reducible first | exact HB.out | apply below_alloc | apply pw_below_drewN | apply below_drew1) | exact HB.out)))); have n1_ := Aside0.mk (below_step (by repeat (first | (with_reducible first | exact HB.out | apply below_alloc | apply pw_below_drewN | apply below_drew1) | exact HB.out)) hb); clear HB; have HO322 := n0_; have HB := n1_; clear n0_ n1_; clear hb ho22))
                    go_loopg [10, 54] k2 (fun kq v10 v54 w' => ∃ (x10_3 : ByteArray) (x54_3 : Int), v10 = .string x10_3 ∧ v54 = .int .i64 x54_3 ∧ Aside0 (sizarlaw09_LexSpaces.l1 kq l0 l1 y320 x10_3 l0 (l0.length : Int) x54_3 = some r) ∧ Aside0 (kq ≤ k2) ∧ Aside0 (Kd.R Kd.string 9 w' w.heap.size (fun _ => True) v321 y320) ∧ Aside0 (Below w.heap.size w w'))
                    case atStart => exact ⟨((⟨#[10]⟩ : ByteArray)), (0), (by first | rfl | (simp; done) | (simp [*]; done)), (by first | rfl | (simp; done) | (simp [*]; done)), H', ⟨Nat.le_refl _⟩, ⟨by (with_reducible repeat (first | apply Kd.R_alloc | apply Kd.R_drewN | apply Kd.R_drew)); exact HO322.out⟩, ⟨by repeat (first | (with_reducible first | exact HB.out | apply below_alloc | apply pw_below_drewN | apply below_drew1) | exact HB.out)⟩⟩
                    case round =>
                      clear H'
                      try clear c1
                      try clear p1
                      try clear q1
                      try clear hx1
                      try clear c2
                      try clear p2
                      try clear c5
                      try clear p6
                      try clear c7
                      try clear c9
                      try clear c10
                      try clear c11
                      try clear c11b0
                      try clear c12
                      try clear c12b0
                      try clear p13
                      try clear q13
                      try clear hx13
                      try clear c14
                      try clear c14b0
                      try clear c14b1
                      try clear c15
                      try clear c15b0
                      try clear c16
                      try clear c16b0
                      try clear c16b1
                      try clear c17
                      try clear c17b0
                      try clear c17b1
                      try clear c18
                      try clear c18b0
                      try clear c18b1
                      try clear c18b2
                      try clear c19
                      try clear c19b0
                      try clear c19b1
                      try clear c19b2
                      try clear c20
                      try clear c20b0
                      try clear c20b1
                      try clear c20b2
                      try clear p13
                      try clear p2
                      try clear q13
                      obtain ⟨x10_3, x54_3, rfl, rfl, HA, HK3, HO_9, HB⟩ := hrel
                      cases gk with
                      | zero => exact absurd HA.out (by simp [sizarlaw09_LexSpaces.l1])
                      | succ k3 =>
                        have H := HA.out
                        clear HA
                        simp only [sizarlaw09_LexSpaces.l1] at H
                        by_cases c23 : x54_3 < (l0.length : Int)
                        · rw [if_pos c23] at H
                          have c23b0 : decide (x54_3 < (l0.length : Int)) = true := decide_eq_true c23
                          clear c23
                          by_cases c24 : 0 ≤ x54_3
                          · rw [if_pos c24] at H
                            have c24b0 : decide (0 ≤ x54_3) = true := decide_eq_true c24
                            clear c24
                            by_cases c25 : x54_3 < (l0.length : Int)
                            · rw [if_pos c25] at H
                              have c25b0 : decide (x54_3 < (l0.length : Int)) = true := decide_eq_true c25
                              clear c25
                              obtain ⟨y331, hy331⟩ : ∃ y_ : List (S35), y_ = (([(⟨(rd_T35 l0 x54_3).f0, (rd_T35 l0 x54_3).f1, (rd_T35 l0 x54_3).f2, (rd_T35 l0 x54_3).f3⟩ : S35)] : List (S35))) := ⟨_, rfl⟩
                              replace H : ((lex_Text.f y331).bind fun bt334 => (if bt334.2 = 0 then (if x54_3 < (l1.length : Int) then (if (y320.length : Int) = 0 then (none) else (if 0 ≤ (Int.tmod (wrap64 (rd l1 x54_3)) (y320.length : Int)) then (if (Int.tmod (wrap64 (rd l1 x54_3)) (y320.length : Int)) < (y320.length : Int) then (if bt334.1.size + 1 ≤ 9223372036854775807 then (if (bt334.1 ++ (⟨#[32]⟩ : ByteArray)).size + (rdOf ByteArray.empty y320 (Int.tmod (wrap64 (rd l1 x54_3)) (y320.length : Int))).size ≤ 9223372036854775807 then (if x10_3.size + ((bt334.1 ++ (⟨#[32]⟩ : ByteArray)) ++ (rdOf ByteArray.empty y320 (Int.tmod (wrap64 (rd l1 x54_3)) (y320.length : Int)))).size ≤ 9223372036854775807 then (sizarlaw09_LexSpaces.l1 k3 l0 l1 y320 (x10_3 ++ ((bt334.1 ++ (⟨#[32]⟩ : ByteArray)) ++ (rdOf ByteArray.empty y320 (Int.tmod (wrap64 (rd l1 x54_3)) (y320.length : Int))))) l0 (l0.length : Int) (wrap64 (x54_3 + 1))) else (none)) else (none)) else (none)) else (none)) else (none))) else (if bt334.1.size + 1 ≤ 9223372036854775807 then (if (bt334.1 ++ (⟨#[32]⟩ : ByteArray)).size + 1 ≤ 9223372036854775807 then (if x10_3.size + ((bt334.1 ++ (⟨#[32]⟩ : ByteArray)) ++ (⟨#[32]⟩ : ByteArray)).size ≤ 9223372036854775807 then (sizarlaw09_LexSpaces.l1 k3 l0 l1 y320 (x10_3 ++ ((bt334.1 ++ (⟨#[32]⟩ : ByteArray)) ++ (⟨#[32]⟩ : ByteArray))) l0 (l0.length : Int) (wrap64 (x54_3 + 1))) else (none)) else (none)) else (none))) else ((lex_Text.f l0).bind fun bt338 => (some (bt338.2 == 90))))) = some r := by first | (rw [hy331]; with_reducible exact H) | (have H2_ := (Option.bind_some _ _).symm.trans H; rw [hy331]; with_reducible exact H2_) | (have H2_ := (Option.bind_some _ _).symm.trans H; with_reducible exact H2_) | with_reducible exact H | (rw [hy331]; exact H) | exact H
                              have Ny331 := Aside0.mk hy331
                              clear hy331
                              replace H := Option.bind_eq_some_iff.mp H
                              obtain ⟨⟨t334, t335⟩, A260, H⟩ := H
                              replace H : (if t335 = 0 then (if x54_3 < (l1.length : Int) then (if (y320.length : Int) = 0 then (none) else (if 0 ≤ (Int.tmod (wrap64 (rd l1 x54_3)) (y320.length : Int)) then (if (Int.tmod (wrap64 (rd l1 x54_3)) (y320.length : Int)) < (y320.length : Int) then (if t334.size + 1 ≤ 9223372036854775807 then (if (t334 ++ (⟨#[32]⟩ : ByteArray)).size + (rdOf ByteArray.empty y320 (Int.tmod (wrap64 (rd l1 x54_3)) (y320.length : Int))).size ≤ 9223372036854775807 then (if x10_3.size + ((t334 ++ (⟨#[32]⟩ : ByteArray)) ++ (rdOf ByteArray.empty y320 (Int.tmod (wrap64 (rd l1 x54_3)) (y320.length : Int)))).size ≤ 9223372036854775807 then (sizarlaw09_LexSpaces.l1 k3 l0 l1 y320 (x10_3 ++ ((t334 ++ (⟨#[32]⟩ : ByteArray)) ++ (rdOf ByteArray.empty y320 (Int.tmod (wrap64 (rd l1 x54_3)) (y320.length : Int))))) l0 (l0.length : Int) (wrap64 (x54_3 + 1))) else (none)) else (none)) else (none)) else (none)) else (none))) else (if t334.size + 1 ≤ 9223372036854775807 then (if (t334 ++ (⟨#[32]⟩ : ByteArray)).size + 1 ≤ 9223372036854775807 then (if x10_3.size + ((t334 ++ (⟨#[32]⟩ : ByteArray)) ++ (⟨#[32]⟩ : ByteArray)).size ≤ 9223372036854775807 then (sizarlaw09_LexSpaces.l1 k3 l0 l1 y320 (x10_3 ++ ((t334 ++ (⟨#[32]⟩ : ByteArray)) ++ (⟨#[32]⟩ : ByteArray))) l0 (l0.length : Int) (wrap64 (x54_3 + 1))) else (none)) else (none)) else (none))) else ((lex_Text.f l0).bind fun bt338 => (some (bt338.2 == 90)))) = some r := H
                              have A26 := Aside0.mk A260
                              clear A260
                              by_cases c27 : t335 = 0
                              · rw [if_pos c27] at H
                                have c27b0 : (t335 == 0) = true := beq_iff_eq.mpr c27
                                have c27b1 : (t335 != 0) = false := bne_eq_false_iff_eq.mpr c27
                                clear c27
                                by_cases c28 : x54_3 < (l1.length : Int)
                                · rw [if_pos c28] at H
                                  have c28b0 : decide (x54_3 < (l1.length : Int)) = true := decide_eq_true c28
                                  clear c28
                                  by_cases c29 : (y320.length : Int) = 0
                                  · rw [if_pos c29] at H
                                    exact absurd H (by simp)
                                  · rw [if_neg c29] at H
                                    have c29b0 : ((y320.length : Int) == 0) = false := beq_eq_false_iff_ne.mpr c29
                                    have c29b1 : ((y320.length : Int) != 0) = true := bne_iff_ne.mpr c29
                                    have c29b2 : ¬ (y320 = []) := fun h_ => c29 (by rw [h_]; rfl)
                                    obtain ⟨ji30, hji30⟩ : ∃ j_ : Int, (Int.tmod (wrap64 (rd l1 x54_3)) (y320.length : Int)) = j_ := ⟨_, rfl⟩
                                    replace H : (if 0 ≤ (ji30) then (if (ji30) < (y320.length : Int) then (if t334.size + 1 ≤ 9223372036854775807 then (if (t334 ++ (⟨#[32]⟩ : ByteArray)).size + (rdOf ByteArray.empty y320 (ji30)).size ≤ 9223372036854775807 then (if x10_3.size + ((t334 ++ (⟨#[32]⟩ : ByteArray)) ++ (rdOf ByteArray.empty y320 (ji30))).size ≤ 9223372036854775807 then (sizarlaw09_LexSpaces.l1 k3 l0 l1 y320 (x10_3 ++ ((t334 ++ (⟨#[32]⟩ : ByteArray)) ++ (rdOf ByteArray.empty y320 (ji30)))) l0 (l0.length : Int) (wrap64 (x54_3 + 1))) else (none)) else (none)) else (none)) else (none)) else (none)) = some r := by first | (rw [hji30] at H; exact H) | (simp only [hji30] at H ⊢; exact H)
                                    (try rw [hji30] at A26)
                                    by_cases c31 : 0 ≤ (ji30)
                                    · rw [if_pos c31] at H
                                      have c31b0 : decide (0 ≤ (ji30)) = true := decide_eq_true c31
                                      clear c31
                                      by_cases c32 : (ji30) < (y320.length : Int)
                                      · rw [if_pos c32] at H
                                        have c32b0 : decide ((ji30) < (y320.length : Int)) = true := decide_eq_true c32
                                        clear c32
                                        by_cases c33 : t334.size + 1 ≤ 9223372036854775807
                                        · rw [if_pos c33] at H
                                          have c33b0 := eq_true c33
                                          have c33b1 : decide (t334.size + 1 ≤ 9223372036854775807) = true := decide_eq_true c33
                                          try have c33b2 : (9223372036854775807 < t334.size + 1) = False := eq_false (Nat.not_lt.2 c33)
                                          by_cases c34 : (t334 ++ (⟨#[32]⟩ : ByteArray)).size + (rdOf ByteArray.empty y320 (ji30)).size ≤ 9223372036854775807
                                          · rw [if_pos c34] at H
                                            have c34b0 := eq_true c34
                                            have c34b1 : decide ((t334 ++ (⟨#[32]⟩ : ByteArray)).size + (rdOf ByteArray.empty y320 (ji30)).size ≤ 9223372036854775807) = true := decide_eq_true c34
                                            try have c34b2 : (9223372036854775807 < (t334 ++ (⟨#[32]⟩ : ByteArray)).size + (rdOf ByteArray.empty y320 (ji30)).size) = False := eq_false (Nat.not_lt.2 c34)
                                            try (have c34x := c34; simp only [ByteArray.size_append, show (⟨#[32]⟩ : ByteArray).size = 1 from rfl, show (⟨#[10]⟩ : ByteArray).size = 1 from rfl, show (⟨#[47, 47]⟩ : ByteArray).size = 2 from rfl] at c34x; have c34x0 := eq_true c34x; have c34x1 := decide_eq_true c34x; have c34x2 := eq_false (Nat.not_lt.2 c34x))
                                            by_cases c35 : x10_3.size + ((t334 ++ (⟨#[32]⟩ : ByteArray)) ++ (rdOf ByteArray.empty y320 (ji30))).size ≤ 9223372036854775807
                                            · rw [if_pos c35] at H
                                              have c35b0 := eq_true c35
                                              have c35b1 : decide (x10_3.size + ((t334 ++ (⟨#[32]⟩ : ByteArray)) ++ (rdOf ByteArray.empty y320 (ji30))).size ≤ 9223372036854775807) = true := decide_eq_true c35
                                              try have c35b2 : (9223372036854775807 < x10_3.size + ((t334 ++ (⟨#[32]⟩ : ByteArray)) ++ (rdOf ByteArray.empty y320 (ji30))).size) = False := eq_false (Nat.not_lt.2 c35)
                                              try (have c35x := c35; simp only [ByteArray.size_append, show (⟨#[32]⟩ : ByteArray).size = 1 from rfl, show (⟨#[10]⟩ : ByteArray).size = 1 from rfl, show (⟨#[47, 47]⟩ : ByteArray).size = 2 from rfl] at c35x; have c35x0 := eq_true c35x; have c35x1 := decide_eq_true c35x; have c35x2 := eq_false (Nat.not_lt.2 c35x))
                                              have H' := Aside0.mk H
                                              clear H
                                              have p329 : 0 ≤ (x54_3 : Int) := of_decide_eq_true (by first | (with_reducible assumption) | assumption)
                                              have q329 : x54_3 < (l0.length : Int) := of_decide_eq_true (by first | (with_reducible assumption) | assumption)
                                              obtain ⟨ad329, e329, hx329_0, hx329_1, hx329_2, hx329_3⟩ := at_T35 HR0.out x54_3 p329 q329
                                              cases e329
                                              replace hx329_0 := (HB.out.cell (World.block_lt_of_cell? w _ hx329_0)).trans hx329_0
                                              replace hx329_1 := (HB.out.cell (World.block_lt_of_cell? w _ hx329_1)).trans hx329_1
                                              replace hx329_2 := (HB.out.cell (World.block_lt_of_cell? w _ hx329_2)).trans hx329_2
                                              replace hx329_3 := (HB.out.cell (World.block_lt_of_cell? w _ hx329_3)).trans hx329_3
                                              replace p329 := eq_true p329
                                              replace q329 := eq_true q329
                                              go_wp2_with (first | ((with_reducible refine gate_dst (N := 12) rfl ?_); (try (refine gate_guard (by rfl) ?_; dsimp only)); refine box_event ?hg (N := 12) ?hd (cs := #[.int .i64 0, .string (⟨#[]⟩ : ByteArray), .int .i64 0, .int .i64 0]) (t := 35) ?hr ?_; (case hd => rfl); (case hg => rfl); (case hr => first | (go_simp; done) | (go_simp; rfl)); intro gb330 hg w36 hbox hb; have n0_ := Aside0.mk (Kd.R_below (by (with_reducible repeat (first | apply Kd.R_alloc | apply Kd.R_drewN | apply Kd.R_drew)); exact HO_9.out) hb); have n1_ := Aside0.mk (below_step (by repeat (first | (with_reducible first | exact HB.out | apply below_alloc | apply pw_below_drewN | apply below_drew1) | exact HB.out)) hb); have n2_ := Aside0.mk (hbox); have n3_ := Aside0.mk ((by rw [hg]; exact (below_size (by repeat (first | (with_reducible first | exact HB.out | apply below_alloc | apply pw_below_drewN | apply below_drew1) | exact HB.out))) : w.heap.size ≤ gb330)); have n4_ := Aside0.mk ((by rw [hg]; exact (below_size (by repeat (first | (with_reducible first | exact HB.out | apply below_alloc | apply pw_below_drewN | apply below_drew1) | exact HB.out))) : w.heap.size ≤ gb330)); clear HO_9; clear HB; have HO_9 := n0_; have HB := n1_; have BK330 := n2_; have GW330 := n3_; have GE330 := n4_; clear n0_ n1_ n2_ n3_ n4_; clear hb hbox hg; have hcz37_0 : w36.cell? ⟨gb330, 0, none⟩ = some (.int .i64 0) := (blk_cell BK330.out 0).trans rfl; have hcz37_1 : w36.cell? ⟨gb330, 1, none⟩ = some (.string (⟨#[]⟩ : ByteArray)) := (blk_cell BK330.out 1).trans rfl; have hcz37_2 : w36.cell? ⟨gb330, 2, none⟩ = some (.int .i64 0) := (blk_cell BK330.out 2).trans rfl; have hcz37_3 : w36.cell? ⟨gb330, 3, none⟩ = some (.int .i64 0) := (blk_cell BK330.out 3).trans rfl; have hfz37_0 := blk_frozen BK330.out 0; have hfz37_1 := blk_frozen BK330.out 1; have hfz37_2 := blk_frozen BK330.out 2; have hfz37_3 := blk_frozen BK330.out 3) | ((with_reducible refine gate_dst (N := 61) rfl ?_); (try (refine gate_guard (by rfl) ?_; dsimp only)); refine Kd.R_lit k35 _ 35 ?hg (N := 61) ?hd (xs := ([(⟨(rd_T35 l0 x54_3).f0, (rd_T35 l0 x54_3).f1, (rd_T35 l0 x54_3).f2, (rd_T35 l0 x54_3).f3⟩ : S35)] : List (S35))) (inner := [.int .i64 ((rd_T35 l0 x54_3).f0), .string ((rd_T35 l0 x54_3).f1), .int .i64 ((rd_T35 l0 x54_3).f2), .int .i64 ((rd_T35 l0 x54_3).f3)]) (ok := fun _ => True) (okp := fun _ => True) ?hr ?hp (fun _ hk => hk) trivial (Below.refl _ _) (Nat.le_refl _) (by simp) ?_; (case hd => rfl); (case hg => rfl); (case hr => first | (go_simp; done) | (go_simp; rfl)); (case hp => exact (Reps.c4 (show Kd.M k35 _ _ _ (⟨(rd_T35 l0 x54_3).f0, (rd_T35 l0 x54_3).f1, (rd_T35 l0 x54_3).f2, (rd_T35 l0 x54_3).f3⟩ : S35) [.int .i64 ((rd_T35 l0 x54_3).f0), .string ((rd_T35 l0 x54_3).f1), .int .i64 ((rd_T35 l0 x54_3).f2), .int .i64 ((rd_T35 l0 x54_3).f3)] from (k35_mkM _ _ _ (⟨(rd_T35 l0 x54_3).f0, (rd_T35 l0 x54_3).f1, (rd_T35 l0 x54_3).f2, (rd_T35 l0 x54_3).f3⟩ : S35) )) (Reps.none _ _))); intro v332 w38 ho39 hb hg_ hnew_; clear hg_ hnew_; (first | rw [← Ny331.out] at ho39 | (simp only [Int.reduceToNat] at ho39; rw [← Ny331.out] at ho39)); have n0_ := Aside0.mk (Kd.R_below (by (with_reducible repeat (first | apply Kd.R_alloc | apply Kd.R_drewN | apply Kd.R_drew)); exact (Kd.R_mono (Kd.R_far (p := ⟨gb330, 3, none⟩) (Kd.R_far (p := ⟨gb330, 2, none⟩) (Kd.R_far (p := ⟨gb330, 1, none⟩) (Kd.R_far (p := ⟨gb330, 0, none⟩) (Kd.R_types HO_9.out BK330.out (by decide)) (fun _ hk => hk.2) (.int .i64 ((rd_T35 l0 x54_3).f0))) (fun _ hk => hk.2) (.string ((rd_T35 l0 x54_3).f1))) (fun _ hk => hk.2) (.int .i64 ((rd_T35 l0 x54_3).f2))) (fun _ hk => hk.2) (.int .i64 ((rd_T35 l0 x54_3).f3))) (fun _ h_ => h_.1))) hb); have n1_ := Aside0.mk (Kd.R_lower (Kd.R_newB ho39 (g := gb330) (o := .cells #[.int .i64 ((rd_T35 l0 x54_3).f0), .string ((rd_T35 l0 x54_3).f1), .int .i64 ((rd_T35 l0 x54_3).f2), .int .i64 ((rd_T35 l0 x54_3).f3)] 35 (0, 0)) (by (with_reducible repeat (first | refine blk_drewN ?_ _ | refine blk_drew ?_ | refine blk_alloc ?_ _)); refine blk_put (cs := #[.int .i64 ((rd_T35 l0 x54_3).f0), .string ((rd_T35 l0 x54_3).f1), .int .i64 ((rd_T35 l0 x54_3).f2), .int .i64 0]) ?_ 3 _ rfl; (with_reducible repeat (first | refine blk_drewN ?_ _ | refine blk_drew ?_ | refine blk_alloc ?_ _)); refine blk_put (cs := #[.int .i64 ((rd_T35 l0 x54_3).f0), .string ((rd_T35 l0 x54_3).f1), .int .i64 0, .int .i64 0]) ?_ 2 _ rfl; (with_reducible repeat (first | refine blk_drewN ?_ _ | refine blk_drew ?_ | refine blk_alloc ?_ _)); refine blk_put (cs := #[.int .i64 ((rd_T35 l0 x54_3).f0), .string (⟨#[]⟩ : ByteArray), .int .i64 0, .int .i64 0]) ?_ 1 _ rfl; (with_reducible repeat (first | refine blk_drewN ?_ _ | refine blk_drew ?_ | refine blk_alloc ?_ _)); refine blk_put (cs := #[.int .i64 0, .string (⟨#[]⟩ : ByteArray), .int .i64 0, .int .i64 0]) ?_ 0 _ rfl; (with_reducible repeat (first | refine blk_drewN ?_ _ | refine blk_drew ?_ | refine blk_alloc ?_ _)); exact BK330.out)) (below_size (by repeat (first | (with_reducible first | exact HB.out | apply below_alloc | apply pw_below_drewN | apply below_drew1 | refine below_set ?_ GE330.out) | exact HB.out)))); have n2_ := Aside0.mk (blk_below (g := gb330) (o := .cells #[.int .i64 ((rd_T35 l0 x54_3).f0), .string ((rd_T35 l0 x54_3).f1), .int .i64 ((rd_T35 l0 x54_3).f2), .int .i64 ((rd_T35 l0 x54_3).f3)] 35 (0, 0)) (by (with_reducible repeat (first | refine blk_drewN ?_ _ | refine blk_drew ?_ | refine blk_alloc ?_ _)); refine blk_put (cs := #[.int .i64 ((rd_T35 l0 x54_3).f0), .string ((rd_T35 l0 x54_3).f1), .int .i64 ((rd_T35 l0 x54_3).f2), .int .i64 0]) ?_ 3 _ rfl; (with_reducible repeat (first | refine blk_drewN ?_ _ | refine blk_drew ?_ | refine blk_alloc ?_ _)); refine blk_put (cs := #[.int .i64 ((rd_T35 l0 x54_3).f0), .string ((rd_T35 l0 x54_3).f1), .int .i64 0, .int .i64 0]) ?_ 2 _ rfl; (with_reducible repeat (first | refine blk_drewN ?_ _ | refine blk_drew ?_ | refine blk_alloc ?_ _)); refine blk_put (cs := #[.int .i64 ((rd_T35 l0 x54_3).f0), .string (⟨#[]⟩ : ByteArray), .int .i64 0, .int .i64 0]) ?_ 1 _ rfl; (with_reducible repeat (first | refine blk_drewN ?_ _ | refine blk_drew ?_ | refine blk_alloc ?_ _)); refine blk_put (cs := #[.int .i64 0, .string (⟨#[]⟩ : ByteArray), .int .i64 0, .int .i64 0]) ?_ 0 _ rfl; (with_reducible repeat (first | refine blk_drewN ?_ _ | refine blk_drew ?_ | refine blk_alloc ?_ _)); exact BK330.out) hb); have n3_ := Aside0.mk (below_step (by repeat (first | (with_reducible first | exact HB.out | apply below_alloc | apply pw_below_drewN | apply below_drew1 | refine below_set ?_ GE330.out) | exact HB.out)) hb); clear HO_9; clear BK330; clear HB; have HO_9 := n0_; have HO333 := n1_; have BK330 := n2_; have HB := n3_; clear n0_ n1_ n2_ n3_; clear hb ho39; obtain ⟨Ao40, co40, eo40⟩ := Kd.R_slice HO333.out; subst eo40) | ((with_reducible refine gate_callee (f := 19) rfl ?_); refine goesL_ (some 62) rfl rfl Tryd.func19 (by kernel_rfl) rfl #[.slice Ao40 y331.length co40] rfl (by (try simp only [List.map_toArray, List.map_cons, List.map_nil]); first | done | rfl | (simp only [List.length_drop, List.length_take]; rfl)) ?_; (with_reducible refine (lex_Text.calls _ _ y331 t334 t335 _ ?side1 ?side2 ?side3 A26.out).mono ?_); (case side1 => repeat (first | exact (Kd.R_reads' HO333.out).2.2 | (with_reducible refine Kd.C_alloc ?_ _) | (with_reducible refine Kd.C_drewN ?_ _) | (with_reducible refine Kd.C_drew ?_))); (case side2 => exact (Kd.R_reads' HO333.out).2.1); (case side3 => exact Laid.below hL (by repeat (first | (with_reducible first | exact HB.out | apply below_alloc | apply pw_below_drewN | apply below_drew1 | refine below_set ?_ GE330.out) | exact HB.out))); rintro e w41 ⟨rfl, hb⟩; refine ⟨_, rfl, ?_⟩; have n0_ := Aside0.mk (Kd.R_below (by (with_reducible repeat (first | apply Kd.R_alloc | apply Kd.R_drewN | apply Kd.R_drew)); exact HO_9.out) hb); have n1_ := Aside0.mk (Kd.R_below (by (with_reducible repeat (first | apply Kd.R_alloc | apply Kd.R_drewN | apply Kd.R_drew)); exact HO333.out) hb); have n2_ := Aside0.mk (blk_below (g := gb330) (o := .cells #[.int .i64 ((rd_T35 l0 x54_3).f0), .string ((rd_T35 l0 x54_3).f1), .int .i64 ((rd_T35 l0 x54_3).f2), .int .i64 ((rd_T35 l0 x54_3).f3)] 35 (0, 0)) (by (with_reducible repeat (first | refine blk_drewN ?_ _ | refine blk_drew ?_ | refine blk_alloc ?_ _)); exact BK330.out) hb); have n3_ := Aside0.mk (below_step (by repeat (first | (with_reducible first | exact HB.out | apply below_alloc | apply pw_below_drewN | apply below_drew1 | refine below_set ?_ GE330.out) | exact HB.out)) hb); clear HO_9; clear HO333; clear BK330; clear HB; have HO_9 := n0_; have HO333 := n1_; have BK330 := n2_; have HB := n3_; clear n0_ n1_ n2_ n3_; (try clear hb); (try clear hb2); (try clear hk); (try clear hi); have p336 : 0 ≤ (x54_3 : Int) := of_decide_eq_true (by first | (with_reducible assumption) | assumption); have q336 : x54_3 < (l1.length : Int) := of_decide_eq_true (by first | (with_reducible assumption) | assumption); obtain ⟨ad336, e336, hx336_0⟩ := Kd.at_int HR1.out x54_3 p336 q336; cases e336; replace hx336_0 := (HB.out.cell (World.block_lt_of_cell? w _ hx336_0)).trans hx336_0; replace p336 := eq_true p336; replace q336 := eq_true q336; obtain ⟨Ao42, co42, eo42⟩ := Kd.R_slice HO_9.out; subst eo42; have p337 : 0 ≤ ((ji30) : Int) := of_decide_eq_true (by first | (with_reducible assumption) | assumption); have q337 : (ji30) < (y320.length : Int) := of_decide_eq_true (by first | (with_reducible assumption) | assumption); obtain ⟨ad337, e337, hx337_0⟩ := Kd.at_string (Kd.R_reads' HO_9.out).2.2 (ji30) p337 q337; cases e337; replace p337 := eq_true p337; replace q337 := eq_true q337))
                                              go_roundg k3
                                              case measure => have := HJ5.out; have := HK2.out; have := HK3.out; omega
                                              case rel => exact ⟨(x10_3 ++ ((t334 ++ (⟨#[32]⟩ : ByteArray)) ++ (rdOf ByteArray.empty y320 (ji30)))), (wrap64 (x54_3 + 1)), (by first | rfl | (simp; done) | (simp only [← hji30] <;> (first | rfl | (simp; done))) | (simp [*]; done)), (by first | rfl | (simp; done) | (simp [*]; done)), H', ⟨by have := HJ5.out; have := HK2.out; have := HK3.out; omega⟩, ⟨by (with_reducible repeat (first | apply Kd.R_alloc | apply Kd.R_drewN | apply Kd.R_drew)); exact HO_9.out⟩, ⟨by repeat (first | (with_reducible first | exact HB.out | apply below_alloc | apply pw_below_drewN | apply below_drew1 | refine below_set ?_ GE330.out) | exact HB.out)⟩⟩
                                            · rw [if_neg c35] at H
                                              exact absurd H (by simp)
                                          · rw [if_neg c34] at H
                                            exact absurd H (by simp)
                                        · rw [if_neg c33] at H
                                          exact absurd H (by simp)
                                      · rw [if_neg c32] at H
                                        exact absurd H (by simp)
                                    · rw [if_neg c31] at H
                                      exact absurd H (by simp)
                                · rw [if_neg c28] at H
                                  have c28b0 : decide (x54_3 < (l1.length : Int)) = false := decide_eq_false c28
                                  clear c28
                                  by_cases c43 : t334.size + 1 ≤ 9223372036854775807
                                  · rw [if_pos c43] at H
                                    have c43b0 := eq_true c43
                                    have c43b1 : decide (t334.size + 1 ≤ 9223372036854775807) = true := decide_eq_true c43
                                    try have c43b2 : (9223372036854775807 < t334.size + 1) = False := eq_false (Nat.not_lt.2 c43)
                                    by_cases c44 : (t334 ++ (⟨#[32]⟩ : ByteArray)).size + 1 ≤ 9223372036854775807
                                    · rw [if_pos c44] at H
                                      have c44b0 := eq_true c44
                                      have c44b1 : decide ((t334 ++ (⟨#[32]⟩ : ByteArray)).size + 1 ≤ 9223372036854775807) = true := decide_eq_true c44
                                      try have c44b2 : (9223372036854775807 < (t334 ++ (⟨#[32]⟩ : ByteArray)).size + 1) = False := eq_false (Nat.not_lt.2 c44)
                                      try (have c44x := c44; simp only [ByteArray.size_append, show (⟨#[32]⟩ : ByteArray).size = 1 from rfl, show (⟨#[10]⟩ : ByteArray).size = 1 from rfl, show (⟨#[47, 47]⟩ : ByteArray).size = 2 from rfl] at c44x; have c44x0 := eq_true c44x; have c44x1 := decide_eq_true c44x; have c44x2 := eq_false (Nat.not_lt.2 c44x))
                                      by_cases c45 : x10_3.size + ((t334 ++ (⟨#[32]⟩ : ByteArray)) ++ (⟨#[32]⟩ : ByteArray)).size ≤ 9223372036854775807
                                      · rw [if_pos c45] at H
                                        have c45b0 := eq_true c45
                                        have c45b1 : decide (x10_3.size + ((t334 ++ (⟨#[32]⟩ : ByteArray)) ++ (⟨#[32]⟩ : ByteArray)).size ≤ 9223372036854775807) = true := decide_eq_true c45
                                        try have c45b2 : (9223372036854775807 < x10_3.size + ((t334 ++ (⟨#[32]⟩ : ByteArray)) ++ (⟨#[32]⟩ : ByteArray)).size) = False := eq_false (Nat.not_lt.2 c45)
                                        try (have c45x := c45; simp only [ByteArray.size_append, show (⟨#[32]⟩ : ByteArray).size = 1 from rfl, show (⟨#[10]⟩ : ByteArray).size = 1 from rfl, show (⟨#[47, 47]⟩ : ByteArray).size = 2 from rfl] at c45x; have c45x0 := eq_true c45x; have c45x1 := decide_eq_true c45x; have c45x2 := eq_false (Nat.not_lt.2 c45x))
                                        have H' := Aside0.mk H
                                        clear H
                                        have p329 : 0 ≤ (x54_3 : Int) := of_decide_eq_true (by first | (with_reducible assumption) | assumption)
                                        have q329 : x54_3 < (l0.length : Int) := of_decide_eq_true (by first | (with_reducible assumption) | assumption)
                                        obtain ⟨ad329, e329, hx329_0, hx329_1, hx329_2, hx329_3⟩ := at_T35 HR0.out x54_3 p329 q329
                                        cases e329
                                        replace hx329_0 := (HB.out.cell (World.block_lt_of_cell? w _ hx329_0)).trans hx329_0
                                        replace hx329_1 := (HB.out.cell (World.block_lt_of_cell? w _ hx329_1)).trans hx329_1
                                        replace hx329_2 := (HB.out.cell (World.block_lt_of_cell? w _ hx329_2)).trans hx329_2
                                        replace hx329_3 := (HB.out.cell (World.block_lt_of_cell? w _ hx329_3)).trans hx329_3
                                        replace p329 := eq_true p329
                                        replace q329 := eq_true q329
                                        go_wp2_with (first | ((with_reducible refine gate_dst (N := 12) rfl ?_); (try (refine gate_guard (by rfl) ?_; dsimp only)); refine box_event ?hg (N := 12) ?hd (cs := #[.int .i64 0, .string (⟨#[]⟩ : ByteArray), .int .i64 0, .int .i64 0]) (t := 35) ?hr ?_; (case hd => rfl); (case hg => rfl); (case hr => first | (go_simp; done) | (go_simp; rfl)); intro gb330 hg w46 hbox hb; have n0_ := Aside0.mk (Kd.R_below (by (with_reducible repeat (first | apply Kd.R_alloc | apply Kd.R_drewN | apply Kd.R_drew)); exact HO_9.out) hb); have n1_ := Aside0.mk (below_step (by repeat (first | (with_reducible first | exact HB.out | apply below_alloc | apply pw_below_drewN | apply below_drew1) | exact HB.out)) hb); have n2_ := Aside0.mk (hbox); have n3_ := Aside0.mk ((by rw [hg]; exact (below_size (by repeat (first | (with_reducible first | exact HB.out | apply below_alloc | apply pw_below_drewN | apply below_drew1) | exact HB.out))) : w.heap.size ≤ gb330)); have n4_ := Aside0.mk ((by rw [hg]; exact (below_size (by repeat (first | (with_reducible first | exact HB.out | apply below_alloc | apply pw_below_drewN | apply below_drew1) | exact HB.out))) : w.heap.size ≤ gb330)); clear HO_9; clear HB; have HO_9 := n0_; have HB := n1_; have BK330 := n2_; have GW330 := n3_; have GE330 := n4_; clear n0_ n1_ n2_ n3_ n4_; clear hb hbox hg; have hcz47_0 : w46.cell? ⟨gb330, 0, none⟩ = some (.int .i64 0) := (blk_cell BK330.out 0).trans rfl; have hcz47_1 : w46.cell? ⟨gb330, 1, none⟩ = some (.string (⟨#[]⟩ : ByteArray)) := (blk_cell BK330.out 1).trans rfl; have hcz47_2 : w46.cell? ⟨gb330, 2, none⟩ = some (.int .i64 0) := (blk_cell BK330.out 2).trans rfl; have hcz47_3 : w46.cell? ⟨gb330, 3, none⟩ = some (.int .i64 0) := (blk_cell BK330.out 3).trans rfl; have hfz47_0 := blk_frozen BK330.out 0; have hfz47_1 := blk_frozen BK330.out 1; have hfz47_2 := blk_frozen BK330.out 2; have hfz47_3 := blk_frozen BK330.out 3) | ((with_reducible refine gate_dst (N := 61) rfl ?_); (try (refine gate_guard (by rfl) ?_; dsimp only)); refine Kd.R_lit k35 _ 35 ?hg (N := 61) ?hd (xs := ([(⟨(rd_T35 l0 x54_3).f0, (rd_T35 l0 x54_3).f1, (rd_T35 l0 x54_3).f2, (rd_T35 l0 x54_3).f3⟩ : S35)] : List (S35))) (inner := [.int .i64 ((rd_T35 l0 x54_3).f0), .string ((rd_T35 l0 x54_3).f1), .int .i64 ((rd_T35 l0 x54_3).f2), .int .i64 ((rd_T35 l0 x54_3).f3)]) (ok := fun _ => True) (okp := fun _ => True) ?hr ?hp (fun _ hk => hk) trivial (Below.refl _ _) (Nat.le_refl _) (by simp) ?_; (case hd => rfl); (case hg => rfl); (case hr => first | (go_simp; done) | (go_simp; rfl)); (case hp => exact (Reps.c4 (show Kd.M k35 _ _ _ (⟨(rd_T35 l0 x54_3).f0, (rd_T35 l0 x54_3).f1, (rd_T35 l0 x54_3).f2, (rd_T35 l0 x54_3).f3⟩ : S35) [.int .i64 ((rd_T35 l0 x54_3).f0), .string ((rd_T35 l0 x54_3).f1), .int .i64 ((rd_T35 l0 x54_3).f2), .int .i64 ((rd_T35 l0 x54_3).f3)] from (k35_mkM _ _ _ (⟨(rd_T35 l0 x54_3).f0, (rd_T35 l0 x54_3).f1, (rd_T35 l0 x54_3).f2, (rd_T35 l0 x54_3).f3⟩ : S35) )) (Reps.none _ _))); intro v332 w48 ho49 hb hg_ hnew_; clear hg_ hnew_; (first | rw [← Ny331.out] at ho49 | (simp only [Int.reduceToNat] at ho49; rw [← Ny331.out] at ho49)); have n0_ := Aside0.mk (Kd.R_below (by (with_reducible repeat (first | apply Kd.R_alloc | apply Kd.R_drewN | apply Kd.R_drew)); exact (Kd.R_mono (Kd.R_far (p := ⟨gb330, 3, none⟩) (Kd.R_far (p := ⟨gb330, 2, none⟩) (Kd.R_far (p := ⟨gb330, 1, none⟩) (Kd.R_far (p := ⟨gb330, 0, none⟩) (Kd.R_types HO_9.out BK330.out (by decide)) (fun _ hk => hk.2) (.int .i64 ((rd_T35 l0 x54_3).f0))) (fun _ hk => hk.2) (.string ((rd_T35 l0 x54_3).f1))) (fun _ hk => hk.2) (.int .i64 ((rd_T35 l0 x54_3).f2))) (fun _ hk => hk.2) (.int .i64 ((rd_T35 l0 x54_3).f3))) (fun _ h_ => h_.1))) hb); have n1_ := Aside0.mk (Kd.R_lower (Kd.R_newB ho49 (g := gb330) (o := .cells #[.int .i64 ((rd_T35 l0 x54_3).f0), .string ((rd_T35 l0 x54_3).f1), .int .i64 ((rd_T35 l0 x54_3).f2), .int .i64 ((rd_T35 l0 x54_3).f3)] 35 (0, 0)) (by (with_reducible repeat (first | refine blk_drewN ?_ _ | refine blk_drew ?_ | refine blk_alloc ?_ _)); refine blk_put (cs := #[.int .i64 ((rd_T35 l0 x54_3).f0), .string ((rd_T35 l0 x54_3).f1), .int .i64 ((rd_T35 l0 x54_3).f2), .int .i64 0]) ?_ 3 _ rfl; (with_reducible repeat (first | refine blk_drewN ?_ _ | refine blk_drew ?_ | refine blk_alloc ?_ _)); refine blk_put (cs := #[.int .i64 ((rd_T35 l0 x54_3).f0), .string ((rd_T35 l0 x54_3).f1), .int .i64 0, .int .i64 0]) ?_ 2 _ rfl; (with_reducible repeat (first | refine blk_drewN ?_ _ | refine blk_drew ?_ | refine blk_alloc ?_ _)); refine blk_put (cs := #[.int .i64 ((rd_T35 l0 x54_3).f0), .string (⟨#[]⟩ : ByteArray), .int .i64 0, .int .i64 0]) ?_ 1 _ rfl; (with_reducible repeat (first | refine blk_drewN ?_ _ | refine blk_drew ?_ | refine blk_alloc ?_ _)); refine blk_put (cs := #[.int .i64 0, .string (⟨#[]⟩ : ByteArray), .int .i64 0, .int .i64 0]) ?_ 0 _ rfl; (with_reducible repeat (first | refine blk_drewN ?_ _ | refine blk_drew ?_ | refine blk_alloc ?_ _)); exact BK330.out)) (below_size (by repeat (first | (with_reducible first | exact HB.out | apply below_alloc | apply pw_below_drewN | apply below_drew1 | refine below_set ?_ GE330.out) | exact HB.out)))); have n2_ := Aside0.mk (blk_below (g := gb330) (o := .cells #[.int .i64 ((rd_T35 l0 x54_3).f0), .string ((rd_T35 l0 x54_3).f1), .int .i64 ((rd_T35 l0 x54_3).f2), .int .i64 ((rd_T35 l0 x54_3).f3)] 35 (0, 0)) (by (with_reducible repeat (first | refine blk_drewN ?_ _ | refine blk_drew ?_ | refine blk_alloc ?_ _)); refine blk_put (cs := #[.int .i64 ((rd_T35 l0 x54_3).f0), .string ((rd_T35 l0 x54_3).f1), .int .i64 ((rd_T35 l0 x54_3).f2), .int .i64 0]) ?_ 3 _ rfl; (with_reducible repeat (first | refine blk_drewN ?_ _ | refine blk_drew ?_ | refine blk_alloc ?_ _)); refine blk_put (cs := #[.int .i64 ((rd_T35 l0 x54_3).f0), .string ((rd_T35 l0 x54_3).f1), .int .i64 0, .int .i64 0]) ?_ 2 _ rfl; (with_reducible repeat (first | refine blk_drewN ?_ _ | refine blk_drew ?_ | refine blk_alloc ?_ _)); refine blk_put (cs := #[.int .i64 ((rd_T35 l0 x54_3).f0), .string (⟨#[]⟩ : ByteArray), .int .i64 0, .int .i64 0]) ?_ 1 _ rfl; (with_reducible repeat (first | refine blk_drewN ?_ _ | refine blk_drew ?_ | refine blk_alloc ?_ _)); refine blk_put (cs := #[.int .i64 0, .string (⟨#[]⟩ : ByteArray), .int .i64 0, .int .i64 0]) ?_ 0 _ rfl; (with_reducible repeat (first | refine blk_drewN ?_ _ | refine blk_drew ?_ | refine blk_alloc ?_ _)); exact BK330.out) hb); have n3_ := Aside0.mk (below_step (by repeat (first | (with_reducible first | exact HB.out | apply below_alloc | apply pw_below_drewN | apply below_drew1 | refine below_set ?_ GE330.out) | exact HB.out)) hb); clear HO_9; clear BK330; clear HB; have HO_9 := n0_; have HO333 := n1_; have BK330 := n2_; have HB := n3_; clear n0_ n1_ n2_ n3_; clear hb ho49; obtain ⟨Ao50, co50, eo50⟩ := Kd.R_slice HO333.out; subst eo50) | ((with_reducible refine gate_callee (f := 19) rfl ?_); refine goesL_ (some 62) rfl rfl Tryd.func19 (by kernel_rfl) rfl #[.slice Ao50 y331.length co50] rfl (by (try simp only [List.map_toArray, List.map_cons, List.map_nil]); first | done | rfl | (simp only [List.length_drop, List.length_take]; rfl)) ?_; (with_reducible refine (lex_Text.calls _ _ y331 t334 t335 _ ?side1 ?side2 ?side3 A26.out).mono ?_); (case side1 => repeat (first | exact (Kd.R_reads' HO333.out).2.2 | (with_reducible refine Kd.C_alloc ?_ _) | (with_reducible refine Kd.C_drewN ?_ _) | (with_reducible refine Kd.C_drew ?_))); (case side2 => exact (Kd.R_reads' HO333.out).2.1); (case side3 => exact Laid.below hL (by repeat (first | (with_reducible first | exact HB.out | apply below_alloc | apply pw_below_drewN | apply below_drew1 | refine below_set ?_ GE330.out) | exact HB.out))); rintro e w51 ⟨rfl, hb⟩; refine ⟨_, rfl, ?_⟩; have n0_ := Aside0.mk (Kd.R_below (by (with_reducible repeat (first | apply Kd.R_alloc | apply Kd.R_drewN | apply Kd.R_drew)); exact HO_9.out) hb); have n1_ := Aside0.mk (Kd.R_below (by (with_reducible repeat (first | apply Kd.R_alloc | apply Kd.R_drewN | apply Kd.R_drew)); exact HO333.out) hb); have n2_ := Aside0.mk (blk_below (g := gb330) (o := .cells #[.int .i64 ((rd_T35 l0 x54_3).f0), .string ((rd_T35 l0 x54_3).f1), .int .i64 ((rd_T35 l0 x54_3).f2), .int .i64 ((rd_T35 l0 x54_3).f3)] 35 (0, 0)) (by (with_reducible repeat (first | refine blk_drewN ?_ _ | refine blk_drew ?_ | refine blk_alloc ?_ _)); exact BK330.out) hb); have n3_ := Aside0.mk (below_step (by repeat (first | (with_reducible first | exact HB.out | apply below_alloc | apply pw_below_drewN | apply below_drew1 | refine below_set ?_ GE330.out) | exact HB.out)) hb); clear HO_9; clear HO333; clear BK330; clear HB; have HO_9 := n0_; have HO333 := n1_; have BK330 := n2_; have HB := n3_; clear n0_ n1_ n2_ n3_; (try clear hb); (try clear hb2); (try clear hk); (try clear hi)))
                                        go_roundg k3
                                        case measure => have := HJ5.out; have := HK2.out; have := HK3.out; omega
                                        case rel => exact ⟨(x10_3 ++ ((t334 ++ (⟨#[32]⟩ : ByteArray)) ++ (⟨#[32]⟩ : ByteArray))), (wrap64 (x54_3 + 1)), (by first | rfl | (simp; done) | (simp [*]; done)), (by first | rfl | (simp; done) | (simp [*]; done)), H', ⟨by have := HJ5.out; have := HK2.out; have := HK3.out; omega⟩, ⟨by (with_reducible repeat (first | apply Kd.R_alloc | apply Kd.R_drewN | apply Kd.R_drew)); exact HO_9.out⟩, ⟨by repeat (first | (with_reducible first | exact HB.out | apply below_alloc | apply pw_below_drewN | apply below_drew1 | refine below_set ?_ GE330.out) | exact HB.out)⟩⟩
                                      · rw [if_neg c45] at H
                                        exact absurd H (by simp)
                                    · rw [if_neg c44] at H
                                      exact absurd H (by simp)
                                  · rw [if_neg c43] at H
                                    exact absurd H (by simp)
                              · rw [if_neg c27] at H
                                have c27b0 : (t335 == 0) = false := beq_eq_false_iff_ne.mpr c27
                                have c27b1 : (t335 != 0) = true := bne_iff_ne.mpr c27
                                replace H := Option.bind_eq_some_iff.mp H
                                obtain ⟨⟨t338, t339⟩, A520, H⟩ := H
                                replace H : (some (t339 == 90)) = some r := H
                                have A52 := Aside0.mk A520
                                clear A520
                                obtain rfl := Option.some.inj H
                                have p329 : 0 ≤ (x54_3 : Int) := of_decide_eq_true (by first | (with_reducible assumption) | assumption)
                                have q329 : x54_3 < (l0.length : Int) := of_decide_eq_true (by first | (with_reducible assumption) | assumption)
                                obtain ⟨ad329, e329, hx329_0, hx329_1, hx329_2, hx329_3⟩ := at_T35 HR0.out x54_3 p329 q329
                                cases e329
                                replace hx329_0 := (HB.out.cell (World.block_lt_of_cell? w _ hx329_0)).trans hx329_0
                                replace hx329_1 := (HB.out.cell (World.block_lt_of_cell? w _ hx329_1)).trans hx329_1
                                replace hx329_2 := (HB.out.cell (World.block_lt_of_cell? w _ hx329_2)).trans hx329_2
                                replace hx329_3 := (HB.out.cell (World.block_lt_of_cell? w _ hx329_3)).trans hx329_3
                                replace p329 := eq_true p329
                                replace q329 := eq_true q329
                                go_wp2_with (first | ((with_reducible refine gate_dst (N := 12) rfl ?_); (try (refine gate_guard (by rfl) ?_; dsimp only)); refine box_event ?hg (N := 12) ?hd (cs := #[.int .i64 0, .string (⟨#[]⟩ : ByteArray), .int .i64 0, .int .i64 0]) (t := 35) ?hr ?_; (case hd => rfl); (case hg => rfl); (case hr => first | (go_simp; done) | (go_simp; rfl)); intro gb330 hg w53 hbox hb; have n0_ := Aside0.mk (Kd.R_below (by (with_reducible repeat (first | apply Kd.R_alloc | apply Kd.R_drewN | apply Kd.R_drew)); exact HO_9.out) hb); have n1_ := Aside0.mk (below_step (by repeat (first | (with_reducible first | exact HB.out | apply below_alloc | apply pw_below_drewN | apply below_drew1) | exact HB.out)) hb); have n2_ := Aside0.mk (hbox); have n3_ := Aside0.mk ((by rw [hg]; exact (below_size (by repeat (first | (with_reducible first | exact HB.out | apply below_alloc | apply pw_below_drewN | apply below_drew1) | exact HB.out))) : w.heap.size ≤ gb330)); have n4_ := Aside0.mk ((by rw [hg]; exact (below_size (by repeat (first | (with_reducible first | exact HB.out | apply below_alloc | apply pw_below_drewN | apply below_drew1) | exact HB.out))) : w.heap.size ≤ gb330)); clear HO_9; clear HB; have HO_9 := n0_; have HB := n1_; have BK330 := n2_; have GW330 := n3_; have GE330 := n4_; clear n0_ n1_ n2_ n3_ n4_; clear hb hbox hg; have hcz54_0 : w53.cell? ⟨gb330, 0, none⟩ = some (.int .i64 0) := (blk_cell BK330.out 0).trans rfl; have hcz54_1 : w53.cell? ⟨gb330, 1, none⟩ = some (.string (⟨#[]⟩ : ByteArray)) := (blk_cell BK330.out 1).trans rfl; have hcz54_2 : w53.cell? ⟨gb330, 2, none⟩ = some (.int .i64 0) := (blk_cell BK330.out 2).trans rfl; have hcz54_3 : w53.cell? ⟨gb330, 3, none⟩ = some (.int .i64 0) := (blk_cell BK330.out 3).trans rfl; have hfz54_0 := blk_frozen BK330.out 0; have hfz54_1 := blk_frozen BK330.out 1; have hfz54_2 := blk_frozen BK330.out 2; have hfz54_3 := blk_frozen BK330.out 3) | ((with_reducible refine gate_dst (N := 61) rfl ?_); (try (refine gate_guard (by rfl) ?_; dsimp only)); refine Kd.R_lit k35 _ 35 ?hg (N := 61) ?hd (xs := ([(⟨(rd_T35 l0 x54_3).f0, (rd_T35 l0 x54_3).f1, (rd_T35 l0 x54_3).f2, (rd_T35 l0 x54_3).f3⟩ : S35)] : List (S35))) (inner := [.int .i64 ((rd_T35 l0 x54_3).f0), .string ((rd_T35 l0 x54_3).f1), .int .i64 ((rd_T35 l0 x54_3).f2), .int .i64 ((rd_T35 l0 x54_3).f3)]) (ok := fun _ => True) (okp := fun _ => True) ?hr ?hp (fun _ hk => hk) trivial (Below.refl _ _) (Nat.le_refl _) (by simp) ?_; (case hd => rfl); (case hg => rfl); (case hr => first | (go_simp; done) | (go_simp; rfl)); (case hp => exact (Reps.c4 (show Kd.M k35 _ _ _ (⟨(rd_T35 l0 x54_3).f0, (rd_T35 l0 x54_3).f1, (rd_T35 l0 x54_3).f2, (rd_T35 l0 x54_3).f3⟩ : S35) [.int .i64 ((rd_T35 l0 x54_3).f0), .string ((rd_T35 l0 x54_3).f1), .int .i64 ((rd_T35 l0 x54_3).f2), .int .i64 ((rd_T35 l0 x54_3).f3)] from (k35_mkM _ _ _ (⟨(rd_T35 l0 x54_3).f0, (rd_T35 l0 x54_3).f1, (rd_T35 l0 x54_3).f2, (rd_T35 l0 x54_3).f3⟩ : S35) )) (Reps.none _ _))); intro v332 w55 ho56 hb hg_ hnew_; clear hg_ hnew_; (first | rw [← Ny331.out] at ho56 | (simp only [Int.reduceToNat] at ho56; rw [← Ny331.out] at ho56)); have n0_ := Aside0.mk (Kd.R_below (by (with_reducible repeat (first | apply Kd.R_alloc | apply Kd.R_drewN | apply Kd.R_drew)); exact (Kd.R_mono (Kd.R_far (p := ⟨gb330, 3, none⟩) (Kd.R_far (p := ⟨gb330, 2, none⟩) (Kd.R_far (p := ⟨gb330, 1, none⟩) (Kd.R_far (p := ⟨gb330, 0, none⟩) (Kd.R_types HO_9.out BK330.out (by decide)) (fun _ hk => hk.2) (.int .i64 ((rd_T35 l0 x54_3).f0))) (fun _ hk => hk.2) (.string ((rd_T35 l0 x54_3).f1))) (fun _ hk => hk.2) (.int .i64 ((rd_T35 l0 x54_3).f2))) (fun _ hk => hk.2) (.int .i64 ((rd_T35 l0 x54_3).f3))) (fun _ h_ => h_.1))) hb); have n1_ := Aside0.mk (Kd.R_lower (Kd.R_newB ho56 (g := gb330) (o := .cells #[.int .i64 ((rd_T35 l0 x54_3).f0), .string ((rd_T35 l0 x54_3).f1), .int .i64 ((rd_T35 l0 x54_3).f2), .int .i64 ((rd_T35 l0 x54_3).f3)] 35 (0, 0)) (by (with_reducible repeat (first | refine blk_drewN ?_ _ | refine blk_drew ?_ | refine blk_alloc ?_ _)); refine blk_put (cs := #[.int .i64 ((rd_T35 l0 x54_3).f0), .string ((rd_T35 l0 x54_3).f1), .int .i64 ((rd_T35 l0 x54_3).f2), .int .i64 0]) ?_ 3 _ rfl; (with_reducible repeat (first | refine blk_drewN ?_ _ | refine blk_drew ?_ | refine blk_alloc ?_ _)); refine blk_put (cs := #[.int .i64 ((rd_T35 l0 x54_3).f0), .string ((rd_T35 l0 x54_3).f1), .int .i64 0, .int .i64 0]) ?_ 2 _ rfl; (with_reducible repeat (first | refine blk_drewN ?_ _ | refine blk_drew ?_ | refine blk_alloc ?_ _)); refine blk_put (cs := #[.int .i64 ((rd_T35 l0 x54_3).f0), .string (⟨#[]⟩ : ByteArray), .int .i64 0, .int .i64 0]) ?_ 1 _ rfl; (with_reducible repeat (first | refine blk_drewN ?_ _ | refine blk_drew ?_ | refine blk_alloc ?_ _)); refine blk_put (cs := #[.int .i64 0, .string (⟨#[]⟩ : ByteArray), .int .i64 0, .int .i64 0]) ?_ 0 _ rfl; (with_reducible repeat (first | refine blk_drewN ?_ _ | refine blk_drew ?_ | refine blk_alloc ?_ _)); exact BK330.out)) (below_size (by repeat (first | (with_reducible first | exact HB.out | apply below_alloc | apply pw_below_drewN | apply below_drew1 | refine below_set ?_ GE330.out) | exact HB.out)))); have n2_ := Aside0.mk (blk_below (g := gb330) (o := .cells #[.int .i64 ((rd_T35 l0 x54_3).f0), .string ((rd_T35 l0 x54_3).f1), .int .i64 ((rd_T35 l0 x54_3).f2), .int .i64 ((rd_T35 l0 x54_3).f3)] 35 (0, 0)) (by (with_reducible repeat (first | refine blk_drewN ?_ _ | refine blk_drew ?_ | refine blk_alloc ?_ _)); refine blk_put (cs := #[.int .i64 ((rd_T35 l0 x54_3).f0), .string ((rd_T35 l0 x54_3).f1), .int .i64 ((rd_T35 l0 x54_3).f2), .int .i64 0]) ?_ 3 _ rfl; (with_reducible repeat (first | refine blk_drewN ?_ _ | refine blk_drew ?_ | refine blk_alloc ?_ _)); refine blk_put (cs := #[.int .i64 ((rd_T35 l0 x54_3).f0), .string ((rd_T35 l0 x54_3).f1), .int .i64 0, .int .i64 0]) ?_ 2 _ rfl; (with_reducible repeat (first | refine blk_drewN ?_ _ | refine blk_drew ?_ | refine blk_alloc ?_ _)); refine blk_put (cs := #[.int .i64 ((rd_T35 l0 x54_3).f0), .string (⟨#[]⟩ : ByteArray), .int .i64 0, .int .i64 0]) ?_ 1 _ rfl; (with_reducible repeat (first | refine blk_drewN ?_ _ | refine blk_drew ?_ | refine blk_alloc ?_ _)); refine blk_put (cs := #[.int .i64 0, .string (⟨#[]⟩ : ByteArray), .int .i64 0, .int .i64 0]) ?_ 0 _ rfl; (with_reducible repeat (first | refine blk_drewN ?_ _ | refine blk_drew ?_ | refine blk_alloc ?_ _)); exact BK330.out) hb); have n3_ := Aside0.mk (below_step (by repeat (first | (with_reducible first | exact HB.out | apply below_alloc | apply pw_below_drewN | apply below_drew1 | refine below_set ?_ GE330.out) | exact HB.out)) hb); clear HO_9; clear BK330; clear HB; have HO_9 := n0_; have HO333 := n1_; have BK330 := n2_; have HB := n3_; clear n0_ n1_ n2_ n3_; clear hb ho56; obtain ⟨Ao57, co57, eo57⟩ := Kd.R_slice HO333.out; subst eo57) | ((with_reducible refine gate_callee (f := 19) rfl ?_); refine goesL_ (some 62) rfl rfl Tryd.func19 (by kernel_rfl) rfl #[.slice Ao57 y331.length co57] rfl (by (try simp only [List.map_toArray, List.map_cons, List.map_nil]); first | done | rfl | (simp only [List.length_drop, List.length_take]; rfl)) ?_; (with_reducible refine (lex_Text.calls _ _ y331 t334 t335 _ ?side1 ?side2 ?side3 A26.out).mono ?_); (case side1 => repeat (first | exact (Kd.R_reads' HO333.out).2.2 | (with_reducible refine Kd.C_alloc ?_ _) | (with_reducible refine Kd.C_drewN ?_ _) | (with_reducible refine Kd.C_drew ?_))); (case side2 => exact (Kd.R_reads' HO333.out).2.1); (case side3 => exact Laid.below hL (by repeat (first | (with_reducible first | exact HB.out | apply below_alloc | apply pw_below_drewN | apply below_drew1 | refine below_set ?_ GE330.out) | exact HB.out))); rintro e w58 ⟨rfl, hb⟩; refine ⟨_, rfl, ?_⟩; have n0_ := Aside0.mk (Kd.R_below (by (with_reducible repeat (first | apply Kd.R_alloc | apply Kd.R_drewN | apply Kd.R_drew)); exact HO_9.out) hb); have n1_ := Aside0.mk (Kd.R_below (by (with_reducible repeat (first | apply Kd.R_alloc | apply Kd.R_drewN | apply Kd.R_drew)); exact HO333.out) hb); have n2_ := Aside0.mk (blk_below (g := gb330) (o := .cells #[.int .i64 ((rd_T35 l0 x54_3).f0), .string ((rd_T35 l0 x54_3).f1), .int .i64 ((rd_T35 l0 x54_3).f2), .int .i64 ((rd_T35 l0 x54_3).f3)] 35 (0, 0)) (by (with_reducible repeat (first | refine blk_drewN ?_ _ | refine blk_drew ?_ | refine blk_alloc ?_ _)); exact BK330.out) hb); have n3_ := Aside0.mk (below_step (by repeat (first | (with_reducible first | exact HB.out | apply below_alloc | apply pw_below_drewN | apply below_drew1 | refine below_set ?_ GE330.out) | exact HB.out)) hb); clear HO_9; clear HO333; clear BK330; clear HB; have HO_9 := n0_; have HO333 := n1_; have BK330 := n2_; have HB := n3_; clear n0_ n1_ n2_ n3_; (try clear hb); (try clear hb2); (try clear hk); (try clear hi)) | ((with_reducible refine gate_callee (f := 19) rfl ?_); refine goesL_ (some 69) rfl rfl Tryd.func19 (by kernel_rfl) rfl #[.slice (some ad329) l0.length c0] rfl (by (try simp only [List.map_toArray, List.map_cons, List.map_nil]); first | done | rfl | (simp only [List.length_drop, List.length_take]; rfl)) ?_; (with_reducible refine (lex_Text.calls _ _ l0 t338 t339 _ ?side1 ?side2 ?side3 A52.out).mono ?_); (case side1 => repeat (first | exact (Kd.C_below HR0.out HB.out) | (with_reducible refine Kd.C_alloc ?_ _) | (with_reducible refine Kd.C_drewN ?_ _) | (with_reducible refine Kd.C_drew ?_))); (case side2 => exact HC0.out); (case side3 => exact Laid.below hL (by repeat (first | (with_reducible first | exact HB.out | apply below_alloc | apply pw_below_drewN | apply below_drew1 | refine below_set ?_ GE330.out) | exact HB.out))); rintro e w59 ⟨rfl, hb⟩; refine ⟨_, rfl, ?_⟩; have n0_ := Aside0.mk (Kd.R_below (by (with_reducible repeat (first | apply Kd.R_alloc | apply Kd.R_drewN | apply Kd.R_drew)); exact HO_9.out) hb); have n1_ := Aside0.mk (Kd.R_below (by (with_reducible repeat (first | apply Kd.R_alloc | apply Kd.R_drewN | apply Kd.R_drew)); exact HO333.out) hb); have n2_ := Aside0.mk (blk_below (g := gb330) (o := .cells #[.int .i64 ((rd_T35 l0 x54_3).f0), .string ((rd_T35 l0 x54_3).f1), .int .i64 ((rd_T35 l0 x54_3).f2), .int .i64 ((rd_T35 l0 x54_3).f3)] 35 (0, 0)) (by (with_reducible repeat (first | refine blk_drewN ?_ _ | refine blk_drew ?_ | refine blk_alloc ?_ _)); exact BK330.out) hb); have n3_ := Aside0.mk (below_step (by repeat (first | (with_reducible first | exact HB.out | apply below_alloc | apply pw_below_drewN | apply below_drew1 | refine below_set ?_ GE330.out) | exact HB.out)) hb); clear HO_9; clear HO333; clear BK330; clear HB; have HO_9 := n0_; have HO333 := n1_; have BK330 := n2_; have HB := n3_; clear n0_ n1_ n2_ n3_; (try clear hb); (try clear hb2); (try clear hk); (try clear hi)))
                                go_ret
                                exact ⟨by first | rfl | (simp [errW_none, errW_some] <;> rfl) | (simp [*, errW_none, errW_some] <;> rfl), by repeat (first | (with_reducible first | exact HB.out | apply below_alloc | apply pw_below_drewN | apply below_drew1 | refine below_set ?_ GE330.out) | exact HB.out)⟩
                            · rw [if_neg c25] at H
                              exact absurd H (by simp)
                          · rw [if_neg c24] at H
                            exact absurd H (by simp)
                        · rw [if_neg c23] at H
                          have c23b0 : decide (x54_3 < (l0.length : Int)) = false := decide_eq_false c23
                          clear c23
                          replace H := Option.bind_eq_some_iff.mp H
                          obtain ⟨⟨t323, t324, t325⟩, A600, H⟩ := H
                          replace H : (if t325 = 0 then (if t324 = 0 then ((lex_Same.f l0 t323).bind fun t328 => (some t328)) else (some false)) else (some false)) = some r := H
                          have A60 := Aside0.mk A600
                          clear A600
                          by_cases c61 : t325 = 0
                          · rw [if_pos c61] at H
                            have c61b0 : (t325 == 0) = true := beq_iff_eq.mpr c61
                            have c61b1 : (t325 != 0) = false := bne_eq_false_iff_eq.mpr c61
                            clear c61
                            by_cases c62 : t324 = 0
                            · rw [if_pos c62] at H
                              have c62b0 : (t324 == 0) = true := beq_iff_eq.mpr c62
                              have c62b1 : (t324 != 0) = false := bne_eq_false_iff_eq.mpr c62
                              clear c62
                              replace H := Option.bind_eq_some_iff.mp H
                              obtain ⟨t328, A630, H⟩ := H
                              replace H : (some t328) = some r := H
                              have A63 := Aside0.mk A630
                              clear A630
                              obtain rfl := Option.some.inj H
                              go_wp2_with (first | ((with_reducible refine gate_callee (f := 15) rfl ?_); refine goesL_ (some 98) rfl rfl Tryd.func15 (by kernel_rfl) rfl #[.string x10_3] rfl (by (try simp only [List.map_toArray, List.map_cons, List.map_nil]); first | done | rfl | (simp only [List.length_drop, List.length_take]; rfl)) ?_; (with_reducible refine (lex_Lex.calls x10_3 t323 t324 t325 _ ?side1 A60.out).mono ?_); (case side1 => exact Laid.below hL (by repeat (first | (with_reducible first | exact HB.out | apply below_alloc | apply pw_below_drewN | apply below_drew1) | exact HB.out))); rintro e w64 ⟨v326, rfl, ho0, hb⟩; refine ⟨_, rfl, ?_⟩; have n0_ := Aside0.mk (Kd.R_below (by (with_reducible repeat (first | apply Kd.R_alloc | apply Kd.R_drewN | apply Kd.R_drew)); exact HO_9.out) hb); have n1_ := Aside0.mk (Kd.R_lower ho0 (below_size (by repeat (first | (with_reducible first | exact HB.out | apply below_alloc | apply pw_below_drewN | apply below_drew1) | exact HB.out)))); have n2_ := Aside0.mk (below_step (by repeat (first | (with_reducible first | exact HB.out | apply below_alloc | apply pw_below_drewN | apply below_drew1) | exact HB.out)) hb); clear HO_9; clear HB; have HO_9 := n0_; have HO327 := n1_; have HB := n2_; clear n0_ n1_ n2_; (try clear hb); (try clear hb2); (try clear hk); (try clear hi); (try clear ho0); obtain ⟨Ao65, co65, eo65⟩ := Kd.R_slice HO327.out; subst eo65) | (go_at_call 21; (with_reducible refine (lex_Same.calls _ _ l0 _ _ t323 t328 _ ?side1 ?side2 ?side3 ?side4 A63.out).mono ?_); (case side1 => repeat (first | exact (Kd.C_below HR0.out HB.out) | (with_reducible refine Kd.C_alloc ?_ _) | (with_reducible refine Kd.C_drewN ?_ _) | (with_reducible refine Kd.C_drew ?_))); (case side2 => exact HC0.out); (case side3 => repeat (first | exact (Kd.R_reads' HO327.out).2.2 | (with_reducible refine Kd.C_alloc ?_ _) | (with_reducible refine Kd.C_drewN ?_ _) | (with_reducible refine Kd.C_drew ?_))); (case side4 => exact (Kd.R_reads' HO327.out).2.1); rintro e w66 ⟨rfl, hb⟩; have n0_ := Aside0.mk (Kd.R_below (by (with_reducible repeat (first | apply Kd.R_alloc | apply Kd.R_drewN | apply Kd.R_drew)); exact HO_9.out) hb); have n1_ := Aside0.mk (Kd.R_below (by (with_reducible repeat (first | apply Kd.R_alloc | apply Kd.R_drewN | apply Kd.R_drew)); exact HO327.out) hb); have n2_ := Aside0.mk (below_step (by repeat (first | (with_reducible first | exact HB.out | apply below_alloc | apply pw_below_drewN | apply below_drew1) | exact HB.out)) hb); clear HO_9; clear HO327; clear HB; have HO_9 := n0_; have HO327 := n1_; have HB := n2_; clear n0_ n1_ n2_; (try clear hb); (try clear hb2); (try clear hk); (try clear hi)))
                              go_ret
                              exact ⟨by first | rfl | (simp [errW_none, errW_some] <;> rfl) | (simp [*, errW_none, errW_some] <;> rfl), by repeat (first | (with_reducible first | exact HB.out | apply below_alloc | apply pw_below_drewN | apply below_drew1) | exact HB.out)⟩
                            · rw [if_neg c62] at H
                              have c62b0 : (t324 == 0) = false := beq_eq_false_iff_ne.mpr c62
                              have c62b1 : (t324 != 0) = true := bne_iff_ne.mpr c62
                              obtain rfl := Option.some.inj H
                              go_wp2_with (first | ((with_reducible refine gate_callee (f := 15) rfl ?_); refine goesL_ (some 98) rfl rfl Tryd.func15 (by kernel_rfl) rfl #[.string x10_3] rfl (by (try simp only [List.map_toArray, List.map_cons, List.map_nil]); first | done | rfl | (simp only [List.length_drop, List.length_take]; rfl)) ?_; (with_reducible refine (lex_Lex.calls x10_3 t323 t324 t325 _ ?side1 A60.out).mono ?_); (case side1 => exact Laid.below hL (by repeat (first | (with_reducible first | exact HB.out | apply below_alloc | apply pw_below_drewN | apply below_drew1) | exact HB.out))); rintro e w67 ⟨v326, rfl, ho0, hb⟩; refine ⟨_, rfl, ?_⟩; have n0_ := Aside0.mk (Kd.R_below (by (with_reducible repeat (first | apply Kd.R_alloc | apply Kd.R_drewN | apply Kd.R_drew)); exact HO_9.out) hb); have n1_ := Aside0.mk (Kd.R_lower ho0 (below_size (by repeat (first | (with_reducible first | exact HB.out | apply below_alloc | apply pw_below_drewN | apply below_drew1) | exact HB.out)))); have n2_ := Aside0.mk (below_step (by repeat (first | (with_reducible first | exact HB.out | apply below_alloc | apply pw_below_drewN | apply below_drew1) | exact HB.out)) hb); clear HO_9; clear HB; have HO_9 := n0_; have HO327 := n1_; have HB := n2_; clear n0_ n1_ n2_; (try clear hb); (try clear hb2); (try clear hk); (try clear hi); (try clear ho0)))
                              go_ret
                              exact ⟨by first | rfl | (simp [errW_none, errW_some] <;> rfl) | (simp [*, errW_none, errW_some] <;> rfl), by repeat (first | (with_reducible first | exact HB.out | apply below_alloc | apply pw_below_drewN | apply below_drew1) | exact HB.out)⟩
                          · rw [if_neg c61] at H
                            have c61b0 : (t325 == 0) = false := beq_eq_false_iff_ne.mpr c61
                            have c61b1 : (t325 != 0) = true := bne_iff_ne.mpr c61
                            obtain rfl := Option.some.inj H
                            go_wp2_with (first | ((with_reducible refine gate_callee (f := 15) rfl ?_); refine goesL_ (some 98) rfl rfl Tryd.func15 (by kernel_rfl) rfl #[.string x10_3] rfl (by (try simp only [List.map_toArray, List.map_cons, List.map_nil]); first | done | rfl | (simp only [List.length_drop, List.length_take]; rfl)) ?_; (with_reducible refine (lex_Lex.calls x10_3 t323 t324 t325 _ ?side1 A60.out).mono ?_); (case side1 => exact Laid.below hL (by repeat (first | (with_reducible first | exact HB.out | apply below_alloc | apply pw_below_drewN | apply below_drew1) | exact HB.out))); rintro e w68 ⟨v326, rfl, ho0, hb⟩; refine ⟨_, rfl, ?_⟩; have n0_ := Aside0.mk (Kd.R_below (by (with_reducible repeat (first | apply Kd.R_alloc | apply Kd.R_drewN | apply Kd.R_drew)); exact HO_9.out) hb); have n1_ := Aside0.mk (Kd.R_lower ho0 (below_size (by repeat (first | (with_reducible first | exact HB.out | apply below_alloc | apply pw_below_drewN | apply below_drew1) | exact HB.out)))); have n2_ := Aside0.mk (below_step (by repeat (first | (with_reducible first | exact HB.out | apply below_alloc | apply pw_below_drewN | apply below_drew1) | exact HB.out)) hb); clear HO_9; clear HB; have HO_9 := n0_; have HO327 := n1_; have HB := n2_; clear n0_ n1_ n2_; (try clear hb); (try clear hb2); (try clear hk); (try clear hi); (try clear ho0)))
                            go_ret
                            exact ⟨by first | rfl | (simp [errW_none, errW_some] <;> rfl) | (simp [*, errW_none, errW_some] <;> rfl), by repeat (first | (with_reducible first | exact HB.out | apply below_alloc | apply pw_below_drewN | apply below_drew1) | exact HB.out)⟩
                  · rw [if_neg c20] at H
                    exact absurd H (by simp)
                · rw [if_neg c19] at H
                  exact absurd H (by simp)
  · replace c5 := Bool.eq_false_iff.mpr c5
    subst c5
    have H1 : (some false) = some r := by rw [if_neg (show ¬ (false = true) by decide)] at H; exact H
    clear H
    have H := H1
    clear H1
    obtain rfl := Option.some.inj H
    go_enter Tryd.func7, Tryd.ntmps7
    go_wp2_with (first | ((with_reducible refine gate_callee (f := 14) rfl ?_); refine goesL_ (some 21) rfl rfl Tryd.func14 (by kernel_rfl) rfl #[] rfl (by (try simp only [List.map_toArray, List.map_cons, List.map_nil]); first | done | rfl | (simp only [List.length_drop, List.length_take]; rfl)) ?_; (with_reducible refine (sizarlaw09_sane.calls k  false _ ?side1 A4.out).mono ?_); (case side1 => exact Laid.below hL (by repeat (first | (with_reducible first | exact HB.out | apply below_alloc | apply pw_below_drewN | apply below_drew1) | exact HB.out))); rintro e w69 ⟨rfl, hb⟩; refine ⟨_, rfl, ?_⟩; have n0_ := Aside0.mk (below_step (by repeat (first | (with_reducible first | exact HB.out | apply below_alloc | apply pw_below_drewN | apply below_drew1) | exact HB.out)) hb); clear HB; have HB := n0_; clear n0_; (try clear hb); (try clear hb2); (try clear hk); (try clear hi)))
    go_ret
    exact ⟨by first | rfl | (simp [errW_none, errW_some] <;> rfl) | (simp [*, errW_none, errW_some] <;> rfl), by repeat (first | (with_reducible first | exact HB.out | apply below_alloc | apply pw_below_drewN | apply below_drew1) | exact HB.out)⟩

end Go.Proofs.YtomglbjcfcijkaaDoor.PLx

namespace Go.Proofs.YtomglbjcfcijkaaDoor.PLx
open Go.RowKit Go.Proofs.YtomglbjcfcijkaaDoorW.PrintWords Go.Proofs.YtomglbjcfcijkaaDoorW.PrintLast Go.Proofs.YtomglbjcfcijkaaDoorW.PrintMore

theorem letter_ref (c : UInt8) : sizarref09_Letter.f (c.toNat : Int) = some (decide (kl c = 2)) := by
  have : ∀ n : Nat, n < 256 → sizarref09_Letter.f (n : Int) = some (decide (cls (n : Int) = 2)) := by decide +kernel
  exact this c.toNat c.toNat_lt
theorem figure_ref (c : UInt8) : sizarref09_Figure.f (c.toNat : Int) = some (decide (kl c = 3)) := by
  have : ∀ n : Nat, n < 256 → sizarref09_Figure.f (n : Int) = some (decide (cls (n : Int) = 3)) := by decide +kernel
  exact this c.toNat c.toNat_lt
theorem part_ref (c : UInt8) : sizarref09_part.f (c.toNat : Int) = some (isPart c) := by
  have : ∀ n : Nat, n < 256 → sizarref09_part.f (n : Int) = some (cls (n : Int) == 2 || cls (n : Int) == 3 || cls (n : Int) == 5) := by decide +kernel
  exact this c.toNat c.toNat_lt
theorem sign_ref (c : UInt8) : sizarref09_Sign.f (c.toNat : Int) = some (decide (kl c = 4)) := by
  have : ∀ n : Nat, n < 256 → sizarref09_Sign.f (n : Int) = some (decide (cls (n : Int) = 4)) := by decide +kernel
  exact this c.toNat c.toNat_lt
theorem rname_loop (s : ByteArray) (hs : s.size ≤ 32) : ∀ (d i K : Nat), i + d = s.size → d < K → sizarref09_Name.l0 K s (i : Int) = some ((s.data.toList.drop i).all isPart)
  | 0, i, K, hi, hK => by
    obtain ⟨K, rfl⟩ : ∃ m, K = m + 1 := ⟨K - 1, by omega⟩
    simp only [sizarref09_Name.l0]
    rw [if_neg (by omega), List.drop_of_length_le (by rw [size_data]; omega)]; rfl
  | d + 1, i, K, hi, hK => by
    obtain ⟨K, rfl⟩ : ∃ m, K = m + 1 := ⟨K - 1, by omega⟩
    have hlt : i < s.size := by omega
    have hw : wrap64 ((i : Int) + 1) = ((i + 1 : Nat) : Int) := by unfold wrap64; omega
    simp only [sizarref09_Name.l0, bt_nat s i hlt, part_ref, Option.bind_some, hw]
    rw [if_pos (by omega), if_pos (by omega), data_drop s i hlt, List.all_cons]
    cases hp : isPart s[i]
    · simp
    · rw [if_pos rfl, rname_loop s hs d (i + 1) K (by omega) (by omega), Bool.true_and]
theorem rname_f (s : ByteArray) (K : Nat) (hK : 40 ≤ K) : sizarref09_Name.f K s = some (isName s.data.toList) := by
  obtain ⟨K, rfl⟩ : ∃ m, K = m + 1 := ⟨K - 1, by omega⟩
  have hsz := size_data s
  unfold sizarref09_Name.f
  simp only [sizarref09_Name.j0, if_true]
  by_cases h1 : (s.size : Int) < 1
  · rw [if_pos h1]
    have : s.data.toList = [] := List.length_eq_zero_iff.1 (by omega)
    rw [this]; rfl
  rw [if_neg h1]
  have hpos : 0 < s.size := by omega
  have hd := data_drop s 0 hpos
  rw [List.drop_zero] at hd
  have hl : (s.data.toList.drop (0 + 1)).length = s.size - 1 := by rw [List.length_drop, hsz]
  by_cases h32 : (s.size : Int) > 32
  · rw [if_pos h32, hd]
    unfold isName
    simp only [hl]
    rw [decide_eq_false (by omega)]; rfl
  rw [if_neg h32, if_pos (by omega)]
  have hb : bt s 0 = (s[0].toNat : Int) := bt_nat s 0 hpos
  rw [hb, letter_ref, Option.bind_some]
  have hloop : sizarref09_Name.l0 K s 0 = some (s.data.toList.all isPart) := by
    have := rname_loop s (by omega) s.size 0 K (by omega) (by omega)
    rw [List.drop_zero] at this
    exact this
  have hdec : decide (s.size - 1 < 32) = true := decide_eq_true (by omega)
  have hall : s.data.toList.all isPart = (isPart s[0] && (s.data.toList.drop (0 + 1)).all isPart) := by rw [hd, List.all_cons]; simp
  have hname : isName s.data.toList = (decide (s.size - 1 < 32) && kl s[0] == 2 && (s.data.toList.drop (0 + 1)).all isPart) := by
    rw [← hl]
    conv => lhs; rw [hd]
    rfl
  rw [hloop, hname, hall, hdec]
  by_cases h2 : kl s[0] = 2
  · have : isPart s[0] = true := by unfold isPart; simp [h2]
    rw [this]; simp [h2]
  · simp [h2]
theorem rvalid_f (t : Tok) (K : Nat) (hK : 40 ≤ K) : sizarref09_Valid.f K t.f0 t.f1 t.f2 t.f3 = some (validT t) := by
  have hsz := size_data t.f1
  unfold sizarref09_Valid.f validT
  rw [toList_eq]
  by_cases h1 : t.f0 = 1
  · rw [if_pos h1, if_pos h1, rname_f _ K hK, Option.bind_some]
    cases isName t.f1.data.toList <;> simp
  rw [if_neg h1, if_neg h1]
  by_cases h2 : t.f0 = 2
  · rw [if_pos h2, if_pos h2]
    by_cases he : t.f1.data.toList = []
    · rw [if_pos he, he]
      by_cases h3 : t.f2 ≥ 0
      · rw [if_pos h3]; simp [h3]
      · rw [if_neg h3]; simp [h3]
    · rw [if_neg he]
      have : t.f1.data.toList.isEmpty = false := by simpa using he
      simp [this]
  rw [if_neg h2, if_neg h2]
  by_cases h3 : t.f0 = 3
  · rw [if_pos h3, if_pos h3]
    by_cases h4 : t.f1.size = 1
    · have hpos : 0 < t.f1.size := by omega
      have hd := data_drop t.f1 0 hpos
      rw [List.drop_zero, List.drop_of_length_le (by omega)] at hd
      have hb : bt t.f1 0 = (t.f1[0].toNat : Int) := bt_nat t.f1 0 hpos
      rw [if_pos (by omega), if_pos (by omega), hb, sign_ref, Option.bind_some, hd]
      by_cases h5 : kl t.f1[0] = 4
      · simp [h5]
      · simp [h5]
    · rw [if_neg (by omega)]
      match hl : t.f1.data.toList, hsz with
      | [], _ => simp
      | [c], hsz => exact absurd hsz.symm h4
      | c :: d :: r, _ => simp
  · rw [if_neg h3, if_neg h3]
/-- The digits ahead of the last one. -/
def highD (n : Nat) : List UInt8 := if n < 10 then [] else Lib.decDigits (n / 10)
theorem dec_high (n : Nat) : Lib.decDigits n = highD n ++ [UInt8.ofNat (48 + n % 10)] := by
  rw [Lib.decDigits]
  unfold highD
  split
  · rw [show n % 10 = n by omega]; rfl
  · rfl
theorem decimal_loop : ∀ (m n K : Nat) (acc : ByteArray), n < 10 ^ (m + 1) → m < K → n ≤ 1099511627776 → acc.size + m ≤ 1000000 →
    sizarref09_Decimal.l0 K (n : Int) acc = some (bs (highD n ++ acc.data.toList))
  | m, n, K, acc, hn, hK, hb, ha => by
    obtain ⟨K, rfl⟩ : ∃ k, K = k + 1 := ⟨K - 1, by omega⟩
    have hw : wrap64 (Int.tdiv (n : Int) 10) = ((n / 10 : Nat) : Int) := by
      rw [Int.tdiv_eq_ediv_of_nonneg (by omega)]; unfold wrap64; omega
    have hd : (wrap64 (48 + Int.tmod ((n / 10 : Nat) : Int) 10)) % 256 = ((48 + n / 10 % 10 : Nat) : Int) := by
      rw [Int.tmod_eq_emod_of_nonneg (by omega)]; unfold wrap64; omega
    have hstr : strOfNums [((48 + n / 10 % 10 : Nat) : Int)] = bs [UInt8.ofNat (48 + n / 10 % 10)] := rfl
    have hone : ∀ x : UInt8, (bs [x]).size = 1 := fun x => rfl
    have hcat : ∀ x : UInt8, bs [x] ++ acc = bs (x :: acc.data.toList) := by
      intro x
      apply ByteArray.ext
      simp [ByteArray.data_append, bs]
    simp only [sizarref09_Decimal.l0, hw, hd, hstr, Option.bind_some, hone, hcat]
    by_cases h10 : n < 10
    · rw [if_neg (by omega)]
      unfold highD
      rw [if_pos h10]; rfl
    · rw [if_pos (by omega), if_pos (by omega)]
      cases m with
      | zero => exact absurd hn (by simpa using h10)
      | succ m =>
        have hsz : (bs (UInt8.ofNat (48 + n / 10 % 10) :: acc.data.toList)).size = acc.size + 1 := by
          rw [← size_data, ← size_data]; rfl
        rw [decimal_loop m (n / 10) K _ (by rw [Nat.pow_succ] at hn; omega) (by omega) (by omega) (by omega)]
        have : highD n = highD (n / 10) ++ [UInt8.ofNat (48 + n / 10 % 10)] := by
          rw [← dec_high]
          show (if n < 10 then [] else Lib.decDigits (n / 10)) = _
          rw [if_neg h10]
        rw [this, List.append_assoc]; rfl
theorem decimal_f (n : Nat) (K : Nat) (hn : n ≤ 1099511627776) (hK : 20 ≤ K) : sizarref09_Decimal.f K (n : Int) = some (bs (Lib.decDigits n)) := by
  unfold sizarref09_Decimal.f
  have hd : (wrap64 (48 + Int.tmod (n : Int) 10)) % 256 = ((48 + n % 10 : Nat) : Int) := by
    rw [Int.tmod_eq_emod_of_nonneg (by omega)]; unfold wrap64; omega
  have hstr : strOfNums [((48 + n % 10 : Nat) : Int)] = bs [UInt8.ofNat (48 + n % 10)] := rfl
  rw [hd, hstr, decimal_loop 15 n K _ (by omega) (by omega) hn (by show 1 + 15 ≤ 1000000; omega), dec_high]; rfl
/-- The same tokens, but for places. -/
theorem rsame_loop (a b : List Tok) (hab : a.length = b.length) (ha : a.length ≤ 9223372036854775806) : ∀ (d i K : Nat), i + d = a.length → d < K → sizarref09_Same.l0 K a b (i : Int) = some (sameToks (a.drop i) (b.drop i))
  | 0, i, K, hi, hK => by
    obtain ⟨K, rfl⟩ : ∃ m, K = m + 1 := ⟨K - 1, by omega⟩
    simp only [sizarref09_Same.l0]
    rw [if_neg (by omega), List.drop_of_length_le (by omega), List.drop_of_length_le (by omega)]; rfl
  | d + 1, i, K, hi, hK => by
    obtain ⟨K, rfl⟩ : ∃ m, K = m + 1 := ⟨K - 1, by omega⟩
    have hw : wrap64 ((i : Int) + 1) = ((i + 1 : Nat) : Int) := by unfold wrap64; omega
    have ha1 := at_some a i (by omega)
    have hb1 := at_some b i (by omega)
    rw [sameToks_drop a b i _ _ ha1 hb1]
    have ih := rsame_loop a b hab ha d (i + 1) K (by omega) (by omega)
    have c1 : (i : Int) < (a.length : Int) := by omega
    have c2 : (0 : Int) ≤ (i : Int) := by omega
    have c3 : (i : Int) < (b.length : Int) := by omega
    simp only [sizarref09_Same.l0, if_pos c1, if_pos c2, if_pos c3, hw, ih, toList_eq]
    generalize rd_T35 a (i : Int) = x
    generalize rd_T35 b (i : Int) = y
    unfold sameTok
    by_cases h0 : x.f0 = y.f0
    · rw [if_pos h0]
      by_cases h1 : x.f1.data.toList = y.f1.data.toList
      · rw [if_pos h1]
        by_cases h2 : x.f2 = y.f2
        · rw [if_pos h2, h0, h1, h2]; simp
        · rw [if_neg h2]; simp [h2]
      · rw [if_neg h1]
        have : (x.f1.data.toList == y.f1.data.toList) = false := beq_eq_false_iff_ne.2 h1
        rw [this]; simp
    · rw [if_neg h0]; simp [h0]
theorem rsame_f (a b : List Tok) (ha : a.length ≤ 9223372036854775806) (K : Nat) (hK : a.length + 1 ≤ K) : sizarref09_Same.f K a b = some (sameToks a b) := by
  unfold sizarref09_Same.f
  by_cases h : a.length = b.length
  · rw [if_pos (by omega)]
    exact rsame_loop a b h ha a.length 0 K (by omega) (by omega)
  · rw [if_neg (by omega), sameToks_len a b h]
/-- Few tokens, and short ones. -/
theorem few_loop (l : List Tok) (hl : l.length ≤ 200) (hb : ∀ t ∈ l, t.f1.size ≤ 140737488351232) : ∀ (d i K x : Nat), i + d = l.length → d < K → x ≤ i * 140737488351232 →
    sizarref09_Few.l0 K l (x : Int) (i : Int) = some (decide (x + ((l.drop i).map fun t => t.f1.size).sum ≤ 2000))
  | 0, i, K, x, hi, hK, hx => by
    obtain ⟨K, rfl⟩ : ∃ m, K = m + 1 := ⟨K - 1, by omega⟩
    simp only [sizarref09_Few.l0]
    rw [if_neg (by omega), if_pos (by omega), List.drop_of_length_le (by omega)]
    simp only [List.map_nil, List.sum_nil, Nat.add_zero]
    congr 1
    simp only [decide_eq_decide]; omega
  | d + 1, i, K, x, hi, hK, hx => by
    obtain ⟨K, rfl⟩ : ∃ m, K = m + 1 := ⟨K - 1, by omega⟩
    have hlt : i < l.length := by omega
    have ha := at_some l i hlt
    have hm : (rd_T35 l (i : Int)).f1.size ≤ 140737488351232 := hb _ (List.mem_of_getElem? ha)
    have hd := List.drop_eq_getElem_cons hlt
    rw [List.getElem?_eq_getElem hlt] at ha
    injection ha with ha
    have hw : wrap64 ((i : Int) + 1) = ((i + 1 : Nat) : Int) := by unfold wrap64; omega
    have hx2 : wrap64 ((x : Int) + ((rd_T35 l (i : Int)).f1.size : Int)) = ((x + (rd_T35 l (i : Int)).f1.size : Nat) : Int) := by unfold wrap64; omega
    simp only [sizarref09_Few.l0, hw, hx2]
    rw [if_pos (by omega), if_pos (by omega), few_loop l hl hb d (i + 1) K _ (by omega) (by omega) (by omega), hd, ha]
    simp only [List.map_cons, List.sum_cons, Nat.add_assoc]
theorem few_any (l : List Tok) (hl : l.length ≤ 9223372036854775806) : ∀ (d i K : Nat) (x : Int), i + d = l.length → d < K → 200 < l.length → sizarref09_Few.l0 K l x (i : Int) = some false
  | 0, i, K, x, hi, hK, h2 => by
    obtain ⟨K, rfl⟩ : ∃ m, K = m + 1 := ⟨K - 1, by omega⟩
    simp only [sizarref09_Few.l0]
    rw [if_neg (by omega), if_neg (by omega)]
  | d + 1, i, K, x, hi, hK, h2 => by
    obtain ⟨K, rfl⟩ : ∃ m, K = m + 1 := ⟨K - 1, by omega⟩
    have hw : wrap64 ((i : Int) + 1) = ((i + 1 : Nat) : Int) := by unfold wrap64; omega
    simp only [sizarref09_Few.l0, hw]
    rw [if_pos (by omega), if_pos (by omega), few_any l hl d (i + 1) K _ (by omega) (by omega) h2]
def Few (l : List Tok) : Prop := l.length ≤ 200 ∧ (l.map fun t => t.f1.size).sum ≤ 2000
theorem few_f (l : List Tok) (hl : l.length ≤ 9223372036854775806) (hb : ∀ t ∈ l, t.f1.size ≤ 140737488351232) (K : Nat) (hK : l.length + 1 ≤ K) : ∃ b, sizarref09_Few.f K l = some b ∧ (b = true → Few l) := by
  unfold sizarref09_Few.f
  by_cases h : l.length ≤ 200
  · refine ⟨_, few_loop l h hb l.length 0 K 0 (by omega) (by omega) (by omega), fun hd => ⟨h, ?_⟩⟩
    simpa using hd
  · exact ⟨false, few_any l hl l.length 0 K 0 (by omega) (by omega) (by omega), fun h => by cases h⟩
theorem sum_mem : ∀ (l : List Tok) (t : Tok), t ∈ l → t.f1.size ≤ (l.map fun t => t.f1.size).sum
  | a :: l, t, h => by
    rw [List.map_cons, List.sum_cons]
    rcases List.mem_cons.1 h with rfl | h
    · omega
    · have := sum_mem l t h; omega
theorem few_text {l : List Tok} (h : Few l) : (textOf l).length ≤ 7000 := by
  have h1 := text_len l
  have : ∀ l : List Tok, (l.map fun t => (wordOf t).length + 1).sum ≤ (l.map fun t => t.f1.size).sum + 21 * l.length := by
    intro l
    induction l with
    | nil => simp
    | cons t l ih =>
      have := word_len t
      simp only [List.map_cons, List.sum_cons, List.length_cons]; omega
  have h2 := this l
  have := h.1; have := h.2
  omega
/-- The reference's text. -/
def tailT (l : List Tok) : List UInt8 := (l.map fun t => 32 :: wordOf t).flatten
theorem joinW_tail (t : Tok) : ∀ l : List Tok, joinW ((t :: l).map wordOf) = wordOf t ++ tailT l := by
  intro l
  induction l generalizing t with
  | nil => simp [joinW, tailT]
  | cons u l ih =>
    rw [List.map_cons, List.map_cons, joinW, ← List.map_cons, ih u]
    simp [tailT]
theorem word_f (t : Tok) (hv : validT t = true) (K : Nat) (hK : 20 ≤ K) : t.f0 = 2 → sizarref09_Decimal.f K t.f2 = some (bs (wordOf t)) := by
  intro h2
  have hb : 0 ≤ t.f2 ∧ t.f2 ≤ 1099511627776 := by
    unfold validT at hv
    rw [if_neg (by omega), if_pos h2] at hv
    simp only [Bool.and_eq_true, decide_eq_true_eq] at hv
    exact ⟨hv.1.2, hv.2⟩
  obtain ⟨n, hn⟩ := Int.eq_ofNat_of_zero_le hb.1
  rw [hn, decimal_f n K (by omega) hK]
  unfold wordOf
  rw [if_pos h2, hn]
  exact congrArg (fun x => some (bs x)) (digs_dec 19 n (by omega)).symm
theorem word_else (t : Tok) (h2 : ¬ t.f0 = 2) : t.f1 = bs (wordOf t) := by
  unfold wordOf; rw [if_neg h2]; rfl
theorem rtext_loop (l : List Tok) (hF : Few l) : ∀ (d i K : Nat) (s : ByteArray), i + d = l.length → 0 < i → 50 + d ≤ K → s.size ≤ i * 3000 →
    sizarref09_Text.l0 K l s (i : Int) = some (if (l.drop i).all validT = true then (bs (s.data.toList ++ tailT (l.drop i)), 0) else (bs [], 90))
  | 0, i, K, s, hi, h0, hK, hs => by
    obtain ⟨K, rfl⟩ : ∃ m, K = m + 1 := ⟨K - 1, by omega⟩
    simp only [sizarref09_Text.l0]
    rw [if_neg (by omega), List.drop_of_length_le (by omega), List.all_nil, if_pos rfl]
    simp only [tailT, List.map_nil, List.flatten_nil, List.append_nil]; rfl
  | d + 1, i, K, s, hi, h0, hK, hs => by
    obtain ⟨K, rfl⟩ : ∃ m, K = m + 1 := ⟨K - 1, by omega⟩
    have hlt : i < l.length := by omega
    have h200 := hF.1
    have ha := at_some l i hlt
    have hm := sum_mem l _ (List.mem_of_getElem? ha)
    have h2000 := hF.2
    have hd := List.drop_eq_getElem_cons hlt
    rw [List.getElem?_eq_getElem hlt] at ha
    injection ha with ha
    rw [ha] at hd
    rw [hd]
    have hw : wrap64 ((i : Int) + 1) = ((i + 1 : Nat) : Int) := by unfold wrap64; omega
    have c1 : (i : Int) < (l.length : Int) := by omega
    have c2 : (0 : Int) ≤ (i : Int) := by omega
    have c3 : (i : Int) > 0 := by omega
    have ih := fun s' h' => rtext_loop l hF d (i + 1) K s' (by omega) (by omega) (by omega) h'
    simp only [sizarref09_Text.l0, if_pos c1, if_pos c2, if_pos c3, hw]
    generalize rd_T35 l (i : Int) = t at hm ⊢
    have hval := rvalid_f t K (by omega)
    have hone : (s ++ (⟨#[32]⟩ : ByteArray)).size = s.size + 1 := by rw [ByteArray.size_append]; rfl
    have hwl := word_len t
    have hcat : ∀ w : List UInt8, ((s ++ (⟨#[32]⟩ : ByteArray)) ++ bs w).data.toList = s.data.toList ++ 32 :: w := by
      intro w
      simp [ByteArray.data_append, bs]
    have hsz : ∀ w : List UInt8, ((s ++ (⟨#[32]⟩ : ByteArray)) ++ bs w).size = s.size + 1 + w.length := by
      intro w
      rw [ByteArray.size_append, hone, ← size_data (bs w)]; rfl
    have c4 : s.size + 1 ≤ 9223372036854775807 := by omega
    have c5 : (s ++ (⟨#[32]⟩ : ByteArray)).size + (bs (wordOf t)).size ≤ 9223372036854775807 := by
      rw [hone, ← size_data]; show s.size + 1 + (wordOf t).length ≤ _; omega
    simp only [hval, Option.bind_some, if_pos c4]
    by_cases hv : validT t = true
    case neg => rw [if_neg hv, if_neg (by rw [List.all_cons]; simp [hv])]; rfl
    case pos =>
      have hfin : sizarref09_Text.l0 K l ((s ++ (⟨#[32]⟩ : ByteArray)) ++ bs (wordOf t)) ((i + 1 : Nat) : Int) = some (if (t :: l.drop (i + 1)).all validT = true then (bs (s.data.toList ++ tailT (t :: l.drop (i + 1))), 0) else (bs [], 90)) := by
        rw [ih _ (by rw [hsz]; omega), hcat]
        simp [tailT, hv]
      rw [if_pos hv]
      by_cases h2 : t.f0 = 2
      · rw [if_pos h2, word_f t hv K (by omega) h2, Option.bind_some, if_pos c5, hfin]
      · rw [if_neg h2]
        conv => lhs; rw [word_else t h2]
        rw [if_pos c5, hfin]
theorem rtext_f (l : List Tok) (hF : Few l) (K : Nat) (hK : 300 ≤ K) : sizarref09_Text.f K l = lex_Text.f l := by
  have h200 := hF.1
  have hlen := few_text hF
  have hres : lex_Text.f l = some (if l.all validT = true then (bs (textOf l), 0) else (bs [], 90)) := by
    cases h : l.all validT
    · rw [Text_bad h (by omega)]; rfl
    · rw [Text_ok (by rw [List.all_eq_true] at h; exact h) (by omega) (by omega)]; rfl
  rw [hres]
  unfold sizarref09_Text.f
  obtain ⟨K, rfl⟩ : ∃ m, K = m + 1 := ⟨K - 1, by omega⟩
  cases l with
  | nil => rfl
  | cons t l =>
    have h0 : rd_T35 (t :: l) 0 = t := rfl
    have hm := sum_mem (t :: l) t List.mem_cons_self
    have h2000 := hF.2
    have hval := rvalid_f t K (by omega)
    have hwl := word_len t
    have c1 : (0 : Int) < ((t :: l).length : Int) := by rw [List.length_cons]; omega
    have c3 : ¬ (0 : Int) > 0 := by omega
    have hw : wrap64 ((0 : Int) + 1) = ((1 : Nat) : Int) := by unfold wrap64; omega
    have he : (⟨#[]⟩ : ByteArray).size = 0 := rfl
    have hbs : (bs (wordOf t)).size = (wordOf t).length := by rw [← size_data]; rfl
    have c5 : (⟨#[]⟩ : ByteArray).size + (bs (wordOf t)).size ≤ 9223372036854775807 := by rw [he, hbs]; omega
    have hnil : (⟨#[]⟩ : ByteArray) ++ bs (wordOf t) = bs (wordOf t) := by
      apply ByteArray.ext
      simp [ByteArray.data_append, bs]
    simp only [sizarref09_Text.l0, if_pos c1, if_pos (Int.le_refl (0 : Int)), if_neg c3, hw, h0, hval, Option.bind_some]
    by_cases hv : validT t = true
    case neg => rw [if_neg hv, if_neg (by rw [List.all_cons]; simp [hv])]; rfl
    case pos =>
      have hfin : sizarref09_Text.l0 K (t :: l) ((⟨#[]⟩ : ByteArray) ++ bs (wordOf t)) ((1 : Nat) : Int) = some (if (t :: l).all validT = true then (bs (textOf (t :: l)), 0) else (bs [], 90)) := by
        rw [hnil, rtext_loop (t :: l) hF l.length 1 K _ (by rw [List.length_cons]; omega) (by omega) (by rw [List.length_cons] at h200; omega) (by rw [hbs]; omega)]
        unfold textOf
        rw [joinW_tail]
        simp [bs, hv]
      rw [if_pos hv]
      by_cases h2 : t.f0 = 2
      · rw [if_pos h2, word_f t hv K (by omega) h2, Option.bind_some, if_pos c5, hfin]
      · rw [if_neg h2]
        conv => lhs; rw [word_else t h2]
        rw [if_pos c5, hfin]
end Go.Proofs.YtomglbjcfcijkaaDoor.PLx

namespace Go.Proofs.YtomglbjcfcijkaaDoor.PLx
open Go.RowKit Go.Proofs.YtomglbjcfcijkaaDoorW.PrintWords Go.Proofs.YtomglbjcfcijkaaDoorW.PrintLast Go.Proofs.YtomglbjcfcijkaaDoorW.PrintMore
theorem sane_40 : sizarlaw09_sane.f 40 = some true := by decide +kernel
theorem sane_all (k : Nat) (h : 40 ≤ k) : sizarlaw09_sane.f k = some true := more_rounds sizarlaw09_sane.mono sane_40 h
end Go.Proofs.YtomglbjcfcijkaaDoor.PLx

namespace Go.Proofs.YtomglbjcfcijkaaDoor.PLx
open Go.RowKit Go.ChangeShapes Go.Proofs.YtomglbjcfcijkaaDoorW.PrintWords Go.Proofs.YtomglbjcfcijkaaDoorW.PrintLast Go.Proofs.YtomglbjcfcijkaaDoorW.PrintMore

section
variable {H : Type} {enc : TypeId × Value → H} {W : World} {base : Nat} {sp : Nat → Bool} {held : Bool}
theorem cellsTok : Tryd.prog.cellsOf 35 = 4 := by kernel_rfl
theorem cellsInt : Tryd.prog.cellsOf 3 = 1 := by kernel_rfl
theorem cellsS : Tryd.prog.cellsOf 9 = 1 := by kernel_rfl
/-- How a token reads. -/
def tokD (t : Tok) : DataW H := .agg [.lit (.int .i64 t.f0), .lit (.string t.f1.data.toList), .lit (.int .i64 t.f2), .lit (.int .i64 t.f3)]
theorem four_of {α : Type} (xs : List α) (h : xs.length = 4) : ∃ a b c d, xs = [a, b, c, d] := by
  match xs, h with
  | [a, b, c, d], _ => exact ⟨a, b, c, d, rfl⟩
theorem tok_of_trod {fuel : Nat} {cs : List Value} {x : DataW H × List MemPlace} (h : DataW.trod enc Tryd.prog W base sp held fuel 35 cs = some x) :
    ∃ t : Tok, cs = [.int .i64 t.f0, .string t.f1, .int .i64 t.f2, .int .i64 t.f3] ∧ x.1 = tokD t := by
  obtain ⟨xs, n, rfl, rfl, hl, hn, hf⟩ := DataW.trod_struct Tryd.underlying35 h
  obtain ⟨c0, c1, c2, c3, rfl⟩ := four_of cs (hl.trans cellsTok)
  obtain ⟨x0, x1, x2, x3, rfl⟩ := four_of xs hn
  have h0 : DataW.trod enc Tryd.prog W base sp held n 3 [c0] = some x0 := by
    have := hf 0 _ rfl
    change DataW.trod enc Tryd.prog W base sp held n 3 (([c0, c1, c2, c3].drop 0).take (Tryd.prog.cellsOf 3)) = some x0 at this
    rw [cellsInt] at this
    exact this
  have h1 : DataW.trod enc Tryd.prog W base sp held n 9 [c1] = some x1 := by
    have := hf 1 _ rfl
    change DataW.trod enc Tryd.prog W base sp held n 9 (([c0, c1, c2, c3].drop 1).take (Tryd.prog.cellsOf 9)) = some x1 at this
    rw [cellsS] at this
    exact this
  have h2 : DataW.trod enc Tryd.prog W base sp held n 3 [c2] = some x2 := by
    have := hf 2 _ rfl
    change DataW.trod enc Tryd.prog W base sp held n 3 (([c0, c1, c2, c3].drop 2).take (Tryd.prog.cellsOf 3)) = some x2 at this
    rw [cellsInt] at this
    exact this
  have h3 : DataW.trod enc Tryd.prog W base sp held n 3 [c3] = some x3 := by
    have := hf 3 _ rfl
    change DataW.trod enc Tryd.prog W base sp held n 3 (([c0, c1, c2, c3].drop 3).take (Tryd.prog.cellsOf 3)) = some x3 at this
    rw [cellsInt] at this
    exact this
  obtain ⟨n0, e0, d0, _⟩ := DataW.trod_int Tryd.underlying3 h0
  obtain ⟨s1, e1, d1, _⟩ := DataW.trod_string Tryd.underlying9 h1
  obtain ⟨n2, e2, d2, _⟩ := DataW.trod_int Tryd.underlying3 h2
  obtain ⟨n3, e3, d3, _⟩ := DataW.trod_int Tryd.underlying3 h3
  injection e0 with e0
  injection e1 with e1
  injection e2 with e2
  injection e3 with e3
  subst e0; subst e1; subst e2; subst e3; subst d0; subst d1; subst d2; subst d3
  exact ⟨⟨n0, s1, n2, n3⟩, rfl, rfl⟩
theorem cells_add {w : World} {b : Nat} {a : Addr} {n : Nat} {c : List Value} (h : w.cells? b a n = some c) : c.length = n ∧ ∀ i u, c[i]? = some u → w.cell? (a.add i) = some u := by
  unfold World.cells? at h
  split at h
  · have hl := Lib.mapM_length h
    refine ⟨by simpa using hl, fun i u hu => ?_⟩
    have hi : i < n := by
      have := (List.getElem?_eq_some_iff.1 hu).1
      rw [hl] at this; simpa using this
    obtain ⟨b, hb, hf⟩ := Lib.mapM_at h i i (by simp [hi])
    rw [hu] at hb
    injection hb with hb
    subst hb
    exact hf
  · cases h
theorem list_of {α β : Type} (P : α → β → Prop) : ∀ (xs : List α), (∀ x ∈ xs, ∃ y, P x y) → ∃ ys : List β, ys.length = xs.length ∧ ∀ (i : Nat) x, xs[i]? = some x → ∃ y, ys[i]? = some y ∧ P x y
  | [], _ => ⟨[], rfl, fun i x h => by simp at h⟩
  | a :: xs, h => by
    obtain ⟨y, hy⟩ := h a List.mem_cons_self
    obtain ⟨ys, hl, hp⟩ := list_of P xs (fun x hx => h x (List.mem_cons_of_mem _ hx))
    refine ⟨y :: ys, by simp [hl], fun i x hx => ?_⟩
    cases i with
    | zero => injection hx with hx; subst hx; exact ⟨y, rfl, hy⟩
    | succ i => exact hp i x hx
/-- A slice of tokens. -/
theorem toks_of_trod {A : Option Addr} {len cap : Nat} {d : DataW H} {p : List MemPlace} (h : ∃ fuel, DataW.trod enc Tryd.prog W base sp held fuel 23 (Value.slice A len cap).cells.toList = some (d, p)) :
    ∃ l : List Tok, len = l.length ∧ l.length ≤ cap ∧ Kd.C k35 W A l.length l ∧ (d = .nil ∧ l = [] ∨ ∃ sp', d = .slice (l.map tokD) sp') := by
  obtain ⟨fuel, h⟩ := h
  rcases DataW.trod_slice Tryd.underlying23 h with ⟨hc, hx⟩ | ⟨a, len', cap', elems, rest, n, rfl, hc, hx, _, hle, hcap, hlen, hel, _, _⟩
  · simp [Value.cells] at hc
    obtain ⟨rfl, rfl, rfl⟩ := hc
    injection hx with hx _
    exact ⟨[], rfl, Nat.le_refl _, Kd.C_nil _ _, .inl ⟨hx, rfl⟩⟩
  · simp [Value.cells] at hc
    obtain ⟨rfl, rfl, rfl⟩ := hc
    injection hx with hx _
    rw [cellsTok] at hel
    obtain ⟨l, hl, hp⟩ := list_of (fun (x : DataW H × List MemPlace) (t : Tok) => x.1 = tokD t) elems (fun x hx => by
      obtain ⟨i, hi⟩ := List.getElem?_of_mem hx
      have hi' : i < len := by rw [← hlen]; exact (List.getElem?_eq_some_iff.1 hi).1
      have := hel i hi'
      rw [hi, Option.bind_eq_some_iff] at this
      obtain ⟨c, _, hc⟩ := this
      obtain ⟨t, _, ht⟩ := tok_of_trod hc
      exact ⟨t, ht⟩)
    have hmap : elems.map (·.1) = l.map tokD := by
      apply List.ext_getElem?
      intro i
      rw [List.getElem?_map, List.getElem?_map]
      cases hi : elems[i]? with
      | none =>
        have : l[i]? = none := by rw [List.getElem?_eq_none_iff]; rw [List.getElem?_eq_none_iff] at hi; omega
        rw [this]; rfl
      | some x =>
        obtain ⟨t, ht, hxt⟩ := hp i x hi
        rw [ht]; simp [hxt]
    refine ⟨l, by omega, by omega, ⟨rfl, by have := hcap; unfold maxLen at this; omega, fun _ => ⟨a, rfl, fun j t ht => ?_⟩⟩, .inr ⟨_, by rw [hx, hmap]⟩⟩
    have hj : j < len := by have := (List.getElem?_eq_some_iff.1 ht).1; omega
    have he := hel j hj
    cases hi : elems[j]? with
    | none => rw [List.getElem?_eq_none_iff] at hi; omega
    | some x =>
      rw [hi, Option.bind_eq_some_iff] at he
      obtain ⟨c, hc, hcx⟩ := he
      obtain ⟨t', ec, ht'⟩ := tok_of_trod hcx
      obtain ⟨t2, ht2, hx2⟩ := hp j x hi
      rw [ht] at ht2
      injection ht2 with ht2
      subst ht2
      rw [hx2] at ht'
      have hK : Kd.K k35 W t c := by
        have e := ht'
        unfold tokD at e
        simp only [DataW.agg.injEq, List.cons.injEq, DataW.lit.injEq, Lit.int.injEq, Lit.string.injEq, true_and, and_true] at e
        obtain ⟨e0, e1, e2, e3⟩ := e
        have e1' : t.f1 = t'.f1 := ByteArray.ext (Array.toList_inj.1 e1)
        rw [ec, ← e0, ← e1', ← e2, ← e3]
        exact k35_mk W t
      obtain ⟨hlc, hcell⟩ := cells_add hc
      exact ⟨c, hlc, hK, fun i u hu => by
        have := hcell i u hu
        have ha : (a.add (j * 4)).add i = a.add (j * 4 + i) := add_add _ _ _
        show W.cell? (a.add (j * 4 + i)) = some u
        rw [← ha]; exact this⟩
theorem mem_weightsAll {P : Program} {e : TypeId} {n : Nat} : ∀ {ds : List (DataW H)} {d : DataW H}, d ∈ ds → n ∈ d.weights P e → n ∈ DataW.weightsAll P e ds
  | a :: ds, d, h, hn => by
    rw [DataW.weightsAll, List.mem_append]
    rcases List.mem_cons.1 h with rfl | h
    · exact .inl hn
    · exact .inr (mem_weightsAll h hn)
theorem tok_weight (t : Tok) : t.f1.data.toList.length ∈ (tokD t : DataW H).weights Tryd.prog 35 := by
  unfold tokD
  rw [DataW.weights, Tryd.underlying35]
  simp [DataW.weightsEach, DataW.weights]
/-- What the row's weights tell of a slice of tokens. -/
theorem toks_sized {ts : List TypeId} {ds : List (DataW H)} {l : List Tok} {d : DataW H} {j : Nat} (h : (DataW.weightsEach Tryd.prog ts ds).all (· ≤ reachBytes) = true) (ht : ts[j]? = some 23) (hd : ds[j]? = some d) (hs : d = .nil ∧ l = [] ∨ ∃ sp', d = .slice (l.map tokD) sp') :
    (∀ t ∈ l, t.f1.size ≤ 140737488351232) ∧ l.length ≤ 9223372036854775806 := by
  rcases hs with ⟨_, rfl⟩ | ⟨sp', rfl⟩
  · exact ⟨fun t ht => (by cases ht), Nat.zero_le _⟩
  · have hall : ∀ n ∈ (DataW.slice (l.map tokD) sp' : DataW H).weights Tryd.prog 23, n ≤ reachBytes := fun n hn => by
      have := List.all_eq_true.1 h n (DataW.weights_mem_each ht hd n hn)
      simpa using this
    have he : (DataW.slice (l.map tokD) sp' : DataW H).weights Tryd.prog 23 = ((l.map tokD : List (DataW H)).length + sp'.length) * Tryd.prog.bytesOf 35 :: (DataW.weightsAll Tryd.prog 35 (l.map tokD : List (DataW H)) ++ DataW.weightsAll Tryd.prog 35 sp') := by
      rw [DataW.weights, Tryd.underlying23]
    rw [he] at hall
    refine ⟨fun t ht' => ?_, ?_⟩
    · have h1 := hall t.f1.data.toList.length (List.mem_cons_of_mem _ (List.mem_append_left _ (mem_weightsAll (List.mem_map_of_mem ht') (tok_weight t))))
      rw [Array.length_toList] at h1
      exact h1
    · have h1 := hall _ List.mem_cons_self
      have hb : Tryd.prog.bytesOf 35 = 40 := by kernel_rfl
      rw [hb, List.length_map] at h1
      have : reachBytes = 140737488351232 := rfl
      omega
end
end Go.Proofs.YtomglbjcfcijkaaDoor.PLx

namespace Go.Proofs.YtomglbjcfcijkaaDoor.PLx
open Go.RowKit Go.ChangeShapes Go.Proofs.YtomglbjcfcijkaaDoorW.PrintWords Go.Proofs.YtomglbjcfcijkaaDoorW.PrintLast Go.Proofs.YtomglbjcfcijkaaDoorW.PrintMore
section
variable {H : Type} {enc : TypeId × Value → H} {W : World} {base : Nat} {sp : Nat → Bool} {held : Bool}
theorem cellsU8 : Tryd.prog.cellsOf 5 = 1 := by kernel_rfl
theorem byte_wf {n : Int} (h : (Lit.int .u8 n).wf = true) : 0 ≤ n ∧ n ≤ 255 := by
  have : (decide (IntKind.u8.min ≤ n) && decide (n ≤ IntKind.u8.max)) = true := h
  simp only [Bool.and_eq_true, decide_eq_true_eq] at this
  exact this
theorem lit_inj {a b : Int} (h : (DataW.lit (.int .u8 a) : DataW H) = .lit (.int .u8 b)) : a = b := by
  simpa using h
theorem u8_of_trod {fuel : Nat} {cs : List Value} {x : DataW H × List MemPlace} (h : DataW.trod enc Tryd.prog W base sp held fuel 5 cs = some x) : ∃ z : Int, cs = [.int .u8 z] ∧ x.1 = .lit (.int .u8 z) ∧ 0 ≤ z ∧ z ≤ 255 := by
  obtain ⟨z, ec, ed, hz⟩ := DataW.trod_int Tryd.underlying5 h
  exact ⟨z, ec, congrArg Prod.fst ed, byte_wf hz⟩
theorem ints_C {w : World} {a : Addr} (l : List Int) (hm : l.length ≤ 9223372036854775807) (h : ∀ (j : Nat) n, l[j]? = some n → w.cell? (a.add j) = some (.int .u8 n)) : Kd.C (Kd.int .u8) w (some a) l.length l := by
  refine Kd.C_of_reads (enc := Value.int .u8) (d := (0 : Int)) (h1 := fun _ => rfl) ⟨rfl, hm, fun _ => ⟨a, rfl, fun j hj => ?_⟩⟩
  have hg : l[j]? = some (l.getD j 0) := by rw [List.getD_eq_getElem?_getD, List.getElem?_eq_getElem hj]; rfl
  exact h j _ hg
/-- A slice of bytes. -/
theorem bytes_of_trod {t : TypeId} (ht : Tryd.prog.underlying t = some (.slice 5)) {A : Option Addr} {len cap : Nat} {d : DataW H} {p : List MemPlace} (h : ∃ fuel, DataW.trod enc Tryd.prog W base sp held fuel t (Value.slice A len cap).cells.toList = some (d, p)) :
    ∃ l : List Int, len = l.length ∧ l.length ≤ cap ∧ Kd.C (Kd.int .u8) W A l.length l ∧ ∀ n ∈ l, 0 ≤ n ∧ n ≤ 255 := by
  obtain ⟨fuel, h⟩ := h
  rcases DataW.trod_slice ht h with ⟨hc, hx⟩ | ⟨a, len', cap', elems, rest, n, rfl, hc, hx, _, hle, hcap, hlen, hel, _, _⟩
  · simp [Value.cells] at hc
    obtain ⟨rfl, rfl, rfl⟩ := hc
    exact ⟨[], rfl, Nat.le_refl _, Kd.C_nil _ _, fun n hn => by cases hn⟩
  · simp [Value.cells] at hc
    obtain ⟨rfl, rfl, rfl⟩ := hc
    rw [cellsU8] at hel
    obtain ⟨l, hl, hp⟩ := list_of (fun (x : DataW H × List MemPlace) (n : Int) => x.1 = .lit (.int .u8 n) ∧ 0 ≤ n ∧ n ≤ 255) elems (fun x hx => by
      obtain ⟨i, hi⟩ := List.getElem?_of_mem hx
      have hi' : i < len := by rw [← hlen]; exact (List.getElem?_eq_some_iff.1 hi).1
      have := hel i hi'
      rw [hi, Option.bind_eq_some_iff] at this
      obtain ⟨c, _, hc⟩ := this
      obtain ⟨z, _, ed, hz⟩ := u8_of_trod hc
      exact ⟨z, ed, hz⟩)
    refine ⟨l, by omega, by omega, ?_, fun n hn => ?_⟩
    · refine ints_C l (by have := hcap; unfold maxLen at this; omega) (fun j n hj => ?_)
      have hj' : j < len := by have := (List.getElem?_eq_some_iff.1 hj).1; omega
      have he := hel j hj'
      cases hi : elems[j]? with
      | none => rw [List.getElem?_eq_none_iff] at hi; omega
      | some x =>
        rw [hi, Option.bind_eq_some_iff] at he
        obtain ⟨c, hc, hcx⟩ := he
        obtain ⟨z, ec, ed, _⟩ := u8_of_trod hcx
        obtain ⟨n2, hn2, e2, _⟩ := hp j x hi
        have e4 : n = n2 := Option.some.inj (hj.symm.trans hn2)
        have e3 : z = n2 := lit_inj (ed.symm.trans e2)
        have e5 : c = [.int .u8 n] := by rw [ec, e3, e4]
        clear ec e2 ed hcx hx h hel hp
        subst e5
        obtain ⟨_, hcell⟩ := cells_add hc
        have := hcell 0 _ rfl
        have ha : (a.add (j * 1)).add 0 = a.add j := by rw [add_add, Nat.mul_one, Nat.add_zero]
        rw [ha] at this
        exact this
    · obtain ⟨i, hi⟩ := List.getElem?_of_mem hn
      have hi' : i < elems.length := by have := (List.getElem?_eq_some_iff.1 hi).1; omega
      obtain ⟨y, hy, _, hb⟩ := hp i _ (List.getElem?_eq_getElem hi')
      rw [hi] at hy
      injection hy with hy
      subst hy
      exact hb
end
end Go.Proofs.YtomglbjcfcijkaaDoor.PLx

namespace Go.Proofs.YtomglbjcfcijkaaDoor.PLx
open Go.RowKit Go.Proofs.YtomglbjcfcijkaaDoorW.PrintWords Go.Proofs.YtomglbjcfcijkaaDoorW.PrintLast Go.Proofs.YtomglbjcfcijkaaDoorW.PrintMore

/-- What is skipped. -/
def Skips (g : List UInt8) : Prop := g.length ≤ 104 ∧ ∀ X q, ∃ q', lexR (g ++ X) q = lexR X q'
theorem skips_space (c : UInt8) (h : kl c = 1) (X : List UInt8) (q : Nat) : lexR (c :: X) q = lexR X (q + 1) := by rw [lexR_cons, if_pos h]
theorem skips_comment (w X : List UInt8) (hw : (w.all fun b => b != 10) = true) (q : Nat) : ∃ q', lexR (47 :: 47 :: (w ++ 10 :: X)) q = lexR X q' := by
  obtain ⟨h1, h2⟩ := while_all (fun b => b != 10) (47 :: w) (by rw [List.all_cons, hw]; rfl)
  obtain ⟨h3, h4⟩ := while_take (fun b => b != 10) (47 :: w) (10 :: X) (.inr (by simp))
  rw [lexR_cons, if_neg (by decide), if_neg (by decide), if_neg (by decide), if_pos (by decide), if_pos ⟨rfl, rfl⟩]
  rw [List.cons_append] at h3 h4
  rw [h3, h4, h1, h2, List.nil_append]
  exact ⟨_, skips_space 10 (by decide) X _⟩
def gaps (w : List UInt8) : List ByteArray := [(⟨#[32]⟩ : ByteArray), (⟨#[9]⟩ : ByteArray), (⟨#[10]⟩ : ByteArray), (⟨#[13, 10]⟩ : ByteArray), (⟨#[32, 32]⟩ : ByteArray), ((⟨#[47, 47]⟩ : ByteArray) ++ bs w) ++ (⟨#[10]⟩ : ByteArray), (⟨#[32, 47, 47, 32, 10]⟩ : ByteArray), (⟨#[10, 47, 47, 10]⟩ : ByteArray)]
theorem gaps_skip (w : List UInt8) (hw : (w.all fun b => b != 10) = true) (hl : w.length ≤ 100) (n : Nat) (hn : n < 8) : Skips (rdOf ByteArray.empty (gaps w) (n : Int)).data.toList := by
  have one : ∀ c : UInt8, kl c = 1 → Skips [c] := fun c h => ⟨by simp, fun X q => ⟨q + 1, skips_space c h X q⟩⟩
  match n, hn with
  | 0, _ => exact one 32 (by decide)
  | 1, _ => exact one 9 (by decide)
  | 2, _ => exact one 10 (by decide)
  | 3, _ => exact ⟨(show ([13, 10] : List UInt8).length ≤ 104 by decide), fun X q => ⟨_, (skips_space 13 (by decide) (10 :: X) q).trans (skips_space 10 (by decide) X _)⟩⟩
  | 4, _ => exact ⟨(show ([32, 32] : List UInt8).length ≤ 104 by decide), fun X q => ⟨_, (skips_space 32 (by decide) (32 :: X) q).trans (skips_space 32 (by decide) X _)⟩⟩
  | 5, _ =>
    have e : (rdOf ByteArray.empty (gaps w) ((5 : Nat) : Int)).data.toList = 47 :: 47 :: (w ++ [10]) := by
      show ((((⟨#[47, 47]⟩ : ByteArray) ++ bs w) ++ (⟨#[10]⟩ : ByteArray))).data.toList = _
      simp [ByteArray.data_append, bs]
    rw [e]
    refine ⟨by simp; omega, fun X q => ?_⟩
    have := skips_comment w X hw q
    simpa using this
  | 6, _ =>
    refine ⟨(show ([32, 47, 47, 32, 10] : List UInt8).length ≤ 104 by decide), fun X q => ?_⟩
    obtain ⟨q', h⟩ := skips_comment [32] X (by decide) (q + 1)
    exact ⟨q', (skips_space 32 (by decide) _ q).trans h⟩
  | 7, _ =>
    refine ⟨(show ([10, 47, 47, 10] : List UInt8).length ≤ 104 by decide), fun X q => ?_⟩
    obtain ⟨q', h⟩ := skips_comment [] X (by decide) (q + 1)
    exact ⟨q', (skips_space 10 (by decide) _ q).trans h⟩
/-- The gap behind a token. -/
def gapAt (turns : List Int) (w : List UInt8) (k : Nat) : List UInt8 := if k < turns.length then (rdOf ByteArray.empty (gaps w) (Int.tmod (wrap64 (rd turns (k : Int))) 8)).data.toList else [32]
theorem rd_mem (turns : List Int) (ht : ∀ n ∈ turns, 0 ≤ n ∧ n ≤ 255) (k : Nat) (h : k < turns.length) : ∃ m : Nat, m < 8 ∧ Int.tmod (wrap64 (rd turns (k : Int))) 8 = (m : Int) := by
  have hm : rd turns (k : Int) = turns[k] := by
    unfold rd
    rw [Int.toNat_natCast, List.getD_eq_getElem?_getD, List.getElem?_eq_getElem h]; rfl
  have hb := ht turns[k] (List.getElem_mem h)
  rw [hm]
  obtain ⟨x, hx⟩ := Int.eq_ofNat_of_zero_le hb.1
  refine ⟨x % 8, by omega, ?_⟩
  rw [hx, show wrap64 (x : Int) = (x : Int) by unfold wrap64; omega, Int.tmod_eq_emod_of_nonneg (by omega)]; rfl
theorem gapAt_skip (turns : List Int) (ht : ∀ n ∈ turns, 0 ≤ n ∧ n ≤ 255) (w : List UInt8) (hw : (w.all fun b => b != 10) = true) (hl : w.length ≤ 100) (k : Nat) : Skips (gapAt turns w k) := by
  unfold gapAt
  split
  · rename_i h
    obtain ⟨m, hm, he⟩ := rd_mem turns ht k h
    rw [he]
    exact gaps_skip w hw hl m hm
  · exact ⟨by decide, fun X q => ⟨q + 1, skips_space 32 (by decide) X q⟩⟩
/-- Tokens, with their gaps. -/
def spaced (g : Nat → List UInt8) : List Tok → Nat → List UInt8
  | [], _ => []
  | t :: r, k => wordOf t ++ 32 :: (g k ++ spaced g r (k + 1))
theorem spaced_lex (g : Nat → List UInt8) (hg : ∀ k, Skips (g k)) : ∀ (r : List Tok) (k q : Nat), (∀ t ∈ r, validT t = true) → ∃ ts, lexR (spaced g r k) q = .ok ts ∧ sameToks r ts = true
  | [], k, q, _ => ⟨[], rfl, rfl⟩
  | t :: r, k, q, h => by
    have hv := h t List.mem_cons_self
    obtain ⟨t', h1, h2⟩ := word_lex t hv (32 :: (g k ++ spaced g r (k + 1))) (.inr ⟨_, _, rfl, by decide⟩) q
    obtain ⟨q', h3⟩ := (hg k).2 (spaced g r (k + 1)) (q + (spellT t).length + 1)
    obtain ⟨ts, h4, h5⟩ := spaced_lex g hg r (k + 1) q' (fun x hx => h x (List.mem_cons_of_mem _ hx))
    refine ⟨t' :: ts, ?_, by rw [sameToks, h1, h5]; rfl⟩
    rw [spaced, wordOf_spell t hv, h2, skips_space 32 (by decide), h3, h4]; rfl
theorem spaced_len (g : Nat → List UInt8) (hg : ∀ k, Skips (g k)) : ∀ (r : List Tok) (k : Nat), (spaced g r k).length ≤ (r.map fun t => t.f1.size).sum + 125 * r.length
  | [], _ => Nat.le_refl _
  | t :: r, k => by
    have h1 := (hg k).1
    have h2 := word_len t
    have h3 := spaced_len g hg r (k + 1)
    rw [spaced]
    simp only [List.length_append, List.length_cons, List.map_cons, List.sum_cons]
    omega
theorem words_loop (a : List Tok) (turns : List Int) (note : ByteArray) (hn : note.size ≤ 100) : ∀ (d i K : Nat) (acc : ByteArray), i + d = note.size → d < K → acc.size ≤ i →
    sizarlaw09_LexSpaces.l0 K a turns note acc (i : Int) = sizarlaw09_LexSpaces.l0 (K - d) a turns note (bs (acc.data.toList ++ (note.data.toList.drop i).filter fun b => b != 10)) (note.size : Int)
  | 0, i, K, acc, hi, hK, ha => by
    rw [List.drop_of_length_le (by rw [size_data]; omega), List.filter_nil, List.append_nil, show i = note.size by omega]; rfl
  | d + 1, i, K, acc, hi, hK, ha => by
    obtain ⟨K, rfl⟩ : ∃ m, K = m + 1 := ⟨K - 1, by omega⟩
    have hlt : i < note.size := by omega
    have hw : wrap64 ((i : Int) + 1) = ((i + 1 : Nat) : Int) := by unfold wrap64; omega
    have c1 : (i : Int) < (note.size : Int) := by omega
    have c2 : (0 : Int) ≤ (i : Int) := by omega
    have c3 : (i : Int) ≤ ((i + 1 : Nat) : Int) := by omega
    have c4 : ((i + 1 : Nat) : Int) ≤ (note.size : Int) := by omega
    have hb : bt note (i : Int) = (note[i].toNat : Int) := bt_nat note i hlt
    have hex : (note.extract i (i + 1)).data.toList = [note[i]] := by
      rw [Lib.extract_data, data_drop note i hlt, show i + 1 - i = 0 + 1 by omega, List.take_succ_cons, List.take_zero]
    have hes : (note.extract i (i + 1)).size = 1 := by rw [← size_data, hex]; rfl
    rw [show K + 1 - (d + 1) = K - d by omega, data_drop note i hlt]
    simp only [sizarlaw09_LexSpaces.l0, hw, if_pos c1, if_pos c2, if_pos c3, if_pos c4, hb, Int.toNat_natCast, hes]
    by_cases h10 : note[i] = 10
    · rw [if_pos (by rw [h10]; rfl), words_loop a turns note hn d (i + 1) K acc (by omega) (by omega) (by omega), List.filter_cons_of_neg (by rw [h10]; decide)]
    · have h10' : ¬ ((note[i].toNat : Int) = 10) := fun hc => h10 (UInt8.toNat_inj.1 (by have : ((10 : UInt8).toNat : Int) = 10 := rfl; omega))
      have hsz : (acc ++ note.extract i (i + 1)).size = acc.size + 1 := by rw [ByteArray.size_append, hes]
      rw [if_neg h10', if_pos (by omega), words_loop a turns note hn d (i + 1) K _ (by omega) (by omega) (by omega), List.filter_cons_of_pos (by rw [bne_iff_ne]; exact h10)]
      rw [show (acc ++ note.extract i (i + 1)).data.toList = acc.data.toList ++ [note[i]] by rw [ByteArray.data_append, Array.toList_append, hex], List.append_assoc]; rfl
theorem Text_one (t : Tok) (hs : t.f1.size ≤ 2000) : lex_Text.f [⟨t.f0, t.f1, t.f2, t.f3⟩] = some (if validT t = true then (bs (wordOf t), 0) else (bs [], 90)) := by
  have hwl := word_len t
  have hw : textOf [t] = wordOf t := rfl
  cases h : validT t
  · exact Text_bad (l := [t]) (by simp [h]) (by simp)
  · rw [if_pos rfl, ← hw]
    exact Text_ok (l := [t]) (fun x hx => by rw [List.mem_singleton.1 hx]; exact h) (by simp) (by rw [hw]; omega)
set_option maxHeartbeats 1000000 in
theorem spaces_loop (a : List Tok) (hF : Few a) (turns : List Int) (ht : ∀ n ∈ turns, 0 ≤ n ∧ n ≤ 255) (w : List UInt8) (hw : (w.all fun b => b != 10) = true) (hl : w.length ≤ 100) : ∀ (d k K : Nat) (s : ByteArray), k + d = a.length → d < K →
    (∀ t ∈ a.take k, validT t = true) → s.data.toList ++ spaced (gapAt turns w) (a.drop k) k = 10 :: spaced (gapAt turns w) a 0 →
    sizarlaw09_LexSpaces.l1 K a turns (gaps w) s a (a.length : Int) (k : Int) = some true
  | 0, k, K, s, hk, hK, hv, hs => by
    obtain ⟨K, rfl⟩ : ∃ m, K = m + 1 := ⟨K - 1, by omega⟩
    have hg := gapAt_skip turns ht w hw hl
    rw [List.take_of_length_le (by omega)] at hv
    rw [List.drop_of_length_le (by omega)] at hs
    simp only [spaced, List.append_nil] at hs
    obtain ⟨ts, e1, e2⟩ := spaced_lex _ hg a 0 1 hv
    have hlen := spaced_len _ hg a 0
    have h200 := hF.1
    have h2000 := hF.2
    have hsz : s.size ≤ 65536 := by rw [← size_data, hs, List.length_cons]; omega
    have e3 := Lex_ok (a := s) (l := ts) hsz (by rw [hs, lexOf_R, skips_space 10 (by decide)]; exact e1)
    simp only [sizarlaw09_LexSpaces.l1]
    rw [if_neg (by omega), e3]
    simp only [Option.bind_some, if_true, lex_Same.f, e2]
  | d + 1, k, K, s, hk, hK, hv, hs => by
    obtain ⟨K, rfl⟩ : ∃ m, K = m + 1 := ⟨K - 1, by omega⟩
    have hg := gapAt_skip turns ht w hw hl
    have hlt : k < a.length := by omega
    have h200 := hF.1
    have h2000 := hF.2
    have ha := at_some a k hlt
    have hm := sum_mem a _ (List.mem_of_getElem? ha)
    have hlen := spaced_len _ hg a 0
    have hd := List.drop_eq_getElem_cons hlt
    have htk : a.take (k + 1) = a.take k ++ [a[k]] := by rw [List.take_succ_eq_append_getElem hlt]
    have hmem : a[k] ∈ a := List.getElem_mem hlt
    rw [List.getElem?_eq_getElem hlt] at ha
    injection ha with ha
    rw [ha] at hd htk hmem
    rw [hd, spaced] at hs
    have hw2 : wrap64 ((k : Int) + 1) = ((k + 1 : Nat) : Int) := by unfold wrap64; omega
    have c1 : (k : Int) < (a.length : Int) := by omega
    have c2 : (0 : Int) ≤ (k : Int) := by omega
    have hone := Text_one (rd_T35 a (k : Int)) (by omega)
    have ih := fun s' hv' hs' => spaces_loop a hF turns ht w hw hl d (k + 1) K s' (by omega) (by omega) hv' hs'
    simp only [sizarlaw09_LexSpaces.l1, if_pos c1, if_pos c2, hone, Option.bind_some]
    generalize rd_T35 a (k : Int) = t at hs hm hmem htk
    have hsl := congrArg List.length hs
    simp only [List.length_append, List.length_cons] at hsl
    rw [size_data] at hsl
    have hbs : (bs (wordOf t)).size = (wordOf t).length := by rw [← size_data]; rfl
    have hb1 : (bs (wordOf t) ++ (⟨#[32]⟩ : ByteArray)).size = (wordOf t).length + 1 := by rw [ByteArray.size_append, hbs]; rfl
    by_cases hvt : validT t = true
    · rw [if_pos hvt]
      have hv' : ∀ x ∈ a.take (k + 1), validT x = true := by
        intro x hx
        rw [htk] at hx
        rcases List.mem_append.1 hx with hx | hx
        · exact hv x hx
        · have : x = t := by simpa using hx
          subst this; exact hvt
      have key : ∀ g : ByteArray, g.data.toList = gapAt turns w k → sizarlaw09_LexSpaces.l1 K a turns (gaps w) (s ++ ((bs (wordOf t) ++ (⟨#[32]⟩ : ByteArray)) ++ g)) a (a.length : Int) ((k + 1 : Nat) : Int) = some true := by
        intro g hgg
        refine ih _ hv' ?_
        rw [← hs, ← hgg]
        simp [ByteArray.data_append, bs]
      have hgs : ∀ g : ByteArray, g.data.toList = gapAt turns w k → g.size = (gapAt turns w k).length := by
        intro g hgg; rw [← size_data, hgg]
      simp only [if_true, hw2]
      by_cases hkt : k < turns.length
      · have hga : gapAt turns w k = (rdOf ByteArray.empty (gaps w) (Int.tmod (wrap64 (rd turns (k : Int))) 8)).data.toList := by unfold gapAt; rw [if_pos hkt]
        obtain ⟨m, hm8, he⟩ := rd_mem turns ht k hkt
        have hgl : ((gaps w).length : Int) = 8 := rfl
        rw [he] at hga
        have hsz2 := hgs _ hga.symm
        rw [if_pos (by omega), hgl, if_neg (by decide), he, if_pos (by omega), if_pos (by omega), if_pos (by rw [hbs]; omega), hb1, if_pos (by rw [hsz2]; omega)]
        rw [if_pos (by rw [ByteArray.size_append, hb1, hsz2]; omega)]
        exact key _ hga.symm
      · have hga : gapAt turns w k = [32] := by unfold gapAt; rw [if_neg hkt]
        have hsz2 : (⟨#[32]⟩ : ByteArray).size = 1 := rfl
        rw [hga] at hsl
        rw [if_neg (by omega), if_pos (by rw [hbs]; omega), hb1, if_pos (by omega), if_pos (by rw [ByteArray.size_append, hb1, hsz2]; simp at hsl; omega)]
        exact key _ (by rw [hga])
    · rw [if_neg hvt]
      have hbad : a.all validT = false := by
        cases h : a.all validT
        · rfl
        · rw [List.all_eq_true] at h
          exact absurd (h t hmem) hvt
      simp only [show ¬ (90 : Int) = 0 by decide, if_false, Text_bad hbad (by omega), Option.bind_some]
      rfl
theorem pureLexSpaces (a : List Tok) (turns : List Int) (note : ByteArray) (ha : a.length ≤ 9223372036854775806) (wa : ∀ t ∈ a, t.f1.size ≤ 140737488351232) (ht : ∀ n ∈ turns, 0 ≤ n ∧ n ≤ 255) : ∃ k, sizarlaw09_LexSpaces.f k a turns note = some true := by
  refine ⟨a.length + 500, ?_⟩
  obtain ⟨fa, ea, ga⟩ := few_f a ha wa (a.length + 500) (by omega)
  unfold sizarlaw09_LexSpaces.f
  rw [sane_all _ (by omega), Option.bind_some, if_pos rfl, ea, Option.bind_some]
  cases fa
  · rfl
  rw [if_pos rfl]
  have hFa := ga rfl
  by_cases h100 : (note.size : Int) > 100
  · rw [decide_eq_true h100]; rfl
  rw [decide_eq_false h100]
  have hwl := words_loop a turns note (by omega) note.size 0 (a.length + 499) ⟨#[]⟩ (by omega) (by omega) (Nat.zero_le _)
  rw [List.drop_zero] at hwl
  have hall : ((note.data.toList.filter fun b => b != 10).all fun b => b != 10) = true := by
    rw [List.all_eq_true]; intro x hx; exact (List.mem_filter.1 hx).2
  have hlen : (note.data.toList.filter fun b => b != 10).length ≤ 100 := by
    have := List.length_filter_le (fun b : UInt8 => b != 10) note.data.toList
    rw [size_data] at this; omega
  have hj : sizarlaw09_LexSpaces.j0 (a.length + 500) a turns note false = sizarlaw09_LexSpaces.l0 (a.length + 499) a turns note ⟨#[]⟩ 0 := by
    simp only [sizarlaw09_LexSpaces.j0, Bool.false_eq_true, if_false]
  rw [hj]
  refine hwl.trans ?_
  have hnil : (⟨#[]⟩ : ByteArray).data.toList ++ (note.data.toList.filter fun b => b != 10) = note.data.toList.filter fun b => b != 10 := rfl
  rw [hnil]
  generalize note.data.toList.filter (fun b => b != 10) = w at hall hlen
  obtain ⟨m, hm⟩ : ∃ m, a.length + 499 - note.size = m + 1 := ⟨a.length + 499 - note.size - 1, by omega⟩
  rw [hm]
  have hbs : (bs w).size = w.length := by rw [← size_data]; rfl
  have h47 : ((⟨#[47, 47]⟩ : ByteArray) ++ bs w).size = 2 + w.length := by rw [ByteArray.size_append, hbs]; rfl
  simp only [sizarlaw09_LexSpaces.l0]
  rw [if_neg (by omega), if_pos (by rw [hbs]; omega), if_pos (by rw [h47]; omega)]
  exact spaces_loop a hFa turns ht w hall hlen a.length 0 m ⟨#[10]⟩ (by omega) (by omega) (fun t h => by simp at h) rfl
theorem walkLexSpaces (W : World) (A0 : Option Addr) (c0 : Nat) (l0 : List Tok) (hr0 : Kd.C k35 W A0 l0.length l0) (hc0 : l0.length ≤ c0) (A1 : Option Addr) (c1 : Nat) (l1 : List Int) (hr1 : Kd.C (Kd.int .u8) W A1 l1.length l1) (hc1 : l1.length ≤ c1) (s : ByteArray)
    (w0 : ∀ t ∈ l0, t.f1.size ≤ 140737488351232) (n0 : l0.length ≤ 9223372036854775806) (b1 : ∀ n ∈ l1, 0 ≤ n ∧ n ≤ 255) (hL : Laid W) :
    Calls Tryd.prog 7 #[.slice A0 l0.length c0, .slice A1 l1.length c1, .string s] W fun e w' => e = .returned (.bool true) ∧ Below W.heap.size W w' := by
  obtain ⟨k, hk⟩ := pureLexSpaces l0 l1 s n0 w0 b1
  exact sizarlaw09_LexSpaces.calls k A0 c0 l0 A1 c1 l1 s true W hr0 hc0 hr1 hc1 hL hk
end Go.Proofs.YtomglbjcfcijkaaDoor.PLx

namespace Go.Proofs.YtomglbjcfcijkaaDoor.lexSpaces
open Go.ChangeShapes Go.WideShapes Go.ChangeAt Go.RowKit
open Go.ChangeMaps (open_string shut_string)
open Go.Proofs.YtomglbjcfcijkaaDoor.PLx
set_option linter.unusedVariables false
theorem laidOut : laidOutB Tryd.prog = true := by kernel_rfl
set_option maxRecDepth 100000 in
theorem lifted (os : Os) (started : os.Started) (H : Type) (enc : TypeId × Value → H) :
    ReturnsInHanded {} Tryd.checked os 7 .any (fun w args => (Rows.lexSpacesSpec.pre enc Tryd.prog Tryd.f7 [] false w args ∧ laidMetH Tryd.prog Rows.lexSpacesRow.laid w) ∧ sizedMet enc Tryd.prog Tryd.f7 (OpenSpec.ofChange Rows.lexSpacesSpec) false w args) (Rows.lexSpacesSpec.post enc Tryd.prog Tryd.f7 false true false false) := by
  refine returnsInHanded_of_change_and (C := Tryd.checked) (X := fun w _ => laidMetH Tryd.prog Rows.lexSpacesRow.laid w) (fun _ _ _ hh h => h.of_heap hh) ownNone started (by kernel_rfl) Tryd.func7
    (ChangeSpec.witness_shaped (enc := enc) (C := Tryd.checked) (os := os) (X := fun w _ => laidMetH Tryd.prog Rows.lexSpacesRow.laid w) false (doorW os) #[.slice none 0 0, .slice none 0 0, .string ByteArray.empty] 8 rfl (World.shaped_of_RefB (by kernel_rfl) (by kernel_rfl)) (by kernel_rfl) (by kernel_rfl) (by kernel_rfl) (door_met os _)) ?_
  intro W base args ds gs before hval0 hW hcnd hsz0 hX _
  have hsz : (DataW.weightsEach Tryd.prog (Tryd.f7.params.toList ++ Rows.lexSpacesSpec.plain.varTypes Tryd.prog) (ds ++ gs)).all (· ≤ reachBytes) = true := hsz0
  have hval : ∀ (j : Nat) t v, Tryd.f7.params[j]? = some t → args[j]? = some v → Value.okWide Tryd.prog W .any base t v := hval0
  have hW' := hW
  obtain ⟨p, q, hA0, hV, rfl, hfz, hnd⟩ := hW
  have hA : DataW.TrodAll enc Tryd.prog W 0 (fun _ => true) true Tryd.f7.params.toList args.toList ds p := hA0
  rw [Tryd.params7] at hA hval hsz
  obtain ⟨v0, vs0, d0, ds0, p0, q0, hargs, rfl, rfl, h0, r0⟩ := trodAll_cons hA
  obtain ⟨v1, vs1, d1, ds1, p1, q1, rfl, rfl, rfl, h1, r1⟩ := trodAll_cons r0
  obtain ⟨v2, vs2, d2, ds2, p2, q2, rfl, rfl, rfl, h2, r2⟩ := trodAll_cons r1
  obtain ⟨rfl, rfl, rfl⟩ := trodAll_nil r2
  obtain rfl : args = #[v0, v1, v2] := by cases args; simp_all
  obtain ⟨rfl, rfl⟩ := trodVars_none hV
  have hL := laid_of_row hX
  obtain ⟨A0, len0, cap0, rfl⟩ := okWide_slice Tryd.underlying23 (hval 0 23 v0 rfl rfl)
  have k0 := h0
  have lt0 : ∀ x ∈ p0, x.block < W.heap.size := by obtain ⟨m, hm⟩ := k0; exact DataW.trod_lt m _ _ _ hm
  obtain ⟨l0, hl0, hc0, hr0, hd0⟩ := toks_of_trod h0
  subst hl0
  obtain ⟨w0, n0⟩ := toks_sized hsz (j := 0) rfl rfl hd0
  obtain ⟨A1, len1, cap1, rfl⟩ := okWide_slice Tryd.underlying38 (hval 1 38 v1 rfl rfl)
  have k1 := h1
  have lt1 : ∀ x ∈ p1, x.block < W.heap.size := by obtain ⟨m, hm⟩ := k1; exact DataW.trod_lt m _ _ _ hm
  obtain ⟨l1, hl1, hc1, hr1, b1⟩ := bytes_of_trod Tryd.underlying38 h1
  subst hl1
  obtain ⟨a2, rfl, rfl, rfl, y2⟩ := open_string Tryd.underlying9 (hval 2 9 v2 rfl rfl) h2
  have w2 : a2.size ≤ 140737488351232 := by
    have z := sized_string hsz (j := 2) (t := 9) rfl rfl
    rw [Array.length_toList] at z
    exact z
  refine (walkLexSpaces W A0 cap0 l0 hr0 hc0 A1 cap1 l1 hr1 hc1 a2 w0 n0 b1 hL).mono fun e W' ⟨he, bel⟩ => ?_
  subst he
  exact ⟨_, rfl, _, _, _, [], _, [], hW', trodAll_mk1 (shut_bool Tryd.underlying4 _), (trodAll_cons_mk (Below.trod laidOut (by kernel_rfl) (of_decide_eq_true (by kernel_rfl)) k0 bel lt0) (trodAll_cons_mk (Below.trod laidOut (by kernel_rfl) (of_decide_eq_true (by kernel_rfl)) k1 bel lt1) (trodAll_cons_mk (shut_string Tryd.underlying9 y2) trodAll_mk0))), rfl, bel.frame _, fun h => by cases h⟩
theorem over : Rows.lexSpacesRow.holds Tryd.pinned (OpenSpec.ofChange Rows.lexSpacesSpec) :=
  OpenClaim.holds_of_wide 7 Tryd.f7 rfl rfl rfl rfl rfl rfl rfl ⟨rfl, rfl, rfl, rfl, rfl⟩ rfl rfl rfl rfl rfl (by kernel_rfl) Tryd.func7 (by kernel_rfl)
    (of_decide_eq_true (by kernel_rfl)) (by unfold Func.isWrapper; first | (rw [if_pos (by decide +kernel)]; kernel_rfl) | (rw [if_neg (by decide +kernel)]; exact ⟨rfl, rfl⟩))
    (fun os started H enc _ => lifted os started H enc)
theorem card : Rows.LexSpacesCardSaid :=
  Claim7.holds_tied_plain_at .later [] [.data, .data, .data, .sentinel, .sentinel] true (true, "ae60ee85bae1412e4cc9c73726323c87789b3eb36cc3db7c69b93d92b3735f87") true
    over (fun _ h => by cases h) (by kernel_rfl) (fun _ h => by cases h) lexSpaces_row_tie rfl ⟨rfl, rfl⟩ (by kernel_rfl) rfl
    (fun f fn hf hfn => by
      obtain rfl : f = 7 := Option.some.inj ((show Tryd.prog.funcNamed "sizar/sizarlaw09.LexSpaces" = some 7 by kernel_rfl).symm.trans hf) |>.symm
      obtain rfl : fn = Tryd.f7 := (Option.some.inj (Tryd.func7.symm.trans hfn)).symm
      exact ⟨by kernel_rfl, fun j t ht => by
        rw [Tryd.params7] at ht
        have hm : t ∈ [23, 38, 9] := by simpa using Array.mem_of_getElem? ht
        have hall : ([23, 38, 9].all fun u => !Tryd.prog.wantsStandIn u) = true := by kernel_rfl
        exact (show Tryd.prog.wantsStandIn t = false by simpa using List.all_eq_true.1 hall t hm)⟩)
    (by kernel_rfl)
end Go.Proofs.YtomglbjcfcijkaaDoor.lexSpaces
namespace Go.Proofs.YtomglbjcfcijkaaDoor
/-- The card, under a short name, for the claim. -/
theorem lexSpaces_card_holds : Rows.LexSpacesCardSaid := lexSpaces.card
#print axioms lexSpaces_card_holds
end Go.Proofs.YtomglbjcfcijkaaDoor
