/- Written by xprint.py (this session's own program over the kit's print); Lean checks it. -/
import Derived.Test.YtomglbjcfcijkaaDoorPLxx0
import Derived.Test.YtomglbjcfcijkaaDoorPLxx3
import Derived.Test.YtomglbjcfcijkaaDoorPLxx5
import Derived.Test.YtomglbjcfcijkaaDoorPLxx7
import Derived.Test.YtomglbjcfcijkaaDoorPackRef
import Derived.Test.YtomglbjcfcijkaaDoorLexExt
import Derived.Test.YtomglbjcfcijkaaDoorPLxx6
import Derived.Test.YtomglbjcfcijkaaDoorLexSame
import Derived.Test.YtomglbjcfcijkaaDoorPackErr
import Derived.Test.YtomglbjcfcijkaaDoorLexFact
import Derived.Test.YtomglbjcfcijkaaDoorLexM
import Derived.ChangeArms
import Derived.Lib.LaidTab
import Derived.WideShapes
import Derived.SizedLaws
import Derived.ProofKit
import Derived.JoinedOf
import Derived.Test.YtomglbjcfcijkaaDoorRows
import Derived.Test.YtomglbjcfcijkaaDoorCards
import Derived.Test.YtomglbjcfcijkaaDoorTie
import Derived.Test.YtomglbjcfcijkaaDoorLexMet
import Derived.WalkKit
import Derived.OpenShut
import Derived.ShutString
import Derived.ChangeOld
import Derived.Below
import Derived.LaidMore
import Derived.SevenTiedAt
import Derived.Stop.Joined
namespace Go.Proofs.YtomglbjcfcijkaaDoor.PLx
open Go.RowKit Go.Proofs.YtomglbjcfcijkaaDoorW.PrintWords Go.Proofs.YtomglbjcfcijkaaDoorW.PrintLast Go.Proofs.YtomglbjcfcijkaaDoorW.PrintMore
attribute [local go_sem] max2_int min2_int max_two min_two max_three min_three max_four min_four   -- for this text's walks alone
set_option linter.unusedVariables false
set_option linter.unusedSimpArgs false

/-! ### sizarlaw09_LexTextSpec: function 4 -/
def sizarlaw09_LexTextSpec.j0 : Nat → List (S35) → List (S35) → ByteArray → Bool → Option (Bool)
  | 0, _, _, _, _ => none
  | k + 1, x0, x1, x2, x25 => if x25 = true then (some true) else ((lex_Text.f x0).bind fun bt286 => ((sizarref09_Text.f k x0).bind fun bt288 => (if bt286.1.toList = bt288.1.toList then (if bt286.2 = bt288.2 then ((lex_Same.f x0 x1).bind fun t290 => ((sizarref09_Same.f k x0 x1).bind fun t291 => (if (t290 == t291) = true then ((lex_Same.f x0 x0).bind fun t292 => (if t292 = true then ((lex_Name.f k x2).bind fun t293 => ((sizarref09_Name.f k x2).bind fun t294 => (some (t293 == t294)))) else (some false))) else (some false)))) else (some false)) else (some false))))
def sizarlaw09_LexTextSpec.f (k : Nat) (l0 : List (S35)) (l1 : List (S35)) (a2 : ByteArray) : Option (Bool) := (sizarlaw09_sane.f k).bind fun t283 => (if t283 = true then ((sizarref09_Few.f k l0).bind fun t284 => (if t284 = true then ((sizarref09_Few.f k l1).bind fun t285 => (if t285 = true then (sizarlaw09_LexTextSpec.j0 k l0 l1 a2 (decide ((a2.size : Int) > 1000))) else (sizarlaw09_LexTextSpec.j0 k l0 l1 a2 true))) else (sizarlaw09_LexTextSpec.j0 k l0 l1 a2 true))) else (some false))
theorem sizarlaw09_LexTextSpec.mono_l : ∀ k, (∀ y0 y1 y2 y3, LeO (sizarlaw09_LexTextSpec.j0 k y0 y1 y2 y3) (sizarlaw09_LexTextSpec.j0 (k + 1) y0 y1 y2 y3))
  | 0 => fun _ _ _ _ r h => by simp [sizarlaw09_LexTextSpec.j0] at h
  | k + 1 => by
    have ih0 := sizarlaw09_LexTextSpec.mono_l k
    · intro y0 y1 y2 y3
      unfold sizarlaw09_LexTextSpec.j0
      repeat' first
      | (with_reducible exact ih0 _ _ _ _)
      | (with_reducible exact lex_Name.mono _ _)
      | (with_reducible exact sizarlaw09_sane.mono _)
      | (with_reducible exact sizarref09_Few.mono _ _)
      | (with_reducible exact sizarref09_Name.mono _ _)
      | (with_reducible exact sizarref09_Same.mono _ _ _)
      | (with_reducible exact sizarref09_Text.mono _ _)
      | (with_reducible exact LeO.refl _)
      | (with_reducible exact LeO.none _)
      | (with_reducible refine LeO.ite ?_ ?_)
      | (with_reducible refine LeO.bind ?_ (fun _ => ?_))
      | exact ih0 _ _ _ _
      | exact lex_Name.mono _ _
      | exact sizarlaw09_sane.mono _
      | exact sizarref09_Few.mono _ _
      | exact sizarref09_Name.mono _ _
      | exact sizarref09_Same.mono _ _ _
      | exact sizarref09_Text.mono _ _
      | exact LeO.none _
      | refine LeO.ite ?_ ?_
      | refine LeO.bind ?_ (fun _ => ?_)
theorem sizarlaw09_LexTextSpec.mono : ∀ a0 a1 a2 k, LeO (sizarlaw09_LexTextSpec.f k a0 a1 a2) (sizarlaw09_LexTextSpec.f (k + 1) a0 a1 a2) := by
  intro a0 a1 a2 k
  have ih0 := sizarlaw09_LexTextSpec.mono_l k
  unfold sizarlaw09_LexTextSpec.f
  repeat' first
      | (with_reducible exact ih0 _ _ _ _)
      | (with_reducible exact lex_Name.mono _ _)
      | (with_reducible exact sizarlaw09_sane.mono _)
      | (with_reducible exact sizarref09_Few.mono _ _)
      | (with_reducible exact sizarref09_Name.mono _ _)
      | (with_reducible exact sizarref09_Same.mono _ _ _)
      | (with_reducible exact sizarref09_Text.mono _ _)
      | (with_reducible exact LeO.refl _)
      | (with_reducible exact LeO.none _)
      | (with_reducible refine LeO.ite ?_ ?_)
      | (with_reducible refine LeO.bind ?_ (fun _ => ?_))
      | exact ih0 _ _ _ _
      | exact lex_Name.mono _ _
      | exact sizarlaw09_sane.mono _
      | exact sizarref09_Few.mono _ _
      | exact sizarref09_Name.mono _ _
      | exact sizarref09_Same.mono _ _ _
      | exact sizarref09_Text.mono _ _
      | exact LeO.none _
      | refine LeO.ite ?_ ?_
      | refine LeO.bind ?_ (fun _ => ?_)
set_option maxHeartbeats 8000000 in
set_option maxRecDepth 100000 in
theorem sizarlaw09_LexTextSpec.calls (k : Nat) (A0 : Option Addr) (c0 : Nat) (l0 : List (S35)) (A1 : Option Addr) (c1 : Nat) (l1 : List (S35)) (a2 : ByteArray) (r : Bool) (w : World) (hr0 : Kd.C k35 w A0 l0.length l0) (hc0 : l0.length ≤ c0) (hr1 : Kd.C k35 w A1 l1.length l1) (hc1 : l1.length ≤ c1) (hL : Laid w) (h : sizarlaw09_LexTextSpec.f k l0 l1 a2 = some r) :
    Calls Tryd.prog 4 #[.slice A0 l0.length c0, .slice A1 l1.length c1, .string a2] w fun e w' => e = .returned (.bool r) ∧ Below w.heap.size w w' := by
  have HR0 := Aside0.mk hr0
  have HC0 := Aside0.mk hc0
  clear hr0 hc0
  have HR1 := Aside0.mk hr1
  have HC1 := Aside0.mk hc1
  clear hr1 hc1
  have HB := Aside0.mk (Below.refl w.heap.size w)
  have H : ((sizarlaw09_sane.f k).bind fun t283 => (if t283 = true then ((sizarref09_Few.f k l0).bind fun t284 => (if t284 = true then ((sizarref09_Few.f k l1).bind fun t285 => (if t285 = true then (sizarlaw09_LexTextSpec.j0 k l0 l1 a2 (decide ((a2.size : Int) > 1000))) else (sizarlaw09_LexTextSpec.j0 k l0 l1 a2 true))) else (sizarlaw09_LexTextSpec.j0 k l0 l1 a2 true))) else (some false))) = some r := h
  clear h
  replace H := Option.bind_eq_some_iff.mp H
  obtain ⟨t283, A40, H⟩ := H
  replace H : (if t283 = true then ((sizarref09_Few.f k l0).bind fun t284 => (if t284 = true then ((sizarref09_Few.f k l1).bind fun t285 => (if t285 = true then (sizarlaw09_LexTextSpec.j0 k l0 l1 a2 (decide ((a2.size : Int) > 1000))) else (sizarlaw09_LexTextSpec.j0 k l0 l1 a2 true))) else (sizarlaw09_LexTextSpec.j0 k l0 l1 a2 true))) else (some false)) = some r := H
  have A4 := Aside0.mk A40
  clear A40
  by_cases c5 : t283 = true
  · subst c5
    have H1 : ((sizarref09_Few.f k l0).bind fun t284 => (if t284 = true then ((sizarref09_Few.f k l1).bind fun t285 => (if t285 = true then (sizarlaw09_LexTextSpec.j0 k l0 l1 a2 (decide ((a2.size : Int) > 1000))) else (sizarlaw09_LexTextSpec.j0 k l0 l1 a2 true))) else (sizarlaw09_LexTextSpec.j0 k l0 l1 a2 true))) = some r := by rw [if_pos rfl] at H; exact H
    clear H
    have H := H1
    clear H1
    have HC6 := Aside0.mk H
    clear H
    go_enter Tryd.func4, Tryd.ntmps4
    go_upto_region 3 with (first | ((with_reducible refine gate_callee (f := 14) rfl ?_); refine goesL_ (some 11) rfl rfl Tryd.func14 (by kernel_rfl) rfl #[] rfl (by (try simp only [List.map_toArray, List.map_cons, List.map_nil]); first | done | rfl | (simp only [List.length_drop, List.length_take]; rfl)) ?_; (with_reducible refine (sizarlaw09_sane.calls k  true _ ?side1 A4.out).mono ?_); (case side1 => exact Laid.below hL (by repeat (first | (with_reducible first | exact HB.out | apply below_alloc | apply pw_below_drewN | apply below_drew1) | exact HB.out))); rintro e w7 ⟨rfl, hb⟩; refine ⟨_, rfl, ?_⟩; have n0_ := Aside0.mk (below_step (by repeat (first | (with_reducible first | exact HB.out | apply below_alloc | apply pw_below_drewN | apply below_drew1) | exact HB.out)) hb); clear HB; have HB := n0_; clear n0_; (try clear hb); (try clear hb2); (try clear hk); (try clear hi)))
    (try simp only [Act.put, List.setIfInBounds_toArray, List.set_cons_zero, List.set_cons_succ])
    go_cut [25] (fun v25 wc => ∃ (kq : Nat) (x25_5 : Bool), v25 = .bool x25_5 ∧ Aside0 (sizarlaw09_LexTextSpec.j0 kq l0 l1 a2 x25_5 = some r) ∧ Aside0 (kq ≤ k) ∧ Aside0 (Below w.heap.size w wc))
    case first =>
      have H := HC6.out
      clear HC6
      replace H := Option.bind_eq_some_iff.mp H
      obtain ⟨t284, A80, H⟩ := H
      replace H : (if t284 = true then ((sizarref09_Few.f k l1).bind fun t285 => (if t285 = true then (sizarlaw09_LexTextSpec.j0 k l0 l1 a2 (decide ((a2.size : Int) > 1000))) else (sizarlaw09_LexTextSpec.j0 k l0 l1 a2 true))) else (sizarlaw09_LexTextSpec.j0 k l0 l1 a2 true)) = some r := H
      have A8 := Aside0.mk A80
      clear A80
      by_cases c9 : t284 = true
      · subst c9
        have H1 : ((sizarref09_Few.f k l1).bind fun t285 => (if t285 = true then (sizarlaw09_LexTextSpec.j0 k l0 l1 a2 (decide ((a2.size : Int) > 1000))) else (sizarlaw09_LexTextSpec.j0 k l0 l1 a2 true))) = some r := by rw [if_pos rfl] at H; exact H
        clear H
        have H := H1
        clear H1
        replace H := Option.bind_eq_some_iff.mp H
        obtain ⟨t285, A100, H⟩ := H
        replace H : (if t285 = true then (sizarlaw09_LexTextSpec.j0 k l0 l1 a2 (decide ((a2.size : Int) > 1000))) else (sizarlaw09_LexTextSpec.j0 k l0 l1 a2 true)) = some r := H
        have A10 := Aside0.mk A100
        clear A100
        by_cases c11 : t285 = true
        · subst c11
          have H1 : (sizarlaw09_LexTextSpec.j0 k l0 l1 a2 (decide ((a2.size : Int) > 1000))) = some r := by rw [if_pos rfl] at H; exact H
          clear H
          have H := H1
          clear H1
          have H' := Aside0.mk H
          clear H
          go_wp2_with (first | ((with_reducible refine gate_callee (f := 18) rfl ?_); refine goesL_ (some 14) rfl rfl Tryd.func18 (by kernel_rfl) rfl #[.slice A0 l0.length c0] rfl (by (try simp only [List.map_toArray, List.map_cons, List.map_nil]); first | done | rfl | (simp only [List.length_drop, List.length_take]; rfl)) ?_; (with_reducible refine (sizarref09_Few.calls k _ _ l0 true _ ?side1 ?side2 A8.out).mono ?_); (case side1 => repeat (first | exact (Kd.C_below HR0.out HB.out) | (with_reducible refine Kd.C_alloc ?_ _) | (with_reducible refine Kd.C_drewN ?_ _) | (with_reducible refine Kd.C_drew ?_))); (case side2 => exact HC0.out); rintro e w' ⟨rfl, ⟨nd, rfl⟩⟩; refine ⟨_, rfl, ?_⟩) | (go_at_call 18; (with_reducible refine (sizarref09_Few.calls k _ _ l1 true _ ?side1 ?side2 A10.out).mono ?_); (case side1 => repeat (first | exact (Kd.C_below HR1.out (by repeat (first | (with_reducible first | exact HB.out | apply below_alloc | apply pw_below_drewN | apply below_drew1) | exact HB.out))) | (with_reducible refine Kd.C_alloc ?_ _) | (with_reducible refine Kd.C_drewN ?_ _) | (with_reducible refine Kd.C_drew ?_))); (case side2 => exact HC1.out); rintro e w' ⟨rfl, ⟨nd, rfl⟩⟩))
          go_meet
          case rel => exact ⟨_, (decide ((a2.size : Int) > 1000)), (by first | rfl | (simp; done) | (simp [*]; done)), H', ⟨by first | omega | exact Nat.le_refl _⟩, ⟨by repeat (first | (with_reducible first | exact HB.out | apply below_alloc | apply pw_below_drewN | apply below_drew1) | exact HB.out)⟩⟩
        · replace c11 := Bool.eq_false_iff.mpr c11
          subst c11
          have H1 : (sizarlaw09_LexTextSpec.j0 k l0 l1 a2 true) = some r := by rw [if_neg (show ¬ (false = true) by decide)] at H; exact H
          clear H
          have H := H1
          clear H1
          have H' := Aside0.mk H
          clear H
          go_wp2_with (first | ((with_reducible refine gate_callee (f := 18) rfl ?_); refine goesL_ (some 14) rfl rfl Tryd.func18 (by kernel_rfl) rfl #[.slice A0 l0.length c0] rfl (by (try simp only [List.map_toArray, List.map_cons, List.map_nil]); first | done | rfl | (simp only [List.length_drop, List.length_take]; rfl)) ?_; (with_reducible refine (sizarref09_Few.calls k _ _ l0 true _ ?side1 ?side2 A8.out).mono ?_); (case side1 => repeat (first | exact (Kd.C_below HR0.out HB.out) | (with_reducible refine Kd.C_alloc ?_ _) | (with_reducible refine Kd.C_drewN ?_ _) | (with_reducible refine Kd.C_drew ?_))); (case side2 => exact HC0.out); rintro e w' ⟨rfl, ⟨nd, rfl⟩⟩; refine ⟨_, rfl, ?_⟩) | (go_at_call 18; (with_reducible refine (sizarref09_Few.calls k _ _ l1 false _ ?side1 ?side2 A10.out).mono ?_); (case side1 => repeat (first | exact (Kd.C_below HR1.out (by repeat (first | (with_reducible first | exact HB.out | apply below_alloc | apply pw_below_drewN | apply below_drew1) | exact HB.out))) | (with_reducible refine Kd.C_alloc ?_ _) | (with_reducible refine Kd.C_drewN ?_ _) | (with_reducible refine Kd.C_drew ?_))); (case side2 => exact HC1.out); rintro e w' ⟨rfl, ⟨nd, rfl⟩⟩))
          go_meet
          case rel => exact ⟨_, (true), (by first | rfl | (simp; done) | (simp [*]; done)), H', ⟨by first | omega | exact Nat.le_refl _⟩, ⟨by repeat (first | (with_reducible first | exact HB.out | apply below_alloc | apply pw_below_drewN | apply below_drew1) | exact HB.out)⟩⟩
      · replace c9 := Bool.eq_false_iff.mpr c9
        subst c9
        have H1 : (sizarlaw09_LexTextSpec.j0 k l0 l1 a2 true) = some r := by rw [if_neg (show ¬ (false = true) by decide)] at H; exact H
        clear H
        have H := H1
        clear H1
        have H' := Aside0.mk H
        clear H
        go_wp2_with (first | ((with_reducible refine gate_callee (f := 18) rfl ?_); refine goesL_ (some 14) rfl rfl Tryd.func18 (by kernel_rfl) rfl #[.slice A0 l0.length c0] rfl (by (try simp only [List.map_toArray, List.map_cons, List.map_nil]); first | done | rfl | (simp only [List.length_drop, List.length_take]; rfl)) ?_; (with_reducible refine (sizarref09_Few.calls k _ _ l0 false _ ?side1 ?side2 A8.out).mono ?_); (case side1 => repeat (first | exact (Kd.C_below HR0.out HB.out) | (with_reducible refine Kd.C_alloc ?_ _) | (with_reducible refine Kd.C_drewN ?_ _) | (with_reducible refine Kd.C_drew ?_))); (case side2 => exact HC0.out); rintro e w' ⟨rfl, ⟨nd, rfl⟩⟩; refine ⟨_, rfl, ?_⟩))
        go_meet
        case rel => exact ⟨_, (true), (by first | rfl | (simp; done) | (simp [*]; done)), H', ⟨by first | omega | exact Nat.le_refl _⟩, ⟨by repeat (first | (with_reducible first | exact HB.out | apply below_alloc | apply pw_below_drewN | apply below_drew1) | exact HB.out)⟩⟩
    case rest =>
      clear HC6
      try clear c1
      try clear p2
      try clear c4
      try clear c5
      try clear c9
      try clear c11
      obtain ⟨kq, x25_5, rfl, HA, HJ5, HB⟩ := hcut
      cases kq with
      | zero => exact absurd HA.out (by simp [sizarlaw09_LexTextSpec.j0])
      | succ kj5 =>
        have H := HA.out
        clear HA
        simp only [sizarlaw09_LexTextSpec.j0] at H
        by_cases c12 : x25_5 = true
        · subst c12
          have H1 : (some true) = some r := by rw [if_pos rfl] at H; exact H
          clear H
          have H := H1
          clear H1
          obtain rfl := Option.some.inj H
          go_wp2
          go_ret
          exact ⟨by first | rfl | (simp [errW_none, errW_some] <;> rfl) | (simp [*, errW_none, errW_some] <;> rfl), by repeat (first | (with_reducible first | exact HB.out | apply below_alloc | apply pw_below_drewN | apply below_drew1) | exact HB.out)⟩
        · replace c12 := Bool.eq_false_iff.mpr c12
          subst c12
          have H1 : ((lex_Text.f l0).bind fun bt286 => ((sizarref09_Text.f kj5 l0).bind fun bt288 => (if bt286.1.toList = bt288.1.toList then (if bt286.2 = bt288.2 then ((lex_Same.f l0 l1).bind fun t290 => ((sizarref09_Same.f kj5 l0 l1).bind fun t291 => (if (t290 == t291) = true then ((lex_Same.f l0 l0).bind fun t292 => (if t292 = true then ((lex_Name.f kj5 a2).bind fun t293 => ((sizarref09_Name.f kj5 a2).bind fun t294 => (some (t293 == t294)))) else (some false))) else (some false)))) else (some false)) else (some false)))) = some r := by rw [if_neg (show ¬ (false = true) by decide)] at H; exact H
          clear H
          have H := H1
          clear H1
          replace H := Option.bind_eq_some_iff.mp H
          obtain ⟨⟨t286, t287⟩, A130, H⟩ := H
          replace H : ((sizarref09_Text.f kj5 l0).bind fun bt288 => (if t286.toList = bt288.1.toList then (if t287 = bt288.2 then ((lex_Same.f l0 l1).bind fun t290 => ((sizarref09_Same.f kj5 l0 l1).bind fun t291 => (if (t290 == t291) = true then ((lex_Same.f l0 l0).bind fun t292 => (if t292 = true then ((lex_Name.f kj5 a2).bind fun t293 => ((sizarref09_Name.f kj5 a2).bind fun t294 => (some (t293 == t294)))) else (some false))) else (some false)))) else (some false)) else (some false))) = some r := H
          have A13 := Aside0.mk A130
          clear A130
          replace H := Option.bind_eq_some_iff.mp H
          obtain ⟨⟨t288, t289⟩, A140, H⟩ := H
          replace H : (if t286.toList = t288.toList then (if t287 = t289 then ((lex_Same.f l0 l1).bind fun t290 => ((sizarref09_Same.f kj5 l0 l1).bind fun t291 => (if (t290 == t291) = true then ((lex_Same.f l0 l0).bind fun t292 => (if t292 = true then ((lex_Name.f kj5 a2).bind fun t293 => ((sizarref09_Name.f kj5 a2).bind fun t294 => (some (t293 == t294)))) else (some false))) else (some false)))) else (some false)) else (some false)) = some r := H
          have A14 := Aside0.mk A140
          clear A140
          by_cases c15 : t286.toList = t288.toList
          · rw [if_pos c15] at H
            have c15b0 : (t286.toList == t288.toList) = true := beq_iff_eq.mpr c15
            have c15b1 : (t286.toList != t288.toList) = false := bne_eq_false_iff_eq.mpr c15
            clear c15
            by_cases c16 : t287 = t289
            · rw [if_pos c16] at H
              have c16b0 : (t287 == t289) = true := beq_iff_eq.mpr c16
              have c16b1 : (t287 != t289) = false := bne_eq_false_iff_eq.mpr c16
              clear c16
              replace H := Option.bind_eq_some_iff.mp H
              obtain ⟨t290, A170, H⟩ := H
              replace H : ((sizarref09_Same.f kj5 l0 l1).bind fun t291 => (if (t290 == t291) = true then ((lex_Same.f l0 l0).bind fun t292 => (if t292 = true then ((lex_Name.f kj5 a2).bind fun t293 => ((sizarref09_Name.f kj5 a2).bind fun t294 => (some (t293 == t294)))) else (some false))) else (some false))) = some r := H
              have A17 := Aside0.mk A170
              clear A170
              replace H := Option.bind_eq_some_iff.mp H
              obtain ⟨t291, A180, H⟩ := H
              replace H : (if (t290 == t291) = true then ((lex_Same.f l0 l0).bind fun t292 => (if t292 = true then ((lex_Name.f kj5 a2).bind fun t293 => ((sizarref09_Name.f kj5 a2).bind fun t294 => (some (t293 == t294)))) else (some false))) else (some false)) = some r := H
              have A18 := Aside0.mk A180
              clear A180
              by_cases c19 : (t290 == t291) = true
              · rw [if_pos c19] at H
                have c19b0 : (t290 == t291) = true := c19
                (try (have c19b1 : decide (t290 = t291) = true := by simpa using c19))
                (try (have c19b2 : (t290 == t291) = true := by simpa using c19))
                clear c19
                replace H := Option.bind_eq_some_iff.mp H
                obtain ⟨t292, A200, H⟩ := H
                replace H : (if t292 = true then ((lex_Name.f kj5 a2).bind fun t293 => ((sizarref09_Name.f kj5 a2).bind fun t294 => (some (t293 == t294)))) else (some false)) = some r := H
                have A20 := Aside0.mk A200
                clear A200
                by_cases c21 : t292 = true
                · subst c21
                  have H1 : ((lex_Name.f kj5 a2).bind fun t293 => ((sizarref09_Name.f kj5 a2).bind fun t294 => (some (t293 == t294)))) = some r := by rw [if_pos rfl] at H; exact H
                  clear H
                  have H := H1
                  clear H1
                  replace H := Option.bind_eq_some_iff.mp H
                  obtain ⟨t293, A220, H⟩ := H
                  replace H : ((sizarref09_Name.f kj5 a2).bind fun t294 => (some (t293 == t294))) = some r := H
                  have A22 := Aside0.mk A220
                  clear A220
                  replace H := Option.bind_eq_some_iff.mp H
                  obtain ⟨t294, A230, H⟩ := H
                  replace H : (some (t293 == t294)) = some r := H
                  have A23 := Aside0.mk A230
                  clear A230
                  obtain rfl := Option.some.inj H
                  go_wp2_with (first | ((with_reducible refine gate_callee (f := 19) rfl ?_); refine goesL_ (some 28) rfl rfl Tryd.func19 (by kernel_rfl) rfl #[.slice A0 l0.length c0] rfl (by (try simp only [List.map_toArray, List.map_cons, List.map_nil]); first | done | rfl | (simp only [List.length_drop, List.length_take]; rfl)) ?_; (with_reducible refine (lex_Text.calls _ _ l0 t286 t287 _ ?side1 ?side2 ?side3 A13.out).mono ?_); (case side1 => repeat (first | exact (Kd.C_below HR0.out HB.out) | (with_reducible refine Kd.C_alloc ?_ _) | (with_reducible refine Kd.C_drewN ?_ _) | (with_reducible refine Kd.C_drew ?_))); (case side2 => exact HC0.out); (case side3 => exact Laid.below hL (by repeat (first | (with_reducible first | exact HB.out | apply below_alloc | apply pw_below_drewN | apply below_drew1) | exact HB.out))); rintro e w24 ⟨rfl, hb⟩; refine ⟨_, rfl, ?_⟩; have n0_ := Aside0.mk (below_step (by repeat (first | (with_reducible first | exact HB.out | apply below_alloc | apply pw_below_drewN | apply below_drew1) | exact HB.out)) hb); clear HB; have HB := n0_; clear n0_; (try clear hb); (try clear hb2); (try clear hk); (try clear hi)) | ((with_reducible refine gate_callee (f := 20) rfl ?_); refine goesL_ (some 33) rfl rfl Tryd.func20 (by kernel_rfl) rfl #[.slice A0 l0.length c0] rfl (by (try simp only [List.map_toArray, List.map_cons, List.map_nil]); first | done | rfl | (simp only [List.length_drop, List.length_take]; rfl)) ?_; (with_reducible refine (sizarref09_Text.calls kj5 _ _ l0 t288 t289 _ ?side1 ?side2 A14.out).mono ?_); (case side1 => repeat (first | exact (Kd.C_below HR0.out HB.out) | (with_reducible refine Kd.C_alloc ?_ _) | (with_reducible refine Kd.C_drewN ?_ _) | (with_reducible refine Kd.C_drew ?_))); (case side2 => exact HC0.out); rintro e w25 ⟨rfl, hb⟩; refine ⟨_, rfl, ?_⟩; have n0_ := Aside0.mk (below_step (by repeat (first | (with_reducible first | exact HB.out | apply below_alloc | apply pw_below_drewN | apply below_drew1) | exact HB.out)) hb); clear HB; have HB := n0_; clear n0_; (try clear hb); (try clear hb2); (try clear hk); (try clear hi)) | (go_at_call 21; (with_reducible refine (lex_Same.calls _ _ l0 _ _ l1 t290 _ ?side1 ?side2 ?side3 ?side4 A17.out).mono ?_); (case side1 => repeat (first | exact (Kd.C_below HR0.out HB.out) | (with_reducible refine Kd.C_alloc ?_ _) | (with_reducible refine Kd.C_drewN ?_ _) | (with_reducible refine Kd.C_drew ?_))); (case side2 => exact HC0.out); (case side3 => repeat (first | exact (Kd.C_below HR1.out HB.out) | (with_reducible refine Kd.C_alloc ?_ _) | (with_reducible refine Kd.C_drewN ?_ _) | (with_reducible refine Kd.C_drew ?_))); (case side4 => exact HC1.out); rintro e w26 ⟨rfl, hb⟩; have n0_ := Aside0.mk (below_step (by repeat (first | (with_reducible first | exact HB.out | apply below_alloc | apply pw_below_drewN | apply below_drew1) | exact HB.out)) hb); clear HB; have HB := n0_; clear n0_; (try clear hb); (try clear hb2); (try clear hk); (try clear hi)) | (go_at_call 22; (with_reducible refine (sizarref09_Same.calls kj5 _ _ l0 _ _ l1 t291 _ ?side1 ?side2 ?side3 ?side4 A18.out).mono ?_); (case side1 => repeat (first | exact (Kd.C_below HR0.out HB.out) | (with_reducible refine Kd.C_alloc ?_ _) | (with_reducible refine Kd.C_drewN ?_ _) | (with_reducible refine Kd.C_drew ?_))); (case side2 => exact HC0.out); (case side3 => repeat (first | exact (Kd.C_below HR1.out HB.out) | (with_reducible refine Kd.C_alloc ?_ _) | (with_reducible refine Kd.C_drewN ?_ _) | (with_reducible refine Kd.C_drew ?_))); (case side4 => exact HC1.out); rintro e w' ⟨rfl, ⟨nd, rfl⟩⟩) | (go_at_call 21; (with_reducible refine (lex_Same.calls _ _ l0 _ _ l0 true _ ?side1 ?side2 ?side3 ?side4 A20.out).mono ?_); (case side1 => repeat (first | exact (Kd.C_below HR0.out (by repeat (first | (with_reducible first | exact HB.out | apply below_alloc | apply pw_below_drewN | apply below_drew1) | exact HB.out))) | (with_reducible refine Kd.C_alloc ?_ _) | (with_reducible refine Kd.C_drewN ?_ _) | (with_reducible refine Kd.C_drew ?_))); (case side2 => exact HC0.out); (case side3 => repeat (first | exact (Kd.C_below HR0.out (by repeat (first | (with_reducible first | exact HB.out | apply below_alloc | apply pw_below_drewN | apply below_drew1) | exact HB.out))) | (with_reducible refine Kd.C_alloc ?_ _) | (with_reducible refine Kd.C_drewN ?_ _) | (with_reducible refine Kd.C_drew ?_))); (case side4 => exact HC0.out); rintro e w27 ⟨rfl, hb⟩; have n0_ := Aside0.mk (below_step (by repeat (first | (with_reducible first | exact HB.out | apply below_alloc | apply pw_below_drewN | apply below_drew1) | exact HB.out)) hb); clear HB; have HB := n0_; clear n0_; (try clear hb); (try clear hb2); (try clear hk); (try clear hi)) | (go_at_call 23; (with_reducible refine (lex_Name.calls kj5 a2 t293 _ A22.out).mono ?_); rintro e w' ⟨rfl, ⟨nd, rfl⟩⟩) | (go_at_call 24; (with_reducible refine (sizarref09_Name.calls kj5 a2 t294 _ A23.out).mono ?_); rintro e w' ⟨rfl, ⟨nd, rfl⟩⟩))
                  go_ret
                  exact ⟨by first | rfl | (simp [errW_none, errW_some] <;> rfl) | (simp [*, errW_none, errW_some] <;> rfl), by repeat (first | (with_reducible first | exact HB.out | apply below_alloc | apply pw_below_drewN | apply below_drew1) | exact HB.out)⟩
                · replace c21 := Bool.eq_false_iff.mpr c21
                  subst c21
                  have H1 : (some false) = some r := by rw [if_neg (show ¬ (false = true) by decide)] at H; exact H
                  clear H
                  have H := H1
                  clear H1
                  obtain rfl := Option.some.inj H
                  go_wp2_with (first | ((with_reducible refine gate_callee (f := 19) rfl ?_); refine goesL_ (some 28) rfl rfl Tryd.func19 (by kernel_rfl) rfl #[.slice A0 l0.length c0] rfl (by (try simp only [List.map_toArray, List.map_cons, List.map_nil]); first | done | rfl | (simp only [List.length_drop, List.length_take]; rfl)) ?_; (with_reducible refine (lex_Text.calls _ _ l0 t286 t287 _ ?side1 ?side2 ?side3 A13.out).mono ?_); (case side1 => repeat (first | exact (Kd.C_below HR0.out HB.out) | (with_reducible refine Kd.C_alloc ?_ _) | (with_reducible refine Kd.C_drewN ?_ _) | (with_reducible refine Kd.C_drew ?_))); (case side2 => exact HC0.out); (case side3 => exact Laid.below hL (by repeat (first | (with_reducible first | exact HB.out | apply below_alloc | apply pw_below_drewN | apply below_drew1) | exact HB.out))); rintro e w28 ⟨rfl, hb⟩; refine ⟨_, rfl, ?_⟩; have n0_ := Aside0.mk (below_step (by repeat (first | (with_reducible first | exact HB.out | apply below_alloc | apply pw_below_drewN | apply below_drew1) | exact HB.out)) hb); clear HB; have HB := n0_; clear n0_; (try clear hb); (try clear hb2); (try clear hk); (try clear hi)) | ((with_reducible refine gate_callee (f := 20) rfl ?_); refine goesL_ (some 33) rfl rfl Tryd.func20 (by kernel_rfl) rfl #[.slice A0 l0.length c0] rfl (by (try simp only [List.map_toArray, List.map_cons, List.map_nil]); first | done | rfl | (simp only [List.length_drop, List.length_take]; rfl)) ?_; (with_reducible refine (sizarref09_Text.calls kj5 _ _ l0 t288 t289 _ ?side1 ?side2 A14.out).mono ?_); (case side1 => repeat (first | exact (Kd.C_below HR0.out HB.out) | (with_reducible refine Kd.C_alloc ?_ _) | (with_reducible refine Kd.C_drewN ?_ _) | (with_reducible refine Kd.C_drew ?_))); (case side2 => exact HC0.out); rintro e w29 ⟨rfl, hb⟩; refine ⟨_, rfl, ?_⟩; have n0_ := Aside0.mk (below_step (by repeat (first | (with_reducible first | exact HB.out | apply below_alloc | apply pw_below_drewN | apply below_drew1) | exact HB.out)) hb); clear HB; have HB := n0_; clear n0_; (try clear hb); (try clear hb2); (try clear hk); (try clear hi)) | (go_at_call 21; (with_reducible refine (lex_Same.calls _ _ l0 _ _ l1 t290 _ ?side1 ?side2 ?side3 ?side4 A17.out).mono ?_); (case side1 => repeat (first | exact (Kd.C_below HR0.out HB.out) | (with_reducible refine Kd.C_alloc ?_ _) | (with_reducible refine Kd.C_drewN ?_ _) | (with_reducible refine Kd.C_drew ?_))); (case side2 => exact HC0.out); (case side3 => repeat (first | exact (Kd.C_below HR1.out HB.out) | (with_reducible refine Kd.C_alloc ?_ _) | (with_reducible refine Kd.C_drewN ?_ _) | (with_reducible refine Kd.C_drew ?_))); (case side4 => exact HC1.out); rintro e w30 ⟨rfl, hb⟩; have n0_ := Aside0.mk (below_step (by repeat (first | (with_reducible first | exact HB.out | apply below_alloc | apply pw_below_drewN | apply below_drew1) | exact HB.out)) hb); clear HB; have HB := n0_; clear n0_; (try clear hb); (try clear hb2); (try clear hk); (try clear hi)) | (go_at_call 22; (with_reducible refine (sizarref09_Same.calls kj5 _ _ l0 _ _ l1 t291 _ ?side1 ?side2 ?side3 ?side4 A18.out).mono ?_); (case side1 => repeat (first | exact (Kd.C_below HR0.out HB.out) | (with_reducible refine Kd.C_alloc ?_ _) | (with_reducible refine Kd.C_drewN ?_ _) | (with_reducible refine Kd.C_drew ?_))); (case side2 => exact HC0.out); (case side3 => repeat (first | exact (Kd.C_below HR1.out HB.out) | (with_reducible refine Kd.C_alloc ?_ _) | (with_reducible refine Kd.C_drewN ?_ _) | (with_reducible refine Kd.C_drew ?_))); (case side4 => exact HC1.out); rintro e w' ⟨rfl, ⟨nd, rfl⟩⟩) | (go_at_call 21; (with_reducible refine (lex_Same.calls _ _ l0 _ _ l0 false _ ?side1 ?side2 ?side3 ?side4 A20.out).mono ?_); (case side1 => repeat (first | exact (Kd.C_below HR0.out (by repeat (first | (with_reducible first | exact HB.out | apply below_alloc | apply pw_below_drewN | apply below_drew1) | exact HB.out))) | (with_reducible refine Kd.C_alloc ?_ _) | (with_reducible refine Kd.C_drewN ?_ _) | (with_reducible refine Kd.C_drew ?_))); (case side2 => exact HC0.out); (case side3 => repeat (first | exact (Kd.C_below HR0.out (by repeat (first | (with_reducible first | exact HB.out | apply below_alloc | apply pw_below_drewN | apply below_drew1) | exact HB.out))) | (with_reducible refine Kd.C_alloc ?_ _) | (with_reducible refine Kd.C_drewN ?_ _) | (with_reducible refine Kd.C_drew ?_))); (case side4 => exact HC0.out); rintro e w31 ⟨rfl, hb⟩; have n0_ := Aside0.mk (below_step (by repeat (first | (with_reducible first | exact HB.out | apply below_alloc | apply pw_below_drewN | apply below_drew1) | exact HB.out)) hb); clear HB; have HB := n0_; clear n0_; (try clear hb); (try clear hb2); (try clear hk); (try clear hi)))
                  go_ret
                  exact ⟨by first | rfl | (simp [errW_none, errW_some] <;> rfl) | (simp [*, errW_none, errW_some] <;> rfl), by repeat (first | (with_reducible first | exact HB.out | apply below_alloc | apply pw_below_drewN | apply below_drew1) | exact HB.out)⟩
              · rw [if_neg c19] at H
                have c19b0 : (t290 == t291) = false := by simpa using c19
                (try (have c19b1 : decide (t290 = t291) = false := by simpa using c19))
                (try (have c19b2 : (t290 == t291) = false := by simpa using c19))
                (try (have c19b3 : ¬ (t290 = t291) := by simpa using c19))
                clear c19
                obtain rfl := Option.some.inj H
                go_wp2_with (first | ((with_reducible refine gate_callee (f := 19) rfl ?_); refine goesL_ (some 28) rfl rfl Tryd.func19 (by kernel_rfl) rfl #[.slice A0 l0.length c0] rfl (by (try simp only [List.map_toArray, List.map_cons, List.map_nil]); first | done | rfl | (simp only [List.length_drop, List.length_take]; rfl)) ?_; (with_reducible refine (lex_Text.calls _ _ l0 t286 t287 _ ?side1 ?side2 ?side3 A13.out).mono ?_); (case side1 => repeat (first | exact (Kd.C_below HR0.out HB.out) | (with_reducible refine Kd.C_alloc ?_ _) | (with_reducible refine Kd.C_drewN ?_ _) | (with_reducible refine Kd.C_drew ?_))); (case side2 => exact HC0.out); (case side3 => exact Laid.below hL (by repeat (first | (with_reducible first | exact HB.out | apply below_alloc | apply pw_below_drewN | apply below_drew1) | exact HB.out))); rintro e w32 ⟨rfl, hb⟩; refine ⟨_, rfl, ?_⟩; have n0_ := Aside0.mk (below_step (by repeat (first | (with_reducible first | exact HB.out | apply below_alloc | apply pw_below_drewN | apply below_drew1) | exact HB.out)) hb); clear HB; have HB := n0_; clear n0_; (try clear hb); (try clear hb2); (try clear hk); (try clear hi)) | ((with_reducible refine gate_callee (f := 20) rfl ?_); refine goesL_ (some 33) rfl rfl Tryd.func20 (by kernel_rfl) rfl #[.slice A0 l0.length c0] rfl (by (try simp only [List.map_toArray, List.map_cons, List.map_nil]); first | done | rfl | (simp only [List.length_drop, List.length_take]; rfl)) ?_; (with_reducible refine (sizarref09_Text.calls kj5 _ _ l0 t288 t289 _ ?side1 ?side2 A14.out).mono ?_); (case side1 => repeat (first | exact (Kd.C_below HR0.out HB.out) | (with_reducible refine Kd.C_alloc ?_ _) | (with_reducible refine Kd.C_drewN ?_ _) | (with_reducible refine Kd.C_drew ?_))); (case side2 => exact HC0.out); rintro e w33 ⟨rfl, hb⟩; refine ⟨_, rfl, ?_⟩; have n0_ := Aside0.mk (below_step (by repeat (first | (with_reducible first | exact HB.out | apply below_alloc | apply pw_below_drewN | apply below_drew1) | exact HB.out)) hb); clear HB; have HB := n0_; clear n0_; (try clear hb); (try clear hb2); (try clear hk); (try clear hi)) | (go_at_call 21; (with_reducible refine (lex_Same.calls _ _ l0 _ _ l1 t290 _ ?side1 ?side2 ?side3 ?side4 A17.out).mono ?_); (case side1 => repeat (first | exact (Kd.C_below HR0.out HB.out) | (with_reducible refine Kd.C_alloc ?_ _) | (with_reducible refine Kd.C_drewN ?_ _) | (with_reducible refine Kd.C_drew ?_))); (case side2 => exact HC0.out); (case side3 => repeat (first | exact (Kd.C_below HR1.out HB.out) | (with_reducible refine Kd.C_alloc ?_ _) | (with_reducible refine Kd.C_drewN ?_ _) | (with_reducible refine Kd.C_drew ?_))); (case side4 => exact HC1.out); rintro e w34 ⟨rfl, hb⟩; have n0_ := Aside0.mk (below_step (by repeat (first | (with_reducible first | exact HB.out | apply below_alloc | apply pw_below_drewN | apply below_drew1) | exact HB.out)) hb); clear HB; have HB := n0_; clear n0_; (try clear hb); (try clear hb2); (try clear hk); (try clear hi)) | (go_at_call 22; (with_reducible refine (sizarref09_Same.calls kj5 _ _ l0 _ _ l1 t291 _ ?side1 ?side2 ?side3 ?side4 A18.out).mono ?_); (case side1 => repeat (first | exact (Kd.C_below HR0.out HB.out) | (with_reducible refine Kd.C_alloc ?_ _) | (with_reducible refine Kd.C_drewN ?_ _) | (with_reducible refine Kd.C_drew ?_))); (case side2 => exact HC0.out); (case side3 => repeat (first | exact (Kd.C_below HR1.out HB.out) | (with_reducible refine Kd.C_alloc ?_ _) | (with_reducible refine Kd.C_drewN ?_ _) | (with_reducible refine Kd.C_drew ?_))); (case side4 => exact HC1.out); rintro e w' ⟨rfl, ⟨nd, rfl⟩⟩))
                go_ret
                exact ⟨by first | rfl | (simp [errW_none, errW_some] <;> rfl) | (simp [*, errW_none, errW_some] <;> rfl), by repeat (first | (with_reducible first | exact HB.out | apply below_alloc | apply pw_below_drewN | apply below_drew1) | exact HB.out)⟩
            · rw [if_neg c16] at H
              have c16b0 : (t287 == t289) = false := beq_eq_false_iff_ne.mpr c16
              have c16b1 : (t287 != t289) = true := bne_iff_ne.mpr c16
              obtain rfl := Option.some.inj H
              go_wp2_with (first | ((with_reducible refine gate_callee (f := 19) rfl ?_); refine goesL_ (some 28) rfl rfl Tryd.func19 (by kernel_rfl) rfl #[.slice A0 l0.length c0] rfl (by (try simp only [List.map_toArray, List.map_cons, List.map_nil]); first | done | rfl | (simp only [List.length_drop, List.length_take]; rfl)) ?_; (with_reducible refine (lex_Text.calls _ _ l0 t286 t287 _ ?side1 ?side2 ?side3 A13.out).mono ?_); (case side1 => repeat (first | exact (Kd.C_below HR0.out HB.out) | (with_reducible refine Kd.C_alloc ?_ _) | (with_reducible refine Kd.C_drewN ?_ _) | (with_reducible refine Kd.C_drew ?_))); (case side2 => exact HC0.out); (case side3 => exact Laid.below hL (by repeat (first | (with_reducible first | exact HB.out | apply below_alloc | apply pw_below_drewN | apply below_drew1) | exact HB.out))); rintro e w35 ⟨rfl, hb⟩; refine ⟨_, rfl, ?_⟩; have n0_ := Aside0.mk (below_step (by repeat (first | (with_reducible first | exact HB.out | apply below_alloc | apply pw_below_drewN | apply below_drew1) | exact HB.out)) hb); clear HB; have HB := n0_; clear n0_; (try clear hb); (try clear hb2); (try clear hk); (try clear hi)) | ((with_reducible refine gate_callee (f := 20) rfl ?_); refine goesL_ (some 33) rfl rfl Tryd.func20 (by kernel_rfl) rfl #[.slice A0 l0.length c0] rfl (by (try simp only [List.map_toArray, List.map_cons, List.map_nil]); first | done | rfl | (simp only [List.length_drop, List.length_take]; rfl)) ?_; (with_reducible refine (sizarref09_Text.calls kj5 _ _ l0 t288 t289 _ ?side1 ?side2 A14.out).mono ?_); (case side1 => repeat (first | exact (Kd.C_below HR0.out HB.out) | (with_reducible refine Kd.C_alloc ?_ _) | (with_reducible refine Kd.C_drewN ?_ _) | (with_reducible refine Kd.C_drew ?_))); (case side2 => exact HC0.out); rintro e w36 ⟨rfl, hb⟩; refine ⟨_, rfl, ?_⟩; have n0_ := Aside0.mk (below_step (by repeat (first | (with_reducible first | exact HB.out | apply below_alloc | apply pw_below_drewN | apply below_drew1) | exact HB.out)) hb); clear HB; have HB := n0_; clear n0_; (try clear hb); (try clear hb2); (try clear hk); (try clear hi)))
              go_ret
              exact ⟨by first | rfl | (simp [errW_none, errW_some] <;> rfl) | (simp [*, errW_none, errW_some] <;> rfl), by repeat (first | (with_reducible first | exact HB.out | apply below_alloc | apply pw_below_drewN | apply below_drew1) | exact HB.out)⟩
          · rw [if_neg c15] at H
            have c15b0 : (t286.toList == t288.toList) = false := beq_eq_false_iff_ne.mpr c15
            have c15b1 : (t286.toList != t288.toList) = true := bne_iff_ne.mpr c15
            obtain rfl := Option.some.inj H
            go_wp2_with (first | ((with_reducible refine gate_callee (f := 19) rfl ?_); refine goesL_ (some 28) rfl rfl Tryd.func19 (by kernel_rfl) rfl #[.slice A0 l0.length c0] rfl (by (try simp only [List.map_toArray, List.map_cons, List.map_nil]); first | done | rfl | (simp only [List.length_drop, List.length_take]; rfl)) ?_; (with_reducible refine (lex_Text.calls _ _ l0 t286 t287 _ ?side1 ?side2 ?side3 A13.out).mono ?_); (case side1 => repeat (first | exact (Kd.C_below HR0.out HB.out) | (with_reducible refine Kd.C_alloc ?_ _) | (with_reducible refine Kd.C_drewN ?_ _) | (with_reducible refine Kd.C_drew ?_))); (case side2 => exact HC0.out); (case side3 => exact Laid.below hL (by repeat (first | (with_reducible first | exact HB.out | apply below_alloc | apply pw_below_drewN | apply below_drew1) | exact HB.out))); rintro e w37 ⟨rfl, hb⟩; refine ⟨_, rfl, ?_⟩; have n0_ := Aside0.mk (below_step (by repeat (first | (with_reducible first | exact HB.out | apply below_alloc | apply pw_below_drewN | apply below_drew1) | exact HB.out)) hb); clear HB; have HB := n0_; clear n0_; (try clear hb); (try clear hb2); (try clear hk); (try clear hi)) | ((with_reducible refine gate_callee (f := 20) rfl ?_); refine goesL_ (some 33) rfl rfl Tryd.func20 (by kernel_rfl) rfl #[.slice A0 l0.length c0] rfl (by (try simp only [List.map_toArray, List.map_cons, List.map_nil]); first | done | rfl | (simp only [List.length_drop, List.length_take]; rfl)) ?_; (with_reducible refine (sizarref09_Text.calls kj5 _ _ l0 t288 t289 _ ?side1 ?side2 A14.out).mono ?_); (case side1 => repeat (first | exact (Kd.C_below HR0.out HB.out) | (with_reducible refine Kd.C_alloc ?_ _) | (with_reducible refine Kd.C_drewN ?_ _) | (with_reducible refine Kd.C_drew ?_))); (case side2 => exact HC0.out); rintro e w38 ⟨rfl, hb⟩; refine ⟨_, rfl, ?_⟩; have n0_ := Aside0.mk (below_step (by repeat (first | (with_reducible first | exact HB.out | apply below_alloc | apply pw_below_drewN | apply below_drew1) | exact HB.out)) hb); clear HB; have HB := n0_; clear n0_; (try clear hb); (try clear hb2); (try clear hk); (try clear hi)))
            go_ret
            exact ⟨by first | rfl | (simp [errW_none, errW_some] <;> rfl) | (simp [*, errW_none, errW_some] <;> rfl), by repeat (first | (with_reducible first | exact HB.out | apply below_alloc | apply pw_below_drewN | apply below_drew1) | exact HB.out)⟩
  · replace c5 := Bool.eq_false_iff.mpr c5
    subst c5
    have H1 : (some false) = some r := by rw [if_neg (show ¬ (false = true) by decide)] at H; exact H
    clear H
    have H := H1
    clear H1
    obtain rfl := Option.some.inj H
    go_enter Tryd.func4, Tryd.ntmps4
    go_wp2_with (first | ((with_reducible refine gate_callee (f := 14) rfl ?_); refine goesL_ (some 11) rfl rfl Tryd.func14 (by kernel_rfl) rfl #[] rfl (by (try simp only [List.map_toArray, List.map_cons, List.map_nil]); first | done | rfl | (simp only [List.length_drop, List.length_take]; rfl)) ?_; (with_reducible refine (sizarlaw09_sane.calls k  false _ ?side1 A4.out).mono ?_); (case side1 => exact Laid.below hL (by repeat (first | (with_reducible first | exact HB.out | apply below_alloc | apply pw_below_drewN | apply below_drew1) | exact HB.out))); rintro e w39 ⟨rfl, hb⟩; refine ⟨_, rfl, ?_⟩; have n0_ := Aside0.mk (below_step (by repeat (first | (with_reducible first | exact HB.out | apply below_alloc | apply pw_below_drewN | apply below_drew1) | exact HB.out)) hb); clear HB; have HB := n0_; clear n0_; (try clear hb); (try clear hb2); (try clear hk); (try clear hi)))
    go_ret
    exact ⟨by first | rfl | (simp [errW_none, errW_some] <;> rfl) | (simp [*, errW_none, errW_some] <;> rfl), by repeat (first | (with_reducible first | exact HB.out | apply below_alloc | apply pw_below_drewN | apply below_drew1) | exact HB.out)⟩

end Go.Proofs.YtomglbjcfcijkaaDoor.PLx

namespace Go.Proofs.YtomglbjcfcijkaaDoor.PLx
open Go.RowKit Go.Proofs.YtomglbjcfcijkaaDoorW.PrintWords Go.Proofs.YtomglbjcfcijkaaDoorW.PrintLast Go.Proofs.YtomglbjcfcijkaaDoorW.PrintMore

theorem letter_ref (c : UInt8) : sizarref09_Letter.f (c.toNat : Int) = some (decide (kl c = 2)) := by
  have : ∀ n : Nat, n < 256 → sizarref09_Letter.f (n : Int) = some (decide (cls (n : Int) = 2)) := by decide +kernel
  exact this c.toNat c.toNat_lt
theorem figure_ref (c : UInt8) : sizarref09_Figure.f (c.toNat : Int) = some (decide (kl c = 3)) := by
  have : ∀ n : Nat, n < 256 → sizarref09_Figure.f (n : Int) = some (decide (cls (n : Int) = 3)) := by decide +kernel
  exact this c.toNat c.toNat_lt
theorem part_ref (c : UInt8) : sizarref09_part.f (c.toNat : Int) = some (isPart c) := by
  have : ∀ n : Nat, n < 256 → sizarref09_part.f (n : Int) = some (cls (n : Int) == 2 || cls (n : Int) == 3 || cls (n : Int) == 5) := by decide +kernel
  exact this c.toNat c.toNat_lt
theorem sign_ref (c : UInt8) : sizarref09_Sign.f (c.toNat : Int) = some (decide (kl c = 4)) := by
  have : ∀ n : Nat, n < 256 → sizarref09_Sign.f (n : Int) = some (decide (cls (n : Int) = 4)) := by decide +kernel
  exact this c.toNat c.toNat_lt
theorem rname_loop (s : ByteArray) (hs : s.size ≤ 32) : ∀ (d i K : Nat), i + d = s.size → d < K → sizarref09_Name.l0 K s (i : Int) = some ((s.data.toList.drop i).all isPart)
  | 0, i, K, hi, hK => by
    obtain ⟨K, rfl⟩ : ∃ m, K = m + 1 := ⟨K - 1, by omega⟩
    simp only [sizarref09_Name.l0]
    rw [if_neg (by omega), List.drop_of_length_le (by rw [size_data]; omega)]; rfl
  | d + 1, i, K, hi, hK => by
    obtain ⟨K, rfl⟩ : ∃ m, K = m + 1 := ⟨K - 1, by omega⟩
    have hlt : i < s.size := by omega
    have hw : wrap64 ((i : Int) + 1) = ((i + 1 : Nat) : Int) := by unfold wrap64; omega
    simp only [sizarref09_Name.l0, bt_nat s i hlt, part_ref, Option.bind_some, hw]
    rw [if_pos (by omega), if_pos (by omega), data_drop s i hlt, List.all_cons]
    cases hp : isPart s[i]
    · simp
    · rw [if_pos rfl, rname_loop s hs d (i + 1) K (by omega) (by omega), Bool.true_and]
theorem rname_f (s : ByteArray) (K : Nat) (hK : 40 ≤ K) : sizarref09_Name.f K s = some (isName s.data.toList) := by
  obtain ⟨K, rfl⟩ : ∃ m, K = m + 1 := ⟨K - 1, by omega⟩
  have hsz := size_data s
  unfold sizarref09_Name.f
  simp only [sizarref09_Name.j0, if_true]
  by_cases h1 : (s.size : Int) < 1
  · rw [if_pos h1]
    have : s.data.toList = [] := List.length_eq_zero_iff.1 (by omega)
    rw [this]; rfl
  rw [if_neg h1]
  have hpos : 0 < s.size := by omega
  have hd := data_drop s 0 hpos
  rw [List.drop_zero] at hd
  have hl : (s.data.toList.drop (0 + 1)).length = s.size - 1 := by rw [List.length_drop, hsz]
  by_cases h32 : (s.size : Int) > 32
  · rw [if_pos h32, hd]
    unfold isName
    simp only [hl]
    rw [decide_eq_false (by omega)]; rfl
  rw [if_neg h32, if_pos (by omega)]
  have hb : bt s 0 = (s[0].toNat : Int) := bt_nat s 0 hpos
  rw [hb, letter_ref, Option.bind_some]
  have hloop : sizarref09_Name.l0 K s 0 = some (s.data.toList.all isPart) := by
    have := rname_loop s (by omega) s.size 0 K (by omega) (by omega)
    rw [List.drop_zero] at this
    exact this
  have hdec : decide (s.size - 1 < 32) = true := decide_eq_true (by omega)
  have hall : s.data.toList.all isPart = (isPart s[0] && (s.data.toList.drop (0 + 1)).all isPart) := by rw [hd, List.all_cons]; simp
  have hname : isName s.data.toList = (decide (s.size - 1 < 32) && kl s[0] == 2 && (s.data.toList.drop (0 + 1)).all isPart) := by
    rw [← hl]
    conv => lhs; rw [hd]
    rfl
  rw [hloop, hname, hall, hdec]
  by_cases h2 : kl s[0] = 2
  · have : isPart s[0] = true := by unfold isPart; simp [h2]
    rw [this]; simp [h2]
  · simp [h2]
theorem rvalid_f (t : Tok) (K : Nat) (hK : 40 ≤ K) : sizarref09_Valid.f K t.f0 t.f1 t.f2 t.f3 = some (validT t) := by
  have hsz := size_data t.f1
  unfold sizarref09_Valid.f validT
  rw [toList_eq]
  by_cases h1 : t.f0 = 1
  · rw [if_pos h1, if_pos h1, rname_f _ K hK, Option.bind_some]
    cases isName t.f1.data.toList <;> simp
  rw [if_neg h1, if_neg h1]
  by_cases h2 : t.f0 = 2
  · rw [if_pos h2, if_pos h2]
    by_cases he : t.f1.data.toList = []
    · rw [if_pos he, he]
      by_cases h3 : t.f2 ≥ 0
      · rw [if_pos h3]; simp [h3]
      · rw [if_neg h3]; simp [h3]
    · rw [if_neg he]
      have : t.f1.data.toList.isEmpty = false := by simpa using he
      simp [this]
  rw [if_neg h2, if_neg h2]
  by_cases h3 : t.f0 = 3
  · rw [if_pos h3, if_pos h3]
    by_cases h4 : t.f1.size = 1
    · have hpos : 0 < t.f1.size := by omega
      have hd := data_drop t.f1 0 hpos
      rw [List.drop_zero, List.drop_of_length_le (by omega)] at hd
      have hb : bt t.f1 0 = (t.f1[0].toNat : Int) := bt_nat t.f1 0 hpos
      rw [if_pos (by omega), if_pos (by omega), hb, sign_ref, Option.bind_some, hd]
      by_cases h5 : kl t.f1[0] = 4
      · simp [h5]
      · simp [h5]
    · rw [if_neg (by omega)]
      match hl : t.f1.data.toList, hsz with
      | [], _ => simp
      | [c], hsz => exact absurd hsz.symm h4
      | c :: d :: r, _ => simp
  · rw [if_neg h3, if_neg h3]
/-- The digits ahead of the last one. -/
def highD (n : Nat) : List UInt8 := if n < 10 then [] else Lib.decDigits (n / 10)
theorem dec_high (n : Nat) : Lib.decDigits n = highD n ++ [UInt8.ofNat (48 + n % 10)] := by
  rw [Lib.decDigits]
  unfold highD
  split
  · rw [show n % 10 = n by omega]; rfl
  · rfl
theorem decimal_loop : ∀ (m n K : Nat) (acc : ByteArray), n < 10 ^ (m + 1) → m < K → n ≤ 1099511627776 → acc.size + m ≤ 1000000 →
    sizarref09_Decimal.l0 K (n : Int) acc = some (bs (highD n ++ acc.data.toList))
  | m, n, K, acc, hn, hK, hb, ha => by
    obtain ⟨K, rfl⟩ : ∃ k, K = k + 1 := ⟨K - 1, by omega⟩
    have hw : wrap64 (Int.tdiv (n : Int) 10) = ((n / 10 : Nat) : Int) := by
      rw [Int.tdiv_eq_ediv_of_nonneg (by omega)]; unfold wrap64; omega
    have hd : (wrap64 (48 + Int.tmod ((n / 10 : Nat) : Int) 10)) % 256 = ((48 + n / 10 % 10 : Nat) : Int) := by
      rw [Int.tmod_eq_emod_of_nonneg (by omega)]; unfold wrap64; omega
    have hstr : strOfNums [((48 + n / 10 % 10 : Nat) : Int)] = bs [UInt8.ofNat (48 + n / 10 % 10)] := rfl
    have hone : ∀ x : UInt8, (bs [x]).size = 1 := fun x => rfl
    have hcat : ∀ x : UInt8, bs [x] ++ acc = bs (x :: acc.data.toList) := by
      intro x
      apply ByteArray.ext
      simp [ByteArray.data_append, bs]
    simp only [sizarref09_Decimal.l0, hw, hd, hstr, Option.bind_some, hone, hcat]
    by_cases h10 : n < 10
    · rw [if_neg (by omega)]
      unfold highD
      rw [if_pos h10]; rfl
    · rw [if_pos (by omega), if_pos (by omega)]
      cases m with
      | zero => exact absurd hn (by simpa using h10)
      | succ m =>
        have hsz : (bs (UInt8.ofNat (48 + n / 10 % 10) :: acc.data.toList)).size = acc.size + 1 := by
          rw [← size_data, ← size_data]; rfl
        rw [decimal_loop m (n / 10) K _ (by rw [Nat.pow_succ] at hn; omega) (by omega) (by omega) (by omega)]
        have : highD n = highD (n / 10) ++ [UInt8.ofNat (48 + n / 10 % 10)] := by
          rw [← dec_high]
          show (if n < 10 then [] else Lib.decDigits (n / 10)) = _
          rw [if_neg h10]
        rw [this, List.append_assoc]; rfl
theorem decimal_f (n : Nat) (K : Nat) (hn : n ≤ 1099511627776) (hK : 20 ≤ K) : sizarref09_Decimal.f K (n : Int) = some (bs (Lib.decDigits n)) := by
  unfold sizarref09_Decimal.f
  have hd : (wrap64 (48 + Int.tmod (n : Int) 10)) % 256 = ((48 + n % 10 : Nat) : Int) := by
    rw [Int.tmod_eq_emod_of_nonneg (by omega)]; unfold wrap64; omega
  have hstr : strOfNums [((48 + n % 10 : Nat) : Int)] = bs [UInt8.ofNat (48 + n % 10)] := rfl
  rw [hd, hstr, decimal_loop 15 n K _ (by omega) (by omega) hn (by show 1 + 15 ≤ 1000000; omega), dec_high]; rfl
/-- The same tokens, but for places. -/
theorem rsame_loop (a b : List Tok) (hab : a.length = b.length) (ha : a.length ≤ 9223372036854775806) : ∀ (d i K : Nat), i + d = a.length → d < K → sizarref09_Same.l0 K a b (i : Int) = some (sameToks (a.drop i) (b.drop i))
  | 0, i, K, hi, hK => by
    obtain ⟨K, rfl⟩ : ∃ m, K = m + 1 := ⟨K - 1, by omega⟩
    simp only [sizarref09_Same.l0]
    rw [if_neg (by omega), List.drop_of_length_le (by omega), List.drop_of_length_le (by omega)]; rfl
  | d + 1, i, K, hi, hK => by
    obtain ⟨K, rfl⟩ : ∃ m, K = m + 1 := ⟨K - 1, by omega⟩
    have hw : wrap64 ((i : Int) + 1) = ((i + 1 : Nat) : Int) := by unfold wrap64; omega
    have ha1 := at_some a i (by omega)
    have hb1 := at_some b i (by omega)
    rw [sameToks_drop a b i _ _ ha1 hb1]
    have ih := rsame_loop a b hab ha d (i + 1) K (by omega) (by omega)
    have c1 : (i : Int) < (a.length : Int) := by omega
    have c2 : (0 : Int) ≤ (i : Int) := by omega
    have c3 : (i : Int) < (b.length : Int) := by omega
    simp only [sizarref09_Same.l0, if_pos c1, if_pos c2, if_pos c3, hw, ih, toList_eq]
    generalize rd_T35 a (i : Int) = x
    generalize rd_T35 b (i : Int) = y
    unfold sameTok
    by_cases h0 : x.f0 = y.f0
    · rw [if_pos h0]
      by_cases h1 : x.f1.data.toList = y.f1.data.toList
      · rw [if_pos h1]
        by_cases h2 : x.f2 = y.f2
        · rw [if_pos h2, h0, h1, h2]; simp
        · rw [if_neg h2]; simp [h2]
      · rw [if_neg h1]
        have : (x.f1.data.toList == y.f1.data.toList) = false := beq_eq_false_iff_ne.2 h1
        rw [this]; simp
    · rw [if_neg h0]; simp [h0]
theorem rsame_f (a b : List Tok) (ha : a.length ≤ 9223372036854775806) (K : Nat) (hK : a.length + 1 ≤ K) : sizarref09_Same.f K a b = some (sameToks a b) := by
  unfold sizarref09_Same.f
  by_cases h : a.length = b.length
  · rw [if_pos (by omega)]
    exact rsame_loop a b h ha a.length 0 K (by omega) (by omega)
  · rw [if_neg (by omega), sameToks_len a b h]
/-- Few tokens, and short ones. -/
theorem few_loop (l : List Tok) (hl : l.length ≤ 200) (hb : ∀ t ∈ l, t.f1.size ≤ 140737488351232) : ∀ (d i K x : Nat), i + d = l.length → d < K → x ≤ i * 140737488351232 →
    sizarref09_Few.l0 K l (x : Int) (i : Int) = some (decide (x + ((l.drop i).map fun t => t.f1.size).sum ≤ 2000))
  | 0, i, K, x, hi, hK, hx => by
    obtain ⟨K, rfl⟩ : ∃ m, K = m + 1 := ⟨K - 1, by omega⟩
    simp only [sizarref09_Few.l0]
    rw [if_neg (by omega), if_pos (by omega), List.drop_of_length_le (by omega)]
    simp only [List.map_nil, List.sum_nil, Nat.add_zero]
    congr 1
    simp only [decide_eq_decide]; omega
  | d + 1, i, K, x, hi, hK, hx => by
    obtain ⟨K, rfl⟩ : ∃ m, K = m + 1 := ⟨K - 1, by omega⟩
    have hlt : i < l.length := by omega
    have ha := at_some l i hlt
    have hm : (rd_T35 l (i : Int)).f1.size ≤ 140737488351232 := hb _ (List.mem_of_getElem? ha)
    have hd := List.drop_eq_getElem_cons hlt
    rw [List.getElem?_eq_getElem hlt] at ha
    injection ha with ha
    have hw : wrap64 ((i : Int) + 1) = ((i + 1 : Nat) : Int) := by unfold wrap64; omega
    have hx2 : wrap64 ((x : Int) + ((rd_T35 l (i : Int)).f1.size : Int)) = ((x + (rd_T35 l (i : Int)).f1.size : Nat) : Int) := by unfold wrap64; omega
    simp only [sizarref09_Few.l0, hw, hx2]
    rw [if_pos (by omega), if_pos (by omega), few_loop l hl hb d (i + 1) K _ (by omega) (by omega) (by omega), hd, ha]
    simp only [List.map_cons, List.sum_cons, Nat.add_assoc]
theorem few_any (l : List Tok) (hl : l.length ≤ 9223372036854775806) : ∀ (d i K : Nat) (x : Int), i + d = l.length → d < K → 200 < l.length → sizarref09_Few.l0 K l x (i : Int) = some false
  | 0, i, K, x, hi, hK, h2 => by
    obtain ⟨K, rfl⟩ : ∃ m, K = m + 1 := ⟨K - 1, by omega⟩
    simp only [sizarref09_Few.l0]
    rw [if_neg (by omega), if_neg (by omega)]
  | d + 1, i, K, x, hi, hK, h2 => by
    obtain ⟨K, rfl⟩ : ∃ m, K = m + 1 := ⟨K - 1, by omega⟩
    have hw : wrap64 ((i : Int) + 1) = ((i + 1 : Nat) : Int) := by unfold wrap64; omega
    simp only [sizarref09_Few.l0, hw]
    rw [if_pos (by omega), if_pos (by omega), few_any l hl d (i + 1) K _ (by omega) (by omega) h2]
def Few (l : List Tok) : Prop := l.length ≤ 200 ∧ (l.map fun t => t.f1.size).sum ≤ 2000
theorem few_f (l : List Tok) (hl : l.length ≤ 9223372036854775806) (hb : ∀ t ∈ l, t.f1.size ≤ 140737488351232) (K : Nat) (hK : l.length + 1 ≤ K) : ∃ b, sizarref09_Few.f K l = some b ∧ (b = true → Few l) := by
  unfold sizarref09_Few.f
  by_cases h : l.length ≤ 200
  · refine ⟨_, few_loop l h hb l.length 0 K 0 (by omega) (by omega) (by omega), fun hd => ⟨h, ?_⟩⟩
    simpa using hd
  · exact ⟨false, few_any l hl l.length 0 K 0 (by omega) (by omega) (by omega), fun h => by cases h⟩
theorem sum_mem : ∀ (l : List Tok) (t : Tok), t ∈ l → t.f1.size ≤ (l.map fun t => t.f1.size).sum
  | a :: l, t, h => by
    rw [List.map_cons, List.sum_cons]
    rcases List.mem_cons.1 h with rfl | h
    · omega
    · have := sum_mem l t h; omega
theorem few_text {l : List Tok} (h : Few l) : (textOf l).length ≤ 7000 := by
  have h1 := text_len l
  have : ∀ l : List Tok, (l.map fun t => (wordOf t).length + 1).sum ≤ (l.map fun t => t.f1.size).sum + 21 * l.length := by
    intro l
    induction l with
    | nil => simp
    | cons t l ih =>
      have := word_len t
      simp only [List.map_cons, List.sum_cons, List.length_cons]; omega
  have h2 := this l
  have := h.1; have := h.2
  omega
/-- The reference's text. -/
def tailT (l : List Tok) : List UInt8 := (l.map fun t => 32 :: wordOf t).flatten
theorem joinW_tail (t : Tok) : ∀ l : List Tok, joinW ((t :: l).map wordOf) = wordOf t ++ tailT l := by
  intro l
  induction l generalizing t with
  | nil => simp [joinW, tailT]
  | cons u l ih =>
    rw [List.map_cons, List.map_cons, joinW, ← List.map_cons, ih u]
    simp [tailT]
theorem word_f (t : Tok) (hv : validT t = true) (K : Nat) (hK : 20 ≤ K) : t.f0 = 2 → sizarref09_Decimal.f K t.f2 = some (bs (wordOf t)) := by
  intro h2
  have hb : 0 ≤ t.f2 ∧ t.f2 ≤ 1099511627776 := by
    unfold validT at hv
    rw [if_neg (by omega), if_pos h2] at hv
    simp only [Bool.and_eq_true, decide_eq_true_eq] at hv
    exact ⟨hv.1.2, hv.2⟩
  obtain ⟨n, hn⟩ := Int.eq_ofNat_of_zero_le hb.1
  rw [hn, decimal_f n K (by omega) hK]
  unfold wordOf
  rw [if_pos h2, hn]
  exact congrArg (fun x => some (bs x)) (digs_dec 19 n (by omega)).symm
theorem word_else (t : Tok) (h2 : ¬ t.f0 = 2) : t.f1 = bs (wordOf t) := by
  unfold wordOf; rw [if_neg h2]; rfl
theorem rtext_loop (l : List Tok) (hF : Few l) : ∀ (d i K : Nat) (s : ByteArray), i + d = l.length → 0 < i → 50 + d ≤ K → s.size ≤ i * 3000 →
    sizarref09_Text.l0 K l s (i : Int) = some (if (l.drop i).all validT = true then (bs (s.data.toList ++ tailT (l.drop i)), 0) else (bs [], 90))
  | 0, i, K, s, hi, h0, hK, hs => by
    obtain ⟨K, rfl⟩ : ∃ m, K = m + 1 := ⟨K - 1, by omega⟩
    simp only [sizarref09_Text.l0]
    rw [if_neg (by omega), List.drop_of_length_le (by omega), List.all_nil, if_pos rfl]
    simp only [tailT, List.map_nil, List.flatten_nil, List.append_nil]; rfl
  | d + 1, i, K, s, hi, h0, hK, hs => by
    obtain ⟨K, rfl⟩ : ∃ m, K = m + 1 := ⟨K - 1, by omega⟩
    have hlt : i < l.length := by omega
    have h200 := hF.1
    have ha := at_some l i hlt
    have hm := sum_mem l _ (List.mem_of_getElem? ha)
    have h2000 := hF.2
    have hd := List.drop_eq_getElem_cons hlt
    rw [List.getElem?_eq_getElem hlt] at ha
    injection ha with ha
    rw [ha] at hd
    rw [hd]
    have hw : wrap64 ((i : Int) + 1) = ((i + 1 : Nat) : Int) := by unfold wrap64; omega
    have c1 : (i : Int) < (l.length : Int) := by omega
    have c2 : (0 : Int) ≤ (i : Int) := by omega
    have c3 : (i : Int) > 0 := by omega
    have ih := fun s' h' => rtext_loop l hF d (i + 1) K s' (by omega) (by omega) (by omega) h'
    simp only [sizarref09_Text.l0, if_pos c1, if_pos c2, if_pos c3, hw]
    generalize rd_T35 l (i : Int) = t at hm ⊢
    have hval := rvalid_f t K (by omega)
    have hone : (s ++ (⟨#[32]⟩ : ByteArray)).size = s.size + 1 := by rw [ByteArray.size_append]; rfl
    have hwl := word_len t
    have hcat : ∀ w : List UInt8, ((s ++ (⟨#[32]⟩ : ByteArray)) ++ bs w).data.toList = s.data.toList ++ 32 :: w := by
      intro w
      simp [ByteArray.data_append, bs]
    have hsz : ∀ w : List UInt8, ((s ++ (⟨#[32]⟩ : ByteArray)) ++ bs w).size = s.size + 1 + w.length := by
      intro w
      rw [ByteArray.size_append, hone, ← size_data (bs w)]; rfl
    have c4 : s.size + 1 ≤ 9223372036854775807 := by omega
    have c5 : (s ++ (⟨#[32]⟩ : ByteArray)).size + (bs (wordOf t)).size ≤ 9223372036854775807 := by
      rw [hone, ← size_data]; show s.size + 1 + (wordOf t).length ≤ _; omega
    simp only [hval, Option.bind_some, if_pos c4]
    by_cases hv : validT t = true
    case neg => rw [if_neg hv, if_neg (by rw [List.all_cons]; simp [hv])]; rfl
    case pos =>
      have hfin : sizarref09_Text.l0 K l ((s ++ (⟨#[32]⟩ : ByteArray)) ++ bs (wordOf t)) ((i + 1 : Nat) : Int) = some (if (t :: l.drop (i + 1)).all validT = true then (bs (s.data.toList ++ tailT (t :: l.drop (i + 1))), 0) else (bs [], 90)) := by
        rw [ih _ (by rw [hsz]; omega), hcat]
        simp [tailT, hv]
      rw [if_pos hv]
      by_cases h2 : t.f0 = 2
      · rw [if_pos h2, word_f t hv K (by omega) h2, Option.bind_some, if_pos c5, hfin]
      · rw [if_neg h2]
        conv => lhs; rw [word_else t h2]
        rw [if_pos c5, hfin]
theorem rtext_f (l : List Tok) (hF : Few l) (K : Nat) (hK : 300 ≤ K) : sizarref09_Text.f K l = lex_Text.f l := by
  have h200 := hF.1
  have hlen := few_text hF
  have hres : lex_Text.f l = some (if l.all validT = true then (bs (textOf l), 0) else (bs [], 90)) := by
    cases h : l.all validT
    · rw [Text_bad h (by omega)]; rfl
    · rw [Text_ok (by rw [List.all_eq_true] at h; exact h) (by omega) (by omega)]; rfl
  rw [hres]
  unfold sizarref09_Text.f
  obtain ⟨K, rfl⟩ : ∃ m, K = m + 1 := ⟨K - 1, by omega⟩
  cases l with
  | nil => rfl
  | cons t l =>
    have h0 : rd_T35 (t :: l) 0 = t := rfl
    have hm := sum_mem (t :: l) t List.mem_cons_self
    have h2000 := hF.2
    have hval := rvalid_f t K (by omega)
    have hwl := word_len t
    have c1 : (0 : Int) < ((t :: l).length : Int) := by rw [List.length_cons]; omega
    have c3 : ¬ (0 : Int) > 0 := by omega
    have hw : wrap64 ((0 : Int) + 1) = ((1 : Nat) : Int) := by unfold wrap64; omega
    have he : (⟨#[]⟩ : ByteArray).size = 0 := rfl
    have hbs : (bs (wordOf t)).size = (wordOf t).length := by rw [← size_data]; rfl
    have c5 : (⟨#[]⟩ : ByteArray).size + (bs (wordOf t)).size ≤ 9223372036854775807 := by rw [he, hbs]; omega
    have hnil : (⟨#[]⟩ : ByteArray) ++ bs (wordOf t) = bs (wordOf t) := by
      apply ByteArray.ext
      simp [ByteArray.data_append, bs]
    simp only [sizarref09_Text.l0, if_pos c1, if_pos (Int.le_refl (0 : Int)), if_neg c3, hw, h0, hval, Option.bind_some]
    by_cases hv : validT t = true
    case neg => rw [if_neg hv, if_neg (by rw [List.all_cons]; simp [hv])]; rfl
    case pos =>
      have hfin : sizarref09_Text.l0 K (t :: l) ((⟨#[]⟩ : ByteArray) ++ bs (wordOf t)) ((1 : Nat) : Int) = some (if (t :: l).all validT = true then (bs (textOf (t :: l)), 0) else (bs [], 90)) := by
        rw [hnil, rtext_loop (t :: l) hF l.length 1 K _ (by rw [List.length_cons]; omega) (by omega) (by rw [List.length_cons] at h200; omega) (by rw [hbs]; omega)]
        unfold textOf
        rw [joinW_tail]
        simp [bs, hv]
      rw [if_pos hv]
      by_cases h2 : t.f0 = 2
      · rw [if_pos h2, word_f t hv K (by omega) h2, Option.bind_some, if_pos c5, hfin]
      · rw [if_neg h2]
        conv => lhs; rw [word_else t h2]
        rw [if_pos c5, hfin]
end Go.Proofs.YtomglbjcfcijkaaDoor.PLx

namespace Go.Proofs.YtomglbjcfcijkaaDoor.PLx
open Go.RowKit Go.Proofs.YtomglbjcfcijkaaDoorW.PrintWords Go.Proofs.YtomglbjcfcijkaaDoorW.PrintLast Go.Proofs.YtomglbjcfcijkaaDoorW.PrintMore
theorem sane_40 : sizarlaw09_sane.f 40 = some true := by decide +kernel
theorem sane_all (k : Nat) (h : 40 ≤ k) : sizarlaw09_sane.f k = some true := more_rounds sizarlaw09_sane.mono sane_40 h
end Go.Proofs.YtomglbjcfcijkaaDoor.PLx

namespace Go.Proofs.YtomglbjcfcijkaaDoor.PLx
open Go.RowKit Go.ChangeShapes Go.Proofs.YtomglbjcfcijkaaDoorW.PrintWords Go.Proofs.YtomglbjcfcijkaaDoorW.PrintLast Go.Proofs.YtomglbjcfcijkaaDoorW.PrintMore

section
variable {H : Type} {enc : TypeId × Value → H} {W : World} {base : Nat} {sp : Nat → Bool} {held : Bool}
theorem cellsTok : Tryd.prog.cellsOf 35 = 4 := by kernel_rfl
theorem cellsInt : Tryd.prog.cellsOf 3 = 1 := by kernel_rfl
theorem cellsS : Tryd.prog.cellsOf 9 = 1 := by kernel_rfl
/-- How a token reads. -/
def tokD (t : Tok) : DataW H := .agg [.lit (.int .i64 t.f0), .lit (.string t.f1.data.toList), .lit (.int .i64 t.f2), .lit (.int .i64 t.f3)]
theorem four_of {α : Type} (xs : List α) (h : xs.length = 4) : ∃ a b c d, xs = [a, b, c, d] := by
  match xs, h with
  | [a, b, c, d], _ => exact ⟨a, b, c, d, rfl⟩
theorem tok_of_trod {fuel : Nat} {cs : List Value} {x : DataW H × List MemPlace} (h : DataW.trod enc Tryd.prog W base sp held fuel 35 cs = some x) :
    ∃ t : Tok, cs = [.int .i64 t.f0, .string t.f1, .int .i64 t.f2, .int .i64 t.f3] ∧ x.1 = tokD t := by
  obtain ⟨xs, n, rfl, rfl, hl, hn, hf⟩ := DataW.trod_struct Tryd.underlying35 h
  obtain ⟨c0, c1, c2, c3, rfl⟩ := four_of cs (hl.trans cellsTok)
  obtain ⟨x0, x1, x2, x3, rfl⟩ := four_of xs hn
  have h0 : DataW.trod enc Tryd.prog W base sp held n 3 [c0] = some x0 := by
    have := hf 0 _ rfl
    change DataW.trod enc Tryd.prog W base sp held n 3 (([c0, c1, c2, c3].drop 0).take (Tryd.prog.cellsOf 3)) = some x0 at this
    rw [cellsInt] at this
    exact this
  have h1 : DataW.trod enc Tryd.prog W base sp held n 9 [c1] = some x1 := by
    have := hf 1 _ rfl
    change DataW.trod enc Tryd.prog W base sp held n 9 (([c0, c1, c2, c3].drop 1).take (Tryd.prog.cellsOf 9)) = some x1 at this
    rw [cellsS] at this
    exact this
  have h2 : DataW.trod enc Tryd.prog W base sp held n 3 [c2] = some x2 := by
    have := hf 2 _ rfl
    change DataW.trod enc Tryd.prog W base sp held n 3 (([c0, c1, c2, c3].drop 2).take (Tryd.prog.cellsOf 3)) = some x2 at this
    rw [cellsInt] at this
    exact this
  have h3 : DataW.trod enc Tryd.prog W base sp held n 3 [c3] = some x3 := by
    have := hf 3 _ rfl
    change DataW.trod enc Tryd.prog W base sp held n 3 (([c0, c1, c2, c3].drop 3).take (Tryd.prog.cellsOf 3)) = some x3 at this
    rw [cellsInt] at this
    exact this
  obtain ⟨n0, e0, d0, _⟩ := DataW.trod_int Tryd.underlying3 h0
  obtain ⟨s1, e1, d1, _⟩ := DataW.trod_string Tryd.underlying9 h1
  obtain ⟨n2, e2, d2, _⟩ := DataW.trod_int Tryd.underlying3 h2
  obtain ⟨n3, e3, d3, _⟩ := DataW.trod_int Tryd.underlying3 h3
  injection e0 with e0
  injection e1 with e1
  injection e2 with e2
  injection e3 with e3
  subst e0; subst e1; subst e2; subst e3; subst d0; subst d1; subst d2; subst d3
  exact ⟨⟨n0, s1, n2, n3⟩, rfl, rfl⟩
theorem cells_add {w : World} {b : Nat} {a : Addr} {n : Nat} {c : List Value} (h : w.cells? b a n = some c) : c.length = n ∧ ∀ i u, c[i]? = some u → w.cell? (a.add i) = some u := by
  unfold World.cells? at h
  split at h
  · have hl := Lib.mapM_length h
    refine ⟨by simpa using hl, fun i u hu => ?_⟩
    have hi : i < n := by
      have := (List.getElem?_eq_some_iff.1 hu).1
      rw [hl] at this; simpa using this
    obtain ⟨b, hb, hf⟩ := Lib.mapM_at h i i (by simp [hi])
    rw [hu] at hb
    injection hb with hb
    subst hb
    exact hf
  · cases h
theorem list_of {α β : Type} (P : α → β → Prop) : ∀ (xs : List α), (∀ x ∈ xs, ∃ y, P x y) → ∃ ys : List β, ys.length = xs.length ∧ ∀ (i : Nat) x, xs[i]? = some x → ∃ y, ys[i]? = some y ∧ P x y
  | [], _ => ⟨[], rfl, fun i x h => by simp at h⟩
  | a :: xs, h => by
    obtain ⟨y, hy⟩ := h a List.mem_cons_self
    obtain ⟨ys, hl, hp⟩ := list_of P xs (fun x hx => h x (List.mem_cons_of_mem _ hx))
    refine ⟨y :: ys, by simp [hl], fun i x hx => ?_⟩
    cases i with
    | zero => injection hx with hx; subst hx; exact ⟨y, rfl, hy⟩
    | succ i => exact hp i x hx
/-- A slice of tokens. -/
theorem toks_of_trod {A : Option Addr} {len cap : Nat} {d : DataW H} {p : List MemPlace} (h : ∃ fuel, DataW.trod enc Tryd.prog W base sp held fuel 23 (Value.slice A len cap).cells.toList = some (d, p)) :
    ∃ l : List Tok, len = l.length ∧ l.length ≤ cap ∧ Kd.C k35 W A l.length l ∧ (d = .nil ∧ l = [] ∨ ∃ sp', d = .slice (l.map tokD) sp') := by
  obtain ⟨fuel, h⟩ := h
  rcases DataW.trod_slice Tryd.underlying23 h with ⟨hc, hx⟩ | ⟨a, len', cap', elems, rest, n, rfl, hc, hx, _, hle, hcap, hlen, hel, _, _⟩
  · simp [Value.cells] at hc
    obtain ⟨rfl, rfl, rfl⟩ := hc
    injection hx with hx _
    exact ⟨[], rfl, Nat.le_refl _, Kd.C_nil _ _, .inl ⟨hx, rfl⟩⟩
  · simp [Value.cells] at hc
    obtain ⟨rfl, rfl, rfl⟩ := hc
    injection hx with hx _
    rw [cellsTok] at hel
    obtain ⟨l, hl, hp⟩ := list_of (fun (x : DataW H × List MemPlace) (t : Tok) => x.1 = tokD t) elems (fun x hx => by
      obtain ⟨i, hi⟩ := List.getElem?_of_mem hx
      have hi' : i < len := by rw [← hlen]; exact (List.getElem?_eq_some_iff.1 hi).1
      have := hel i hi'
      rw [hi, Option.bind_eq_some_iff] at this
      obtain ⟨c, _, hc⟩ := this
      obtain ⟨t, _, ht⟩ := tok_of_trod hc
      exact ⟨t, ht⟩)
    have hmap : elems.map (·.1) = l.map tokD := by
      apply List.ext_getElem?
      intro i
      rw [List.getElem?_map, List.getElem?_map]
      cases hi : elems[i]? with
      | none =>
        have : l[i]? = none := by rw [List.getElem?_eq_none_iff]; rw [List.getElem?_eq_none_iff] at hi; omega
        rw [this]; rfl
      | some x =>
        obtain ⟨t, ht, hxt⟩ := hp i x hi
        rw [ht]; simp [hxt]
    refine ⟨l, by omega, by omega, ⟨rfl, by have := hcap; unfold maxLen at this; omega, fun _ => ⟨a, rfl, fun j t ht => ?_⟩⟩, .inr ⟨_, by rw [hx, hmap]⟩⟩
    have hj : j < len := by have := (List.getElem?_eq_some_iff.1 ht).1; omega
    have he := hel j hj
    cases hi : elems[j]? with
    | none => rw [List.getElem?_eq_none_iff] at hi; omega
    | some x =>
      rw [hi, Option.bind_eq_some_iff] at he
      obtain ⟨c, hc, hcx⟩ := he
      obtain ⟨t', ec, ht'⟩ := tok_of_trod hcx
      obtain ⟨t2, ht2, hx2⟩ := hp j x hi
      rw [ht] at ht2
      injection ht2 with ht2
      subst ht2
      rw [hx2] at ht'
      have hK : Kd.K k35 W t c := by
        have e := ht'
        unfold tokD at e
        simp only [DataW.agg.injEq, List.cons.injEq, DataW.lit.injEq, Lit.int.injEq, Lit.string.injEq, true_and, and_true] at e
        obtain ⟨e0, e1, e2, e3⟩ := e
        have e1' : t.f1 = t'.f1 := ByteArray.ext (Array.toList_inj.1 e1)
        rw [ec, ← e0, ← e1', ← e2, ← e3]
        exact k35_mk W t
      obtain ⟨hlc, hcell⟩ := cells_add hc
      exact ⟨c, hlc, hK, fun i u hu => by
        have := hcell i u hu
        have ha : (a.add (j * 4)).add i = a.add (j * 4 + i) := add_add _ _ _
        show W.cell? (a.add (j * 4 + i)) = some u
        rw [← ha]; exact this⟩
theorem mem_weightsAll {P : Program} {e : TypeId} {n : Nat} : ∀ {ds : List (DataW H)} {d : DataW H}, d ∈ ds → n ∈ d.weights P e → n ∈ DataW.weightsAll P e ds
  | a :: ds, d, h, hn => by
    rw [DataW.weightsAll, List.mem_append]
    rcases List.mem_cons.1 h with rfl | h
    · exact .inl hn
    · exact .inr (mem_weightsAll h hn)
theorem tok_weight (t : Tok) : t.f1.data.toList.length ∈ (tokD t : DataW H).weights Tryd.prog 35 := by
  unfold tokD
  rw [DataW.weights, Tryd.underlying35]
  simp [DataW.weightsEach, DataW.weights]
/-- What the row's weights tell of a slice of tokens. -/
theorem toks_sized {ts : List TypeId} {ds : List (DataW H)} {l : List Tok} {d : DataW H} {j : Nat} (h : (DataW.weightsEach Tryd.prog ts ds).all (· ≤ reachBytes) = true) (ht : ts[j]? = some 23) (hd : ds[j]? = some d) (hs : d = .nil ∧ l = [] ∨ ∃ sp', d = .slice (l.map tokD) sp') :
    (∀ t ∈ l, t.f1.size ≤ 140737488351232) ∧ l.length ≤ 9223372036854775806 := by
  rcases hs with ⟨_, rfl⟩ | ⟨sp', rfl⟩
  · exact ⟨fun t ht => (by cases ht), Nat.zero_le _⟩
  · have hall : ∀ n ∈ (DataW.slice (l.map tokD) sp' : DataW H).weights Tryd.prog 23, n ≤ reachBytes := fun n hn => by
      have := List.all_eq_true.1 h n (DataW.weights_mem_each ht hd n hn)
      simpa using this
    have he : (DataW.slice (l.map tokD) sp' : DataW H).weights Tryd.prog 23 = ((l.map tokD : List (DataW H)).length + sp'.length) * Tryd.prog.bytesOf 35 :: (DataW.weightsAll Tryd.prog 35 (l.map tokD : List (DataW H)) ++ DataW.weightsAll Tryd.prog 35 sp') := by
      rw [DataW.weights, Tryd.underlying23]
    rw [he] at hall
    refine ⟨fun t ht' => ?_, ?_⟩
    · have h1 := hall t.f1.data.toList.length (List.mem_cons_of_mem _ (List.mem_append_left _ (mem_weightsAll (List.mem_map_of_mem ht') (tok_weight t))))
      rw [Array.length_toList] at h1
      exact h1
    · have h1 := hall _ List.mem_cons_self
      have hb : Tryd.prog.bytesOf 35 = 40 := by kernel_rfl
      rw [hb, List.length_map] at h1
      have : reachBytes = 140737488351232 := rfl
      omega
end
end Go.Proofs.YtomglbjcfcijkaaDoor.PLx

namespace Go.Proofs.YtomglbjcfcijkaaDoor.PLx
open Go.RowKit Go.Proofs.YtomglbjcfcijkaaDoorW.PrintWords Go.Proofs.YtomglbjcfcijkaaDoorW.PrintLast Go.Proofs.YtomglbjcfcijkaaDoorW.PrintMore
theorem pureLexTextSpec (a b : List Tok) (s : ByteArray) (ha : a.length ≤ 9223372036854775806) (hb : b.length ≤ 9223372036854775806) (wa : ∀ t ∈ a, t.f1.size ≤ 140737488351232) (wb : ∀ t ∈ b, t.f1.size ≤ 140737488351232) : ∃ k, sizarlaw09_LexTextSpec.f k a b s = some true := by
  refine ⟨a.length + b.length + 2000, ?_⟩
  obtain ⟨fa, ea, ga⟩ := few_f a ha wa (a.length + b.length + 2000) (by omega)
  obtain ⟨fb, eb, gb⟩ := few_f b hb wb (a.length + b.length + 2000) (by omega)
  unfold sizarlaw09_LexTextSpec.f
  rw [sane_all _ (by omega), Option.bind_some, if_pos rfl, ea, Option.bind_some]
  cases fa
  · rfl
  rw [if_pos rfl, eb, Option.bind_some]
  cases fb
  · rfl
  rw [if_pos rfl]
  have hFa := ga rfl
  by_cases h1000 : (s.size : Int) > 1000
  · rw [decide_eq_true h1000]; rfl
  rw [decide_eq_false h1000]
  have e1 := rtext_f a hFa (a.length + b.length + 1999) (by omega)
  have e2 := rsame_f a b ha (a.length + b.length + 1999) (by omega)
  have e3 := rname_f s (a.length + b.length + 1999) (by omega)
  have e4 := name_f s (a.length + b.length + 1999) (by omega)
  have h200 := hFa.1
  have hlen := few_text hFa
  have hres : ∃ r, lex_Text.f a = some r := by
    cases h : a.all validT
    · exact ⟨_, Text_bad h (by omega)⟩
    · exact ⟨_, Text_ok (by rw [List.all_eq_true] at h; exact h) (by omega) (by omega)⟩
  obtain ⟨r, hr⟩ := hres
  simp only [sizarlaw09_LexTextSpec.j0, Bool.false_eq_true, if_false, e1, e2, e3, e4, hr, Option.bind_some, lex_Same.f, sameToks_refl, beq_self_eq_true, if_true]
theorem walkLexTextSpec (W : World) (A0 : Option Addr) (c0 : Nat) (l0 : List Tok) (hr0 : Kd.C k35 W A0 l0.length l0) (hc0 : l0.length ≤ c0) (A1 : Option Addr) (c1 : Nat) (l1 : List Tok) (hr1 : Kd.C k35 W A1 l1.length l1) (hc1 : l1.length ≤ c1) (s : ByteArray)
    (w0 : ∀ t ∈ l0, t.f1.size ≤ 140737488351232) (w1 : ∀ t ∈ l1, t.f1.size ≤ 140737488351232) (n0 : l0.length ≤ 9223372036854775806) (n1 : l1.length ≤ 9223372036854775806) (hL : Laid W) :
    Calls Tryd.prog 4 #[.slice A0 l0.length c0, .slice A1 l1.length c1, .string s] W fun e w' => e = .returned (.bool true) ∧ Below W.heap.size W w' := by
  obtain ⟨k, hk⟩ := pureLexTextSpec l0 l1 s n0 n1 w0 w1
  exact sizarlaw09_LexTextSpec.calls k A0 c0 l0 A1 c1 l1 s true W hr0 hc0 hr1 hc1 hL hk
end Go.Proofs.YtomglbjcfcijkaaDoor.PLx

namespace Go.Proofs.YtomglbjcfcijkaaDoor.lexTextSpec
open Go.ChangeShapes Go.WideShapes Go.ChangeAt Go.RowKit
open Go.ChangeMaps (open_string shut_string)
open Go.Proofs.YtomglbjcfcijkaaDoor.PLx
set_option linter.unusedVariables false
theorem laidOut : laidOutB Tryd.prog = true := by kernel_rfl
set_option maxRecDepth 100000 in
theorem lifted (os : Os) (started : os.Started) (H : Type) (enc : TypeId × Value → H) :
    ReturnsInHanded {} Tryd.checked os 4 .any (fun w args => (Rows.lexTextSpecSpec.pre enc Tryd.prog Tryd.f4 [] false w args ∧ laidMetH Tryd.prog Rows.lexTextSpecRow.laid w) ∧ sizedMet enc Tryd.prog Tryd.f4 (OpenSpec.ofChange Rows.lexTextSpecSpec) false w args) (Rows.lexTextSpecSpec.post enc Tryd.prog Tryd.f4 false true false false) := by
  refine returnsInHanded_of_change_and (C := Tryd.checked) (X := fun w _ => laidMetH Tryd.prog Rows.lexTextSpecRow.laid w) (fun _ _ _ hh h => h.of_heap hh) ownNone started (by kernel_rfl) Tryd.func4
    (ChangeSpec.witness_shaped (enc := enc) (C := Tryd.checked) (os := os) (X := fun w _ => laidMetH Tryd.prog Rows.lexTextSpecRow.laid w) false (doorW os) #[.slice none 0 0, .slice none 0 0, .string ByteArray.empty] 8 rfl (World.shaped_of_RefB (by kernel_rfl) (by kernel_rfl)) (by kernel_rfl) (by kernel_rfl) (by kernel_rfl) (door_met os _)) ?_
  intro W base args ds gs before hval0 hW hcnd hsz0 hX _
  have hsz : (DataW.weightsEach Tryd.prog (Tryd.f4.params.toList ++ Rows.lexTextSpecSpec.plain.varTypes Tryd.prog) (ds ++ gs)).all (· ≤ reachBytes) = true := hsz0
  have hval : ∀ (j : Nat) t v, Tryd.f4.params[j]? = some t → args[j]? = some v → Value.okWide Tryd.prog W .any base t v := hval0
  have hW' := hW
  obtain ⟨p, q, hA0, hV, rfl, hfz, hnd⟩ := hW
  have hA : DataW.TrodAll enc Tryd.prog W 0 (fun _ => true) true Tryd.f4.params.toList args.toList ds p := hA0
  rw [Tryd.params4] at hA hval hsz
  obtain ⟨v0, vs0, d0, ds0, p0, q0, hargs, rfl, rfl, h0, r0⟩ := trodAll_cons hA
  obtain ⟨v1, vs1, d1, ds1, p1, q1, rfl, rfl, rfl, h1, r1⟩ := trodAll_cons r0
  obtain ⟨v2, vs2, d2, ds2, p2, q2, rfl, rfl, rfl, h2, r2⟩ := trodAll_cons r1
  obtain ⟨rfl, rfl, rfl⟩ := trodAll_nil r2
  obtain rfl : args = #[v0, v1, v2] := by cases args; simp_all
  obtain ⟨rfl, rfl⟩ := trodVars_none hV
  have hL := laid_of_row hX
  obtain ⟨A0, len0, cap0, rfl⟩ := okWide_slice Tryd.underlying23 (hval 0 23 v0 rfl rfl)
  have k0 := h0
  have lt0 : ∀ x ∈ p0, x.block < W.heap.size := by obtain ⟨m, hm⟩ := k0; exact DataW.trod_lt m _ _ _ hm
  obtain ⟨l0, hl0, hc0, hr0, hd0⟩ := toks_of_trod h0
  subst hl0
  obtain ⟨w0, n0⟩ := toks_sized hsz (j := 0) rfl rfl hd0
  obtain ⟨A1, len1, cap1, rfl⟩ := okWide_slice Tryd.underlying23 (hval 1 23 v1 rfl rfl)
  have k1 := h1
  have lt1 : ∀ x ∈ p1, x.block < W.heap.size := by obtain ⟨m, hm⟩ := k1; exact DataW.trod_lt m _ _ _ hm
  obtain ⟨l1, hl1, hc1, hr1, hd1⟩ := toks_of_trod h1
  subst hl1
  obtain ⟨w1, n1⟩ := toks_sized hsz (j := 1) rfl rfl hd1
  obtain ⟨a2, rfl, rfl, rfl, y2⟩ := open_string Tryd.underlying9 (hval 2 9 v2 rfl rfl) h2
  have w2 : a2.size ≤ 140737488351232 := by
    have z := sized_string hsz (j := 2) (t := 9) rfl rfl
    rw [Array.length_toList] at z
    exact z
  refine (walkLexTextSpec W A0 cap0 l0 hr0 hc0 A1 cap1 l1 hr1 hc1 a2 w0 w1 n0 n1 hL).mono fun e W' ⟨he, bel⟩ => ?_
  subst he
  exact ⟨_, rfl, _, _, _, [], _, [], hW', trodAll_mk1 (shut_bool Tryd.underlying4 _), (trodAll_cons_mk (Below.trod laidOut (by kernel_rfl) (of_decide_eq_true (by kernel_rfl)) k0 bel lt0) (trodAll_cons_mk (Below.trod laidOut (by kernel_rfl) (of_decide_eq_true (by kernel_rfl)) k1 bel lt1) (trodAll_cons_mk (shut_string Tryd.underlying9 y2) trodAll_mk0))), rfl, bel.frame _, fun h => by cases h⟩
theorem over : Rows.lexTextSpecRow.holds Tryd.pinned (OpenSpec.ofChange Rows.lexTextSpecSpec) :=
  OpenClaim.holds_of_wide 4 Tryd.f4 rfl rfl rfl rfl rfl rfl rfl ⟨rfl, rfl, rfl, rfl, rfl⟩ rfl rfl rfl rfl rfl (by kernel_rfl) Tryd.func4 (by kernel_rfl)
    (of_decide_eq_true (by kernel_rfl)) (by unfold Func.isWrapper; first | (rw [if_pos (by decide +kernel)]; kernel_rfl) | (rw [if_neg (by decide +kernel)]; exact ⟨rfl, rfl⟩))
    (fun os started H enc _ => lifted os started H enc)
theorem card : Rows.LexTextSpecCardSaid :=
  Claim7.holds_tied_plain_at .later [] [.data, .data, .data, .sentinel, .sentinel] true (true, "ae60ee85bae1412e4cc9c73726323c87789b3eb36cc3db7c69b93d92b3735f87") true
    over (fun _ h => by cases h) (by kernel_rfl) (fun _ h => by cases h) lexTextSpec_row_tie rfl ⟨rfl, rfl⟩ (by kernel_rfl) rfl
    (fun f fn hf hfn => by
      obtain rfl : f = 4 := Option.some.inj ((show Tryd.prog.funcNamed "sizar/sizarlaw09.LexTextSpec" = some 4 by kernel_rfl).symm.trans hf) |>.symm
      obtain rfl : fn = Tryd.f4 := (Option.some.inj (Tryd.func4.symm.trans hfn)).symm
      exact ⟨by kernel_rfl, fun j t ht => by
        rw [Tryd.params4] at ht
        have hm : t ∈ [23, 23, 9] := by simpa using Array.mem_of_getElem? ht
        have hall : ([23, 23, 9].all fun u => !Tryd.prog.wantsStandIn u) = true := by kernel_rfl
        exact (show Tryd.prog.wantsStandIn t = false by simpa using List.all_eq_true.1 hall t hm)⟩)
    (by kernel_rfl)
end Go.Proofs.YtomglbjcfcijkaaDoor.lexTextSpec
namespace Go.Proofs.YtomglbjcfcijkaaDoor
/-- The card, under a short name, for the claim. -/
theorem lexTextSpec_card_holds : Rows.LexTextSpecCardSaid := lexTextSpec.card
#print axioms lexTextSpec_card_holds
end Go.Proofs.YtomglbjcfcijkaaDoor
