/- Written by xprint.py (this session's own program over the kit's print); Lean checks it. -/
import Derived.Test.YtomglbjcfcijkaaDoorPLxx0
import Derived.Test.YtomglbjcfcijkaaDoorPLxx7
import Derived.Test.YtomglbjcfcijkaaDoorPackRef
import Derived.Test.YtomglbjcfcijkaaDoorLexExt
import Derived.Test.YtomglbjcfcijkaaDoorPLxx6
import Derived.Test.YtomglbjcfcijkaaDoorLexSame
import Derived.Test.YtomglbjcfcijkaaDoorPackErr
import Derived.Test.YtomglbjcfcijkaaDoorLexFact
import Derived.Test.YtomglbjcfcijkaaDoorLexM
import Derived.ChangeArms
import Derived.Lib.LaidTab
import Derived.WideShapes
import Derived.SizedLaws
import Derived.ProofKit
import Derived.JoinedOf
import Derived.Test.YtomglbjcfcijkaaDoorRows
import Derived.Test.YtomglbjcfcijkaaDoorCards
import Derived.Test.YtomglbjcfcijkaaDoorTie
import Derived.Test.YtomglbjcfcijkaaDoorLexMet
import Derived.WalkKit
import Derived.OpenShut
import Derived.ShutString
import Derived.ChangeOld
import Derived.Below
import Derived.LaidMore
import Derived.SevenTiedAt
import Derived.Stop.Joined
namespace Go.Proofs.YtomglbjcfcijkaaDoor.PLx
open Go.RowKit Go.Proofs.YtomglbjcfcijkaaDoorW.PrintWords Go.Proofs.YtomglbjcfcijkaaDoorW.PrintLast Go.Proofs.YtomglbjcfcijkaaDoorW.PrintMore
attribute [local go_sem] max2_int min2_int max_two min_two max_three min_three max_four min_four   -- for this text's walks alone
set_option linter.unusedVariables false
set_option linter.unusedSimpArgs false

/-! ### sizarlaw09_LexBack: function 5 -/
mutual
def sizarlaw09_LexBack.j0 : Nat → List (S35) → ByteArray → Bool → Option (Bool)
  | 0, _, _, _ => none
  | k + 1, x0, x1, x27 => if x27 = true then (some true) else ((lex_Text.f x0).bind fun bt297 => (if bt297.2 = 0 then ((lex_Lex.f bt297.1).bind fun bt299 => (if bt299.2.2 = 0 then (if bt299.2.1 = 0 then ((lex_Same.f x0 bt299.1).bind fun t304 => (if t304 = true then (sizarlaw09_LexBack.j1 k x1) else (some false))) else (some false)) else (some false))) else (sizarlaw09_LexBack.j1 k x1)))
def sizarlaw09_LexBack.j1 : Nat → ByteArray → Option (Bool)
  | 0, _ => none
  | k + 1, x1 => (lex_Lex.f x1).bind fun bt305 => (if bt305.2.2 = 0 then ((lex_Text.f bt305.1).bind fun bt310 => ((lex_Lex.f bt310.1).bind fun bt312 => (if bt310.2 = 0 then (if bt312.2.2 = 0 then ((lex_Same.f bt305.1 bt312.1).bind fun t317 => (some t317)) else (some false)) else (some false)))) else (some ((bt305.1.length : Int) == 0)))
end
def sizarlaw09_LexBack.f (k : Nat) (l0 : List (S35)) (a1 : ByteArray) : Option (Bool) := (sizarlaw09_sane.f k).bind fun t295 => (if t295 = true then ((sizarref09_Few.f k l0).bind fun t296 => (if t296 = true then (sizarlaw09_LexBack.j0 k l0 a1 (decide ((a1.size : Int) > 3000))) else (sizarlaw09_LexBack.j0 k l0 a1 true))) else (some false))
theorem sizarlaw09_LexBack.mono_l : ∀ k, (∀ y0 y1 y2, LeO (sizarlaw09_LexBack.j0 k y0 y1 y2) (sizarlaw09_LexBack.j0 (k + 1) y0 y1 y2)) ∧ (∀ y0, LeO (sizarlaw09_LexBack.j1 k y0) (sizarlaw09_LexBack.j1 (k + 1) y0))
  | 0 => ⟨fun _ _ _ r h => by simp [sizarlaw09_LexBack.j0] at h, fun _ r h => by simp [sizarlaw09_LexBack.j1] at h⟩
  | k + 1 => by
    obtain ⟨ih0, ih1⟩ := sizarlaw09_LexBack.mono_l k
    refine ⟨?_, ?_⟩
    · intro y0 y1 y2
      unfold sizarlaw09_LexBack.j0
      repeat' first
      | (with_reducible exact ih0 _ _ _)
      | (with_reducible exact ih1 _)
      | (with_reducible exact sizarlaw09_sane.mono _)
      | (with_reducible exact sizarref09_Few.mono _ _)
      | (with_reducible exact LeO.refl _)
      | (with_reducible exact LeO.none _)
      | (with_reducible refine LeO.ite ?_ ?_)
      | (with_reducible refine LeO.bind ?_ (fun _ => ?_))
      | exact ih0 _ _ _
      | exact ih1 _
      | exact sizarlaw09_sane.mono _
      | exact sizarref09_Few.mono _ _
      | exact LeO.none _
      | refine LeO.ite ?_ ?_
      | refine LeO.bind ?_ (fun _ => ?_)
    · intro y0
      unfold sizarlaw09_LexBack.j1
      repeat' first
      | (with_reducible exact ih0 _ _ _)
      | (with_reducible exact ih1 _)
      | (with_reducible exact sizarlaw09_sane.mono _)
      | (with_reducible exact sizarref09_Few.mono _ _)
      | (with_reducible exact LeO.refl _)
      | (with_reducible exact LeO.none _)
      | (with_reducible refine LeO.ite ?_ ?_)
      | (with_reducible refine LeO.bind ?_ (fun _ => ?_))
      | exact ih0 _ _ _
      | exact ih1 _
      | exact sizarlaw09_sane.mono _
      | exact sizarref09_Few.mono _ _
      | exact LeO.none _
      | refine LeO.ite ?_ ?_
      | refine LeO.bind ?_ (fun _ => ?_)
theorem sizarlaw09_LexBack.mono : ∀ a0 a1 k, LeO (sizarlaw09_LexBack.f k a0 a1) (sizarlaw09_LexBack.f (k + 1) a0 a1) := by
  intro a0 a1 k
  obtain ⟨ih0, ih1⟩ := sizarlaw09_LexBack.mono_l k
  unfold sizarlaw09_LexBack.f
  repeat' first
      | (with_reducible exact ih0 _ _ _)
      | (with_reducible exact ih1 _)
      | (with_reducible exact sizarlaw09_sane.mono _)
      | (with_reducible exact sizarref09_Few.mono _ _)
      | (with_reducible exact LeO.refl _)
      | (with_reducible exact LeO.none _)
      | (with_reducible refine LeO.ite ?_ ?_)
      | (with_reducible refine LeO.bind ?_ (fun _ => ?_))
      | exact ih0 _ _ _
      | exact ih1 _
      | exact sizarlaw09_sane.mono _
      | exact sizarref09_Few.mono _ _
      | exact LeO.none _
      | refine LeO.ite ?_ ?_
      | refine LeO.bind ?_ (fun _ => ?_)
set_option maxHeartbeats 8000000 in
set_option maxRecDepth 100000 in
theorem sizarlaw09_LexBack.calls (k : Nat) (A0 : Option Addr) (c0 : Nat) (l0 : List (S35)) (a1 : ByteArray) (r : Bool) (w : World) (hr0 : Kd.C k35 w A0 l0.length l0) (hc0 : l0.length ≤ c0) (hL : Laid w) (h : sizarlaw09_LexBack.f k l0 a1 = some r) :
    Calls Tryd.prog 5 #[.slice A0 l0.length c0, .string a1] w fun e w' => e = .returned (.bool r) ∧ Below w.heap.size w w' := by
  have HR0 := Aside0.mk hr0
  have HC0 := Aside0.mk hc0
  clear hr0 hc0
  have HB := Aside0.mk (Below.refl w.heap.size w)
  have H : ((sizarlaw09_sane.f k).bind fun t295 => (if t295 = true then ((sizarref09_Few.f k l0).bind fun t296 => (if t296 = true then (sizarlaw09_LexBack.j0 k l0 a1 (decide ((a1.size : Int) > 3000))) else (sizarlaw09_LexBack.j0 k l0 a1 true))) else (some false))) = some r := h
  clear h
  replace H := Option.bind_eq_some_iff.mp H
  obtain ⟨t295, A30, H⟩ := H
  replace H : (if t295 = true then ((sizarref09_Few.f k l0).bind fun t296 => (if t296 = true then (sizarlaw09_LexBack.j0 k l0 a1 (decide ((a1.size : Int) > 3000))) else (sizarlaw09_LexBack.j0 k l0 a1 true))) else (some false)) = some r := H
  have A3 := Aside0.mk A30
  clear A30
  by_cases c4 : t295 = true
  · subst c4
    have H1 : ((sizarref09_Few.f k l0).bind fun t296 => (if t296 = true then (sizarlaw09_LexBack.j0 k l0 a1 (decide ((a1.size : Int) > 3000))) else (sizarlaw09_LexBack.j0 k l0 a1 true))) = some r := by rw [if_pos rfl] at H; exact H
    clear H
    have H := H1
    clear H1
    have HC5 := Aside0.mk H
    clear H
    go_enter Tryd.func5, Tryd.ntmps5
    go_upto_region 3 with (first | ((with_reducible refine gate_callee (f := 14) rfl ?_); refine goesL_ (some 18) rfl rfl Tryd.func14 (by kernel_rfl) rfl #[] rfl (by (try simp only [List.map_toArray, List.map_cons, List.map_nil]); first | done | rfl | (simp only [List.length_drop, List.length_take]; rfl)) ?_; (with_reducible refine (sizarlaw09_sane.calls k  true _ ?side1 A3.out).mono ?_); (case side1 => exact Laid.below hL (by repeat (first | (with_reducible first | exact HB.out | apply below_alloc | apply pw_below_drewN | apply below_drew1) | exact HB.out))); rintro e w6 ⟨rfl, hb⟩; refine ⟨_, rfl, ?_⟩; have n0_ := Aside0.mk (below_step (by repeat (first | (with_reducible first | exact HB.out | apply below_alloc | apply pw_below_drewN | apply below_drew1) | exact HB.out)) hb); clear HB; have HB := n0_; clear n0_; (try clear hb); (try clear hb2); (try clear hk); (try clear hi)))
    (try simp only [Act.put, List.setIfInBounds_toArray, List.set_cons_zero, List.set_cons_succ])
    go_cut [27] (fun v27 wc => ∃ (kq : Nat) (x27_4 : Bool), v27 = .bool x27_4 ∧ Aside0 (sizarlaw09_LexBack.j0 kq l0 a1 x27_4 = some r) ∧ Aside0 (kq ≤ k) ∧ Aside0 (Below w.heap.size w wc))
    case first =>
      have H := HC5.out
      clear HC5
      replace H := Option.bind_eq_some_iff.mp H
      obtain ⟨t296, A70, H⟩ := H
      replace H : (if t296 = true then (sizarlaw09_LexBack.j0 k l0 a1 (decide ((a1.size : Int) > 3000))) else (sizarlaw09_LexBack.j0 k l0 a1 true)) = some r := H
      have A7 := Aside0.mk A70
      clear A70
      by_cases c8 : t296 = true
      · subst c8
        have H1 : (sizarlaw09_LexBack.j0 k l0 a1 (decide ((a1.size : Int) > 3000))) = some r := by rw [if_pos rfl] at H; exact H
        clear H
        have H := H1
        clear H1
        have H' := Aside0.mk H
        clear H
        go_wp2_with (first | ((with_reducible refine gate_callee (f := 18) rfl ?_); refine goesL_ (some 21) rfl rfl Tryd.func18 (by kernel_rfl) rfl #[.slice A0 l0.length c0] rfl (by (try simp only [List.map_toArray, List.map_cons, List.map_nil]); first | done | rfl | (simp only [List.length_drop, List.length_take]; rfl)) ?_; (with_reducible refine (sizarref09_Few.calls k _ _ l0 true _ ?side1 ?side2 A7.out).mono ?_); (case side1 => repeat (first | exact (Kd.C_below HR0.out HB.out) | (with_reducible refine Kd.C_alloc ?_ _) | (with_reducible refine Kd.C_drewN ?_ _) | (with_reducible refine Kd.C_drew ?_))); (case side2 => exact HC0.out); rintro e w' ⟨rfl, ⟨nd, rfl⟩⟩; refine ⟨_, rfl, ?_⟩))
        go_meet
        case rel => exact ⟨_, (decide ((a1.size : Int) > 3000)), (by first | rfl | (simp; done) | (simp [*]; done)), H', ⟨by first | omega | exact Nat.le_refl _⟩, ⟨by repeat (first | (with_reducible first | exact HB.out | apply below_alloc | apply pw_below_drewN | apply below_drew1) | exact HB.out)⟩⟩
      · replace c8 := Bool.eq_false_iff.mpr c8
        subst c8
        have H1 : (sizarlaw09_LexBack.j0 k l0 a1 true) = some r := by rw [if_neg (show ¬ (false = true) by decide)] at H; exact H
        clear H
        have H := H1
        clear H1
        have H' := Aside0.mk H
        clear H
        go_wp2_with (first | ((with_reducible refine gate_callee (f := 18) rfl ?_); refine goesL_ (some 21) rfl rfl Tryd.func18 (by kernel_rfl) rfl #[.slice A0 l0.length c0] rfl (by (try simp only [List.map_toArray, List.map_cons, List.map_nil]); first | done | rfl | (simp only [List.length_drop, List.length_take]; rfl)) ?_; (with_reducible refine (sizarref09_Few.calls k _ _ l0 false _ ?side1 ?side2 A7.out).mono ?_); (case side1 => repeat (first | exact (Kd.C_below HR0.out HB.out) | (with_reducible refine Kd.C_alloc ?_ _) | (with_reducible refine Kd.C_drewN ?_ _) | (with_reducible refine Kd.C_drew ?_))); (case side2 => exact HC0.out); rintro e w' ⟨rfl, ⟨nd, rfl⟩⟩; refine ⟨_, rfl, ?_⟩))
        go_meet
        case rel => exact ⟨_, (true), (by first | rfl | (simp; done) | (simp [*]; done)), H', ⟨by first | omega | exact Nat.le_refl _⟩, ⟨by repeat (first | (with_reducible first | exact HB.out | apply below_alloc | apply pw_below_drewN | apply below_drew1) | exact HB.out)⟩⟩
    case rest =>
      clear HC5
      try clear c1
      try clear p2
      try clear c4
      try clear c5
      try clear c8
      obtain ⟨kq, x27_4, rfl, HA, HJ4, HB⟩ := hcut
      cases kq with
      | zero => exact absurd HA.out (by simp [sizarlaw09_LexBack.j0])
      | succ kj4 =>
        have H := HA.out
        clear HA
        simp only [sizarlaw09_LexBack.j0] at H
        by_cases c9 : x27_4 = true
        · subst c9
          have H1 : (some true) = some r := by rw [if_pos rfl] at H; exact H
          clear H
          have H := H1
          clear H1
          obtain rfl := Option.some.inj H
          go_wp2
          go_ret
          exact ⟨by first | rfl | (simp [errW_none, errW_some] <;> rfl) | (simp [*, errW_none, errW_some] <;> rfl), by repeat (first | (with_reducible first | exact HB.out | apply below_alloc | apply pw_below_drewN | apply below_drew1) | exact HB.out)⟩
        · replace c9 := Bool.eq_false_iff.mpr c9
          subst c9
          have H1 : ((lex_Text.f l0).bind fun bt297 => (if bt297.2 = 0 then ((lex_Lex.f bt297.1).bind fun bt299 => (if bt299.2.2 = 0 then (if bt299.2.1 = 0 then ((lex_Same.f l0 bt299.1).bind fun t304 => (if t304 = true then (sizarlaw09_LexBack.j1 kj4 a1) else (some false))) else (some false)) else (some false))) else (sizarlaw09_LexBack.j1 kj4 a1))) = some r := by rw [if_neg (show ¬ (false = true) by decide)] at H; exact H
          clear H
          have H := H1
          clear H1
          replace H := Option.bind_eq_some_iff.mp H
          obtain ⟨⟨t297, t298⟩, A100, H⟩ := H
          replace H : (if t298 = 0 then ((lex_Lex.f t297).bind fun bt299 => (if bt299.2.2 = 0 then (if bt299.2.1 = 0 then ((lex_Same.f l0 bt299.1).bind fun t304 => (if t304 = true then (sizarlaw09_LexBack.j1 kj4 a1) else (some false))) else (some false)) else (some false))) else (sizarlaw09_LexBack.j1 kj4 a1)) = some r := H
          have A10 := Aside0.mk A100
          clear A100
          have HC11 := Aside0.mk H
          clear H
          go_upto_if 34 with (first | ((with_reducible refine gate_callee (f := 19) rfl ?_); refine goesL_ (some 30) rfl rfl Tryd.func19 (by kernel_rfl) rfl #[.slice A0 l0.length c0] rfl (by (try simp only [List.map_toArray, List.map_cons, List.map_nil]); first | done | rfl | (simp only [List.length_drop, List.length_take]; rfl)) ?_; (with_reducible refine (lex_Text.calls _ _ l0 t297 t298 _ ?side1 ?side2 ?side3 A10.out).mono ?_); (case side1 => repeat (first | exact (Kd.C_below HR0.out HB.out) | (with_reducible refine Kd.C_alloc ?_ _) | (with_reducible refine Kd.C_drewN ?_ _) | (with_reducible refine Kd.C_drew ?_))); (case side2 => exact HC0.out); (case side3 => exact Laid.below hL (by repeat (first | (with_reducible first | exact HB.out | apply below_alloc | apply pw_below_drewN | apply below_drew1) | exact HB.out))); rintro e w12 ⟨rfl, hb⟩; refine ⟨_, rfl, ?_⟩; have n0_ := Aside0.mk (below_step (by repeat (first | (with_reducible first | exact HB.out | apply below_alloc | apply pw_below_drewN | apply below_drew1) | exact HB.out)) hb); clear HB; have HB := n0_; clear n0_; (try clear hb); (try clear hb2); (try clear hk); (try clear hi)))
          (try simp only [Act.put, List.setIfInBounds_toArray, List.set_cons_zero, List.set_cons_succ])
          go_cut [] (fun wc => ∃ (kq : Nat), Aside0 (sizarlaw09_LexBack.j1 kq a1 = some r) ∧ Aside0 (kq ≤ kj4) ∧ Aside0 (Below w.heap.size w wc))
          case first =>
            have H := HC11.out
            clear HC11
            by_cases c13 : t298 = 0
            · rw [if_pos c13] at H
              have c13b0 : (t298 == 0) = true := beq_iff_eq.mpr c13
              have c13b1 : (t298 != 0) = false := bne_eq_false_iff_eq.mpr c13
              clear c13
              (first | rw [c13b0] | (simp only [i64_w, i32_w]; rw [c13b0]) | skip)
              replace H := Option.bind_eq_some_iff.mp H
              obtain ⟨⟨t299, t300, t301⟩, A140, H⟩ := H
              replace H : (if t301 = 0 then (if t300 = 0 then ((lex_Same.f l0 t299).bind fun t304 => (if t304 = true then (sizarlaw09_LexBack.j1 kj4 a1) else (some false))) else (some false)) else (some false)) = some r := H
              have A14 := Aside0.mk A140
              clear A140
              by_cases c15 : t301 = 0
              · rw [if_pos c15] at H
                have c15b0 : (t301 == 0) = true := beq_iff_eq.mpr c15
                have c15b1 : (t301 != 0) = false := bne_eq_false_iff_eq.mpr c15
                clear c15
                by_cases c16 : t300 = 0
                · rw [if_pos c16] at H
                  have c16b0 : (t300 == 0) = true := beq_iff_eq.mpr c16
                  have c16b1 : (t300 != 0) = false := bne_eq_false_iff_eq.mpr c16
                  clear c16
                  replace H := Option.bind_eq_some_iff.mp H
                  obtain ⟨t304, A170, H⟩ := H
                  replace H : (if t304 = true then (sizarlaw09_LexBack.j1 kj4 a1) else (some false)) = some r := H
                  have A17 := Aside0.mk A170
                  clear A170
                  by_cases c18 : t304 = true
                  · subst c18
                    have H1 : (sizarlaw09_LexBack.j1 kj4 a1) = some r := by rw [if_pos rfl] at H; exact H
                    clear H
                    have H := H1
                    clear H1
                    have H' := Aside0.mk H
                    clear H
                    go_wp2_with (first | ((with_reducible refine gate_callee (f := 15) rfl ?_); refine goesL_ (some 37) rfl rfl Tryd.func15 (by kernel_rfl) rfl #[.string t297] rfl (by (try simp only [List.map_toArray, List.map_cons, List.map_nil]); first | done | rfl | (simp only [List.length_drop, List.length_take]; rfl)) ?_; (with_reducible refine (lex_Lex.calls t297 t299 t300 t301 _ ?side1 A14.out).mono ?_); (case side1 => exact Laid.below hL (by repeat (first | (with_reducible first | exact HB.out | apply below_alloc | apply pw_below_drewN | apply below_drew1) | exact HB.out))); rintro e w19 ⟨v302, rfl, ho0, hb⟩; refine ⟨_, rfl, ?_⟩; have n0_ := Aside0.mk (Kd.R_lower ho0 (below_size (by repeat (first | (with_reducible first | exact HB.out | apply below_alloc | apply pw_below_drewN | apply below_drew1) | exact HB.out)))); have n1_ := Aside0.mk (below_step (by repeat (first | (with_reducible first | exact HB.out | apply below_alloc | apply pw_below_drewN | apply below_drew1) | exact HB.out)) hb); clear HB; have HO303 := n0_; have HB := n1_; clear n0_ n1_; (try clear hb); (try clear hb2); (try clear hk); (try clear hi); (try clear ho0); obtain ⟨Ao20, co20, eo20⟩ := Kd.R_slice HO303.out; subst eo20) | (go_at_call 21; (with_reducible refine (lex_Same.calls _ _ l0 _ _ t299 true _ ?side1 ?side2 ?side3 ?side4 A17.out).mono ?_); (case side1 => repeat (first | exact (Kd.C_below HR0.out HB.out) | (with_reducible refine Kd.C_alloc ?_ _) | (with_reducible refine Kd.C_drewN ?_ _) | (with_reducible refine Kd.C_drew ?_))); (case side2 => exact HC0.out); (case side3 => repeat (first | exact (Kd.R_reads' HO303.out).2.2 | (with_reducible refine Kd.C_alloc ?_ _) | (with_reducible refine Kd.C_drewN ?_ _) | (with_reducible refine Kd.C_drew ?_))); (case side4 => exact (Kd.R_reads' HO303.out).2.1); rintro e w21 ⟨rfl, hb⟩; have n0_ := Aside0.mk (Kd.R_below (by (with_reducible repeat (first | apply Kd.R_alloc | apply Kd.R_drewN | apply Kd.R_drew)); exact HO303.out) hb); have n1_ := Aside0.mk (below_step (by repeat (first | (with_reducible first | exact HB.out | apply below_alloc | apply pw_below_drewN | apply below_drew1) | exact HB.out)) hb); clear HO303; clear HB; have HO303 := n0_; have HB := n1_; clear n0_ n1_; (try clear hb); (try clear hb2); (try clear hk); (try clear hi)))
                    go_meet
                    case rel => exact ⟨_, H', ⟨by have := HJ4.out; first | omega | exact Nat.le_refl _⟩, ⟨by repeat (first | (with_reducible first | exact HB.out | apply below_alloc | apply pw_below_drewN | apply below_drew1) | exact HB.out)⟩⟩
                  · replace c18 := Bool.eq_false_iff.mpr c18
                    subst c18
                    have H1 : (some false) = some r := by rw [if_neg (show ¬ (false = true) by decide)] at H; exact H
                    clear H
                    have H := H1
                    clear H1
                    obtain rfl := Option.some.inj H
                    go_wp2_with (first | ((with_reducible refine gate_callee (f := 15) rfl ?_); refine goesL_ (some 37) rfl rfl Tryd.func15 (by kernel_rfl) rfl #[.string t297] rfl (by (try simp only [List.map_toArray, List.map_cons, List.map_nil]); first | done | rfl | (simp only [List.length_drop, List.length_take]; rfl)) ?_; (with_reducible refine (lex_Lex.calls t297 t299 t300 t301 _ ?side1 A14.out).mono ?_); (case side1 => exact Laid.below hL (by repeat (first | (with_reducible first | exact HB.out | apply below_alloc | apply pw_below_drewN | apply below_drew1) | exact HB.out))); rintro e w22 ⟨v302, rfl, ho0, hb⟩; refine ⟨_, rfl, ?_⟩; have n0_ := Aside0.mk (Kd.R_lower ho0 (below_size (by repeat (first | (with_reducible first | exact HB.out | apply below_alloc | apply pw_below_drewN | apply below_drew1) | exact HB.out)))); have n1_ := Aside0.mk (below_step (by repeat (first | (with_reducible first | exact HB.out | apply below_alloc | apply pw_below_drewN | apply below_drew1) | exact HB.out)) hb); clear HB; have HO303 := n0_; have HB := n1_; clear n0_ n1_; (try clear hb); (try clear hb2); (try clear hk); (try clear hi); (try clear ho0); obtain ⟨Ao23, co23, eo23⟩ := Kd.R_slice HO303.out; subst eo23) | (go_at_call 21; (with_reducible refine (lex_Same.calls _ _ l0 _ _ t299 false _ ?side1 ?side2 ?side3 ?side4 A17.out).mono ?_); (case side1 => repeat (first | exact (Kd.C_below HR0.out HB.out) | (with_reducible refine Kd.C_alloc ?_ _) | (with_reducible refine Kd.C_drewN ?_ _) | (with_reducible refine Kd.C_drew ?_))); (case side2 => exact HC0.out); (case side3 => repeat (first | exact (Kd.R_reads' HO303.out).2.2 | (with_reducible refine Kd.C_alloc ?_ _) | (with_reducible refine Kd.C_drewN ?_ _) | (with_reducible refine Kd.C_drew ?_))); (case side4 => exact (Kd.R_reads' HO303.out).2.1); rintro e w24 ⟨rfl, hb⟩; have n0_ := Aside0.mk (Kd.R_below (by (with_reducible repeat (first | apply Kd.R_alloc | apply Kd.R_drewN | apply Kd.R_drew)); exact HO303.out) hb); have n1_ := Aside0.mk (below_step (by repeat (first | (with_reducible first | exact HB.out | apply below_alloc | apply pw_below_drewN | apply below_drew1) | exact HB.out)) hb); clear HO303; clear HB; have HO303 := n0_; have HB := n1_; clear n0_ n1_; (try clear hb); (try clear hb2); (try clear hk); (try clear hi)))
                    go_ret
                    exact ⟨by first | rfl | (simp [errW_none, errW_some] <;> rfl) | (simp [*, errW_none, errW_some] <;> rfl), by repeat (first | (with_reducible first | exact HB.out | apply below_alloc | apply pw_below_drewN | apply below_drew1) | exact HB.out)⟩
                · rw [if_neg c16] at H
                  have c16b0 : (t300 == 0) = false := beq_eq_false_iff_ne.mpr c16
                  have c16b1 : (t300 != 0) = true := bne_iff_ne.mpr c16
                  obtain rfl := Option.some.inj H
                  go_wp2_with (first | ((with_reducible refine gate_callee (f := 15) rfl ?_); refine goesL_ (some 37) rfl rfl Tryd.func15 (by kernel_rfl) rfl #[.string t297] rfl (by (try simp only [List.map_toArray, List.map_cons, List.map_nil]); first | done | rfl | (simp only [List.length_drop, List.length_take]; rfl)) ?_; (with_reducible refine (lex_Lex.calls t297 t299 t300 t301 _ ?side1 A14.out).mono ?_); (case side1 => exact Laid.below hL (by repeat (first | (with_reducible first | exact HB.out | apply below_alloc | apply pw_below_drewN | apply below_drew1) | exact HB.out))); rintro e w25 ⟨v302, rfl, ho0, hb⟩; refine ⟨_, rfl, ?_⟩; have n0_ := Aside0.mk (Kd.R_lower ho0 (below_size (by repeat (first | (with_reducible first | exact HB.out | apply below_alloc | apply pw_below_drewN | apply below_drew1) | exact HB.out)))); have n1_ := Aside0.mk (below_step (by repeat (first | (with_reducible first | exact HB.out | apply below_alloc | apply pw_below_drewN | apply below_drew1) | exact HB.out)) hb); clear HB; have HO303 := n0_; have HB := n1_; clear n0_ n1_; (try clear hb); (try clear hb2); (try clear hk); (try clear hi); (try clear ho0)))
                  go_ret
                  exact ⟨by first | rfl | (simp [errW_none, errW_some] <;> rfl) | (simp [*, errW_none, errW_some] <;> rfl), by repeat (first | (with_reducible first | exact HB.out | apply below_alloc | apply pw_below_drewN | apply below_drew1) | exact HB.out)⟩
              · rw [if_neg c15] at H
                have c15b0 : (t301 == 0) = false := beq_eq_false_iff_ne.mpr c15
                have c15b1 : (t301 != 0) = true := bne_iff_ne.mpr c15
                obtain rfl := Option.some.inj H
                go_wp2_with (first | ((with_reducible refine gate_callee (f := 15) rfl ?_); refine goesL_ (some 37) rfl rfl Tryd.func15 (by kernel_rfl) rfl #[.string t297] rfl (by (try simp only [List.map_toArray, List.map_cons, List.map_nil]); first | done | rfl | (simp only [List.length_drop, List.length_take]; rfl)) ?_; (with_reducible refine (lex_Lex.calls t297 t299 t300 t301 _ ?side1 A14.out).mono ?_); (case side1 => exact Laid.below hL (by repeat (first | (with_reducible first | exact HB.out | apply below_alloc | apply pw_below_drewN | apply below_drew1) | exact HB.out))); rintro e w26 ⟨v302, rfl, ho0, hb⟩; refine ⟨_, rfl, ?_⟩; have n0_ := Aside0.mk (Kd.R_lower ho0 (below_size (by repeat (first | (with_reducible first | exact HB.out | apply below_alloc | apply pw_below_drewN | apply below_drew1) | exact HB.out)))); have n1_ := Aside0.mk (below_step (by repeat (first | (with_reducible first | exact HB.out | apply below_alloc | apply pw_below_drewN | apply below_drew1) | exact HB.out)) hb); clear HB; have HO303 := n0_; have HB := n1_; clear n0_ n1_; (try clear hb); (try clear hb2); (try clear hk); (try clear hi); (try clear ho0)))
                go_ret
                exact ⟨by first | rfl | (simp [errW_none, errW_some] <;> rfl) | (simp [*, errW_none, errW_some] <;> rfl), by repeat (first | (with_reducible first | exact HB.out | apply below_alloc | apply pw_below_drewN | apply below_drew1) | exact HB.out)⟩
            · rw [if_neg c13] at H
              have c13b0 : (t298 == 0) = false := beq_eq_false_iff_ne.mpr c13
              have c13b1 : (t298 != 0) = true := bne_iff_ne.mpr c13
              (first | rw [c13b0] | (simp only [i64_w, i32_w]; rw [c13b0]) | skip)
              have H' := Aside0.mk H
              clear H
              go_wp2
              go_meet
              case rel => exact ⟨_, H', ⟨by have := HJ4.out; first | omega | exact Nat.le_refl _⟩, ⟨by repeat (first | (with_reducible first | exact HB.out | apply below_alloc | apply pw_below_drewN | apply below_drew1) | exact HB.out)⟩⟩
          case rest =>
            clear HC11
            try clear c1
            try clear p2
            try clear c4
            try clear c5
            try clear c8
            try clear c9
            try clear c13
            try clear c13b0
            try clear c13b1
            try clear c14
            try clear c15
            try clear c15b0
            try clear c15b1
            try clear c16
            try clear c16b0
            try clear c16b1
            try clear c18
            try clear c19
            try clear p2
            obtain ⟨kq, HA, HJ10, HB⟩ := hcut
            cases kq with
            | zero => exact absurd HA.out (by simp [sizarlaw09_LexBack.j1])
            | succ kj10 =>
              have H := HA.out
              clear HA
              simp only [sizarlaw09_LexBack.j1] at H
              replace H := Option.bind_eq_some_iff.mp H
              obtain ⟨⟨t305, t306, t307⟩, A270, H⟩ := H
              replace H : (if t307 = 0 then ((lex_Text.f t305).bind fun bt310 => ((lex_Lex.f bt310.1).bind fun bt312 => (if bt310.2 = 0 then (if bt312.2.2 = 0 then ((lex_Same.f t305 bt312.1).bind fun t317 => (some t317)) else (some false)) else (some false)))) else (some ((t305.length : Int) == 0))) = some r := H
              have A27 := Aside0.mk A270
              clear A270
              by_cases c28 : t307 = 0
              · rw [if_pos c28] at H
                have c28b0 : (t307 == 0) = true := beq_iff_eq.mpr c28
                have c28b1 : (t307 != 0) = false := bne_eq_false_iff_eq.mpr c28
                clear c28
                replace H := Option.bind_eq_some_iff.mp H
                obtain ⟨⟨t310, t311⟩, A290, H⟩ := H
                replace H : ((lex_Lex.f t310).bind fun bt312 => (if t311 = 0 then (if bt312.2.2 = 0 then ((lex_Same.f t305 bt312.1).bind fun t317 => (some t317)) else (some false)) else (some false))) = some r := H
                have A29 := Aside0.mk A290
                clear A290
                replace H := Option.bind_eq_some_iff.mp H
                obtain ⟨⟨t312, t313, t314⟩, A300, H⟩ := H
                replace H : (if t311 = 0 then (if t314 = 0 then ((lex_Same.f t305 t312).bind fun t317 => (some t317)) else (some false)) else (some false)) = some r := H
                have A30 := Aside0.mk A300
                clear A300
                by_cases c31 : t311 = 0
                · rw [if_pos c31] at H
                  have c31b0 : (t311 == 0) = true := beq_iff_eq.mpr c31
                  have c31b1 : (t311 != 0) = false := bne_eq_false_iff_eq.mpr c31
                  clear c31
                  by_cases c32 : t314 = 0
                  · rw [if_pos c32] at H
                    have c32b0 : (t314 == 0) = true := beq_iff_eq.mpr c32
                    have c32b1 : (t314 != 0) = false := bne_eq_false_iff_eq.mpr c32
                    clear c32
                    replace H := Option.bind_eq_some_iff.mp H
                    obtain ⟨t317, A330, H⟩ := H
                    replace H : (some t317) = some r := H
                    have A33 := Aside0.mk A330
                    clear A330
                    obtain rfl := Option.some.inj H
                    go_wp2_with (first | ((with_reducible refine gate_callee (f := 15) rfl ?_); refine goesL_ (some 55) rfl rfl Tryd.func15 (by kernel_rfl) rfl #[.string a1] rfl (by (try simp only [List.map_toArray, List.map_cons, List.map_nil]); first | done | rfl | (simp only [List.length_drop, List.length_take]; rfl)) ?_; (with_reducible refine (lex_Lex.calls a1 t305 t306 t307 _ ?side1 A27.out).mono ?_); (case side1 => exact Laid.below hL (by repeat (first | (with_reducible first | exact HB.out | apply below_alloc | apply pw_below_drewN | apply below_drew1) | exact HB.out))); rintro e w34 ⟨v308, rfl, ho0, hb⟩; refine ⟨_, rfl, ?_⟩; have n0_ := Aside0.mk (Kd.R_lower ho0 (below_size (by repeat (first | (with_reducible first | exact HB.out | apply below_alloc | apply pw_below_drewN | apply below_drew1) | exact HB.out)))); have n1_ := Aside0.mk (below_step (by repeat (first | (with_reducible first | exact HB.out | apply below_alloc | apply pw_below_drewN | apply below_drew1) | exact HB.out)) hb); clear HB; have HO309 := n0_; have HB := n1_; clear n0_ n1_; (try clear hb); (try clear hb2); (try clear hk); (try clear hi); (try clear ho0); obtain ⟨Ao35, co35, eo35⟩ := Kd.R_slice HO309.out; subst eo35) | ((with_reducible refine gate_callee (f := 19) rfl ?_); refine goesL_ (some 66) rfl rfl Tryd.func19 (by kernel_rfl) rfl #[.slice Ao35 t305.length co35] rfl (by (try simp only [List.map_toArray, List.map_cons, List.map_nil]); first | done | rfl | (simp only [List.length_drop, List.length_take]; rfl)) ?_; (with_reducible refine (lex_Text.calls _ _ t305 t310 t311 _ ?side1 ?side2 ?side3 A29.out).mono ?_); (case side1 => repeat (first | exact (Kd.R_reads' HO309.out).2.2 | (with_reducible refine Kd.C_alloc ?_ _) | (with_reducible refine Kd.C_drewN ?_ _) | (with_reducible refine Kd.C_drew ?_))); (case side2 => exact (Kd.R_reads' HO309.out).2.1); (case side3 => exact Laid.below hL (by repeat (first | (with_reducible first | exact HB.out | apply below_alloc | apply pw_below_drewN | apply below_drew1) | exact HB.out))); rintro e w36 ⟨rfl, hb⟩; refine ⟨_, rfl, ?_⟩; have n0_ := Aside0.mk (Kd.R_below (by (with_reducible repeat (first | apply Kd.R_alloc | apply Kd.R_drewN | apply Kd.R_drew)); exact HO309.out) hb); have n1_ := Aside0.mk (below_step (by repeat (first | (with_reducible first | exact HB.out | apply below_alloc | apply pw_below_drewN | apply below_drew1) | exact HB.out)) hb); clear HO309; clear HB; have HO309 := n0_; have HB := n1_; clear n0_ n1_; (try clear hb); (try clear hb2); (try clear hk); (try clear hi)) | ((with_reducible refine gate_callee (f := 15) rfl ?_); refine goesL_ (some 71) rfl rfl Tryd.func15 (by kernel_rfl) rfl #[.string t310] rfl (by (try simp only [List.map_toArray, List.map_cons, List.map_nil]); first | done | rfl | (simp only [List.length_drop, List.length_take]; rfl)) ?_; (with_reducible refine (lex_Lex.calls t310 t312 t313 t314 _ ?side1 A30.out).mono ?_); (case side1 => exact Laid.below hL (by repeat (first | (with_reducible first | exact HB.out | apply below_alloc | apply pw_below_drewN | apply below_drew1) | exact HB.out))); rintro e w37 ⟨v315, rfl, ho0, hb⟩; refine ⟨_, rfl, ?_⟩; have n0_ := Aside0.mk (Kd.R_elder' (by (with_reducible repeat (first | apply Kd.R_alloc | apply Kd.R_drewN | apply Kd.R_drew)); exact HO309.out) (Kd.R_base ho0) hb); have n1_ := Aside0.mk (Kd.R_lower (Kd.R_new' ho0 (Kd.R_lt (by (with_reducible repeat (first | apply Kd.R_alloc | apply Kd.R_drewN | apply Kd.R_drew)); exact HO309.out))) (below_size (by repeat (first | (with_reducible first | exact HB.out | apply below_alloc | apply pw_below_drewN | apply below_drew1) | exact HB.out)))); have n2_ := Aside0.mk (below_step (by repeat (first | (with_reducible first | exact HB.out | apply below_alloc | apply pw_below_drewN | apply below_drew1) | exact HB.out)) hb); clear HO309; clear HB; have HO309 := n0_; have HO316 := n1_; have HB := n2_; clear n0_ n1_ n2_; (try clear hb); (try clear hb2); (try clear hk); (try clear hi); (try clear ho0); obtain ⟨Ao38, co38, eo38⟩ := Kd.R_slice HO316.out; subst eo38) | (go_at_call 21; (with_reducible refine (lex_Same.calls _ _ t305 _ _ t312 t317 _ ?side1 ?side2 ?side3 ?side4 A33.out).mono ?_); (case side1 => repeat (first | exact (Kd.R_reads' HO309.out).2.2 | (with_reducible refine Kd.C_alloc ?_ _) | (with_reducible refine Kd.C_drewN ?_ _) | (with_reducible refine Kd.C_drew ?_))); (case side2 => exact (Kd.R_reads' HO309.out).2.1); (case side3 => repeat (first | exact (Kd.R_reads' HO316.out).2.2 | (with_reducible refine Kd.C_alloc ?_ _) | (with_reducible refine Kd.C_drewN ?_ _) | (with_reducible refine Kd.C_drew ?_))); (case side4 => exact (Kd.R_reads' HO316.out).2.1); rintro e w39 ⟨rfl, hb⟩; have n0_ := Aside0.mk (Kd.R_below (by (with_reducible repeat (first | apply Kd.R_alloc | apply Kd.R_drewN | apply Kd.R_drew)); exact HO309.out) hb); have n1_ := Aside0.mk (Kd.R_below (by (with_reducible repeat (first | apply Kd.R_alloc | apply Kd.R_drewN | apply Kd.R_drew)); exact HO316.out) hb); have n2_ := Aside0.mk (below_step (by repeat (first | (with_reducible first | exact HB.out | apply below_alloc | apply pw_below_drewN | apply below_drew1) | exact HB.out)) hb); clear HO309; clear HO316; clear HB; have HO309 := n0_; have HO316 := n1_; have HB := n2_; clear n0_ n1_ n2_; (try clear hb); (try clear hb2); (try clear hk); (try clear hi)))
                    go_ret
                    exact ⟨by first | rfl | (simp [errW_none, errW_some] <;> rfl) | (simp [*, errW_none, errW_some] <;> rfl), by repeat (first | (with_reducible first | exact HB.out | apply below_alloc | apply pw_below_drewN | apply below_drew1) | exact HB.out)⟩
                  · rw [if_neg c32] at H
                    have c32b0 : (t314 == 0) = false := beq_eq_false_iff_ne.mpr c32
                    have c32b1 : (t314 != 0) = true := bne_iff_ne.mpr c32
                    obtain rfl := Option.some.inj H
                    go_wp2_with (first | ((with_reducible refine gate_callee (f := 15) rfl ?_); refine goesL_ (some 55) rfl rfl Tryd.func15 (by kernel_rfl) rfl #[.string a1] rfl (by (try simp only [List.map_toArray, List.map_cons, List.map_nil]); first | done | rfl | (simp only [List.length_drop, List.length_take]; rfl)) ?_; (with_reducible refine (lex_Lex.calls a1 t305 t306 t307 _ ?side1 A27.out).mono ?_); (case side1 => exact Laid.below hL (by repeat (first | (with_reducible first | exact HB.out | apply below_alloc | apply pw_below_drewN | apply below_drew1) | exact HB.out))); rintro e w40 ⟨v308, rfl, ho0, hb⟩; refine ⟨_, rfl, ?_⟩; have n0_ := Aside0.mk (Kd.R_lower ho0 (below_size (by repeat (first | (with_reducible first | exact HB.out | apply below_alloc | apply pw_below_drewN | apply below_drew1) | exact HB.out)))); have n1_ := Aside0.mk (below_step (by repeat (first | (with_reducible first | exact HB.out | apply below_alloc | apply pw_below_drewN | apply below_drew1) | exact HB.out)) hb); clear HB; have HO309 := n0_; have HB := n1_; clear n0_ n1_; (try clear hb); (try clear hb2); (try clear hk); (try clear hi); (try clear ho0); obtain ⟨Ao41, co41, eo41⟩ := Kd.R_slice HO309.out; subst eo41) | ((with_reducible refine gate_callee (f := 19) rfl ?_); refine goesL_ (some 66) rfl rfl Tryd.func19 (by kernel_rfl) rfl #[.slice Ao41 t305.length co41] rfl (by (try simp only [List.map_toArray, List.map_cons, List.map_nil]); first | done | rfl | (simp only [List.length_drop, List.length_take]; rfl)) ?_; (with_reducible refine (lex_Text.calls _ _ t305 t310 t311 _ ?side1 ?side2 ?side3 A29.out).mono ?_); (case side1 => repeat (first | exact (Kd.R_reads' HO309.out).2.2 | (with_reducible refine Kd.C_alloc ?_ _) | (with_reducible refine Kd.C_drewN ?_ _) | (with_reducible refine Kd.C_drew ?_))); (case side2 => exact (Kd.R_reads' HO309.out).2.1); (case side3 => exact Laid.below hL (by repeat (first | (with_reducible first | exact HB.out | apply below_alloc | apply pw_below_drewN | apply below_drew1) | exact HB.out))); rintro e w42 ⟨rfl, hb⟩; refine ⟨_, rfl, ?_⟩; have n0_ := Aside0.mk (Kd.R_below (by (with_reducible repeat (first | apply Kd.R_alloc | apply Kd.R_drewN | apply Kd.R_drew)); exact HO309.out) hb); have n1_ := Aside0.mk (below_step (by repeat (first | (with_reducible first | exact HB.out | apply below_alloc | apply pw_below_drewN | apply below_drew1) | exact HB.out)) hb); clear HO309; clear HB; have HO309 := n0_; have HB := n1_; clear n0_ n1_; (try clear hb); (try clear hb2); (try clear hk); (try clear hi)) | ((with_reducible refine gate_callee (f := 15) rfl ?_); refine goesL_ (some 71) rfl rfl Tryd.func15 (by kernel_rfl) rfl #[.string t310] rfl (by (try simp only [List.map_toArray, List.map_cons, List.map_nil]); first | done | rfl | (simp only [List.length_drop, List.length_take]; rfl)) ?_; (with_reducible refine (lex_Lex.calls t310 t312 t313 t314 _ ?side1 A30.out).mono ?_); (case side1 => exact Laid.below hL (by repeat (first | (with_reducible first | exact HB.out | apply below_alloc | apply pw_below_drewN | apply below_drew1) | exact HB.out))); rintro e w43 ⟨v315, rfl, ho0, hb⟩; refine ⟨_, rfl, ?_⟩; have n0_ := Aside0.mk (Kd.R_elder' (by (with_reducible repeat (first | apply Kd.R_alloc | apply Kd.R_drewN | apply Kd.R_drew)); exact HO309.out) (Kd.R_base ho0) hb); have n1_ := Aside0.mk (Kd.R_lower (Kd.R_new' ho0 (Kd.R_lt (by (with_reducible repeat (first | apply Kd.R_alloc | apply Kd.R_drewN | apply Kd.R_drew)); exact HO309.out))) (below_size (by repeat (first | (with_reducible first | exact HB.out | apply below_alloc | apply pw_below_drewN | apply below_drew1) | exact HB.out)))); have n2_ := Aside0.mk (below_step (by repeat (first | (with_reducible first | exact HB.out | apply below_alloc | apply pw_below_drewN | apply below_drew1) | exact HB.out)) hb); clear HO309; clear HB; have HO309 := n0_; have HO316 := n1_; have HB := n2_; clear n0_ n1_ n2_; (try clear hb); (try clear hb2); (try clear hk); (try clear hi); (try clear ho0)))
                    go_ret
                    exact ⟨by first | rfl | (simp [errW_none, errW_some] <;> rfl) | (simp [*, errW_none, errW_some] <;> rfl), by repeat (first | (with_reducible first | exact HB.out | apply below_alloc | apply pw_below_drewN | apply below_drew1) | exact HB.out)⟩
                · rw [if_neg c31] at H
                  have c31b0 : (t311 == 0) = false := beq_eq_false_iff_ne.mpr c31
                  have c31b1 : (t311 != 0) = true := bne_iff_ne.mpr c31
                  obtain rfl := Option.some.inj H
                  go_wp2_with (first | ((with_reducible refine gate_callee (f := 15) rfl ?_); refine goesL_ (some 55) rfl rfl Tryd.func15 (by kernel_rfl) rfl #[.string a1] rfl (by (try simp only [List.map_toArray, List.map_cons, List.map_nil]); first | done | rfl | (simp only [List.length_drop, List.length_take]; rfl)) ?_; (with_reducible refine (lex_Lex.calls a1 t305 t306 t307 _ ?side1 A27.out).mono ?_); (case side1 => exact Laid.below hL (by repeat (first | (with_reducible first | exact HB.out | apply below_alloc | apply pw_below_drewN | apply below_drew1) | exact HB.out))); rintro e w44 ⟨v308, rfl, ho0, hb⟩; refine ⟨_, rfl, ?_⟩; have n0_ := Aside0.mk (Kd.R_lower ho0 (below_size (by repeat (first | (with_reducible first | exact HB.out | apply below_alloc | apply pw_below_drewN | apply below_drew1) | exact HB.out)))); have n1_ := Aside0.mk (below_step (by repeat (first | (with_reducible first | exact HB.out | apply below_alloc | apply pw_below_drewN | apply below_drew1) | exact HB.out)) hb); clear HB; have HO309 := n0_; have HB := n1_; clear n0_ n1_; (try clear hb); (try clear hb2); (try clear hk); (try clear hi); (try clear ho0); obtain ⟨Ao45, co45, eo45⟩ := Kd.R_slice HO309.out; subst eo45) | ((with_reducible refine gate_callee (f := 19) rfl ?_); refine goesL_ (some 66) rfl rfl Tryd.func19 (by kernel_rfl) rfl #[.slice Ao45 t305.length co45] rfl (by (try simp only [List.map_toArray, List.map_cons, List.map_nil]); first | done | rfl | (simp only [List.length_drop, List.length_take]; rfl)) ?_; (with_reducible refine (lex_Text.calls _ _ t305 t310 t311 _ ?side1 ?side2 ?side3 A29.out).mono ?_); (case side1 => repeat (first | exact (Kd.R_reads' HO309.out).2.2 | (with_reducible refine Kd.C_alloc ?_ _) | (with_reducible refine Kd.C_drewN ?_ _) | (with_reducible refine Kd.C_drew ?_))); (case side2 => exact (Kd.R_reads' HO309.out).2.1); (case side3 => exact Laid.below hL (by repeat (first | (with_reducible first | exact HB.out | apply below_alloc | apply pw_below_drewN | apply below_drew1) | exact HB.out))); rintro e w46 ⟨rfl, hb⟩; refine ⟨_, rfl, ?_⟩; have n0_ := Aside0.mk (Kd.R_below (by (with_reducible repeat (first | apply Kd.R_alloc | apply Kd.R_drewN | apply Kd.R_drew)); exact HO309.out) hb); have n1_ := Aside0.mk (below_step (by repeat (first | (with_reducible first | exact HB.out | apply below_alloc | apply pw_below_drewN | apply below_drew1) | exact HB.out)) hb); clear HO309; clear HB; have HO309 := n0_; have HB := n1_; clear n0_ n1_; (try clear hb); (try clear hb2); (try clear hk); (try clear hi)) | ((with_reducible refine gate_callee (f := 15) rfl ?_); refine goesL_ (some 71) rfl rfl Tryd.func15 (by kernel_rfl) rfl #[.string t310] rfl (by (try simp only [List.map_toArray, List.map_cons, List.map_nil]); first | done | rfl | (simp only [List.length_drop, List.length_take]; rfl)) ?_; (with_reducible refine (lex_Lex.calls t310 t312 t313 t314 _ ?side1 A30.out).mono ?_); (case side1 => exact Laid.below hL (by repeat (first | (with_reducible first | exact HB.out | apply below_alloc | apply pw_below_drewN | apply below_drew1) | exact HB.out))); rintro e w47 ⟨v315, rfl, ho0, hb⟩; refine ⟨_, rfl, ?_⟩; have n0_ := Aside0.mk (Kd.R_elder' (by (with_reducible repeat (first | apply Kd.R_alloc | apply Kd.R_drewN | apply Kd.R_drew)); exact HO309.out) (Kd.R_base ho0) hb); have n1_ := Aside0.mk (Kd.R_lower (Kd.R_new' ho0 (Kd.R_lt (by (with_reducible repeat (first | apply Kd.R_alloc | apply Kd.R_drewN | apply Kd.R_drew)); exact HO309.out))) (below_size (by repeat (first | (with_reducible first | exact HB.out | apply below_alloc | apply pw_below_drewN | apply below_drew1) | exact HB.out)))); have n2_ := Aside0.mk (below_step (by repeat (first | (with_reducible first | exact HB.out | apply below_alloc | apply pw_below_drewN | apply below_drew1) | exact HB.out)) hb); clear HO309; clear HB; have HO309 := n0_; have HO316 := n1_; have HB := n2_; clear n0_ n1_ n2_; (try clear hb); (try clear hb2); (try clear hk); (try clear hi); (try clear ho0)))
                  go_ret
                  exact ⟨by first | rfl | (simp [errW_none, errW_some] <;> rfl) | (simp [*, errW_none, errW_some] <;> rfl), by repeat (first | (with_reducible first | exact HB.out | apply below_alloc | apply pw_below_drewN | apply below_drew1) | exact HB.out)⟩
              · rw [if_neg c28] at H
                have c28b0 : (t307 == 0) = false := beq_eq_false_iff_ne.mpr c28
                have c28b1 : (t307 != 0) = true := bne_iff_ne.mpr c28
                obtain rfl := Option.some.inj H
                go_wp2_with (first | ((with_reducible refine gate_callee (f := 15) rfl ?_); refine goesL_ (some 55) rfl rfl Tryd.func15 (by kernel_rfl) rfl #[.string a1] rfl (by (try simp only [List.map_toArray, List.map_cons, List.map_nil]); first | done | rfl | (simp only [List.length_drop, List.length_take]; rfl)) ?_; (with_reducible refine (lex_Lex.calls a1 t305 t306 t307 _ ?side1 A27.out).mono ?_); (case side1 => exact Laid.below hL (by repeat (first | (with_reducible first | exact HB.out | apply below_alloc | apply pw_below_drewN | apply below_drew1) | exact HB.out))); rintro e w48 ⟨v308, rfl, ho0, hb⟩; refine ⟨_, rfl, ?_⟩; have n0_ := Aside0.mk (Kd.R_lower ho0 (below_size (by repeat (first | (with_reducible first | exact HB.out | apply below_alloc | apply pw_below_drewN | apply below_drew1) | exact HB.out)))); have n1_ := Aside0.mk (below_step (by repeat (first | (with_reducible first | exact HB.out | apply below_alloc | apply pw_below_drewN | apply below_drew1) | exact HB.out)) hb); clear HB; have HO309 := n0_; have HB := n1_; clear n0_ n1_; (try clear hb); (try clear hb2); (try clear hk); (try clear hi); (try clear ho0); obtain ⟨Ao49, co49, eo49⟩ := Kd.R_slice HO309.out; subst eo49))
                go_ret
                exact ⟨by first | rfl | (simp [errW_none, errW_some] <;> rfl) | (simp [*, errW_none, errW_some] <;> rfl), by repeat (first | (with_reducible first | exact HB.out | apply below_alloc | apply pw_below_drewN | apply below_drew1) | exact HB.out)⟩
  · replace c4 := Bool.eq_false_iff.mpr c4
    subst c4
    have H1 : (some false) = some r := by rw [if_neg (show ¬ (false = true) by decide)] at H; exact H
    clear H
    have H := H1
    clear H1
    obtain rfl := Option.some.inj H
    go_enter Tryd.func5, Tryd.ntmps5
    go_wp2_with (first | ((with_reducible refine gate_callee (f := 14) rfl ?_); refine goesL_ (some 18) rfl rfl Tryd.func14 (by kernel_rfl) rfl #[] rfl (by (try simp only [List.map_toArray, List.map_cons, List.map_nil]); first | done | rfl | (simp only [List.length_drop, List.length_take]; rfl)) ?_; (with_reducible refine (sizarlaw09_sane.calls k  false _ ?side1 A3.out).mono ?_); (case side1 => exact Laid.below hL (by repeat (first | (with_reducible first | exact HB.out | apply below_alloc | apply pw_below_drewN | apply below_drew1) | exact HB.out))); rintro e w50 ⟨rfl, hb⟩; refine ⟨_, rfl, ?_⟩; have n0_ := Aside0.mk (below_step (by repeat (first | (with_reducible first | exact HB.out | apply below_alloc | apply pw_below_drewN | apply below_drew1) | exact HB.out)) hb); clear HB; have HB := n0_; clear n0_; (try clear hb); (try clear hb2); (try clear hk); (try clear hi)))
    go_ret
    exact ⟨by first | rfl | (simp [errW_none, errW_some] <;> rfl) | (simp [*, errW_none, errW_some] <;> rfl), by repeat (first | (with_reducible first | exact HB.out | apply below_alloc | apply pw_below_drewN | apply below_drew1) | exact HB.out)⟩

end Go.Proofs.YtomglbjcfcijkaaDoor.PLx

namespace Go.Proofs.YtomglbjcfcijkaaDoor.PLx
open Go.RowKit Go.Proofs.YtomglbjcfcijkaaDoorW.PrintWords Go.Proofs.YtomglbjcfcijkaaDoorW.PrintLast Go.Proofs.YtomglbjcfcijkaaDoorW.PrintMore

theorem letter_ref (c : UInt8) : sizarref09_Letter.f (c.toNat : Int) = some (decide (kl c = 2)) := by
  have : ∀ n : Nat, n < 256 → sizarref09_Letter.f (n : Int) = some (decide (cls (n : Int) = 2)) := by decide +kernel
  exact this c.toNat c.toNat_lt
theorem figure_ref (c : UInt8) : sizarref09_Figure.f (c.toNat : Int) = some (decide (kl c = 3)) := by
  have : ∀ n : Nat, n < 256 → sizarref09_Figure.f (n : Int) = some (decide (cls (n : Int) = 3)) := by decide +kernel
  exact this c.toNat c.toNat_lt
theorem part_ref (c : UInt8) : sizarref09_part.f (c.toNat : Int) = some (isPart c) := by
  have : ∀ n : Nat, n < 256 → sizarref09_part.f (n : Int) = some (cls (n : Int) == 2 || cls (n : Int) == 3 || cls (n : Int) == 5) := by decide +kernel
  exact this c.toNat c.toNat_lt
theorem sign_ref (c : UInt8) : sizarref09_Sign.f (c.toNat : Int) = some (decide (kl c = 4)) := by
  have : ∀ n : Nat, n < 256 → sizarref09_Sign.f (n : Int) = some (decide (cls (n : Int) = 4)) := by decide +kernel
  exact this c.toNat c.toNat_lt
theorem rname_loop (s : ByteArray) (hs : s.size ≤ 32) : ∀ (d i K : Nat), i + d = s.size → d < K → sizarref09_Name.l0 K s (i : Int) = some ((s.data.toList.drop i).all isPart)
  | 0, i, K, hi, hK => by
    obtain ⟨K, rfl⟩ : ∃ m, K = m + 1 := ⟨K - 1, by omega⟩
    simp only [sizarref09_Name.l0]
    rw [if_neg (by omega), List.drop_of_length_le (by rw [size_data]; omega)]; rfl
  | d + 1, i, K, hi, hK => by
    obtain ⟨K, rfl⟩ : ∃ m, K = m + 1 := ⟨K - 1, by omega⟩
    have hlt : i < s.size := by omega
    have hw : wrap64 ((i : Int) + 1) = ((i + 1 : Nat) : Int) := by unfold wrap64; omega
    simp only [sizarref09_Name.l0, bt_nat s i hlt, part_ref, Option.bind_some, hw]
    rw [if_pos (by omega), if_pos (by omega), data_drop s i hlt, List.all_cons]
    cases hp : isPart s[i]
    · simp
    · rw [if_pos rfl, rname_loop s hs d (i + 1) K (by omega) (by omega), Bool.true_and]
theorem rname_f (s : ByteArray) (K : Nat) (hK : 40 ≤ K) : sizarref09_Name.f K s = some (isName s.data.toList) := by
  obtain ⟨K, rfl⟩ : ∃ m, K = m + 1 := ⟨K - 1, by omega⟩
  have hsz := size_data s
  unfold sizarref09_Name.f
  simp only [sizarref09_Name.j0, if_true]
  by_cases h1 : (s.size : Int) < 1
  · rw [if_pos h1]
    have : s.data.toList = [] := List.length_eq_zero_iff.1 (by omega)
    rw [this]; rfl
  rw [if_neg h1]
  have hpos : 0 < s.size := by omega
  have hd := data_drop s 0 hpos
  rw [List.drop_zero] at hd
  have hl : (s.data.toList.drop (0 + 1)).length = s.size - 1 := by rw [List.length_drop, hsz]
  by_cases h32 : (s.size : Int) > 32
  · rw [if_pos h32, hd]
    unfold isName
    simp only [hl]
    rw [decide_eq_false (by omega)]; rfl
  rw [if_neg h32, if_pos (by omega)]
  have hb : bt s 0 = (s[0].toNat : Int) := bt_nat s 0 hpos
  rw [hb, letter_ref, Option.bind_some]
  have hloop : sizarref09_Name.l0 K s 0 = some (s.data.toList.all isPart) := by
    have := rname_loop s (by omega) s.size 0 K (by omega) (by omega)
    rw [List.drop_zero] at this
    exact this
  have hdec : decide (s.size - 1 < 32) = true := decide_eq_true (by omega)
  have hall : s.data.toList.all isPart = (isPart s[0] && (s.data.toList.drop (0 + 1)).all isPart) := by rw [hd, List.all_cons]; simp
  have hname : isName s.data.toList = (decide (s.size - 1 < 32) && kl s[0] == 2 && (s.data.toList.drop (0 + 1)).all isPart) := by
    rw [← hl]
    conv => lhs; rw [hd]
    rfl
  rw [hloop, hname, hall, hdec]
  by_cases h2 : kl s[0] = 2
  · have : isPart s[0] = true := by unfold isPart; simp [h2]
    rw [this]; simp [h2]
  · simp [h2]
theorem rvalid_f (t : Tok) (K : Nat) (hK : 40 ≤ K) : sizarref09_Valid.f K t.f0 t.f1 t.f2 t.f3 = some (validT t) := by
  have hsz := size_data t.f1
  unfold sizarref09_Valid.f validT
  rw [toList_eq]
  by_cases h1 : t.f0 = 1
  · rw [if_pos h1, if_pos h1, rname_f _ K hK, Option.bind_some]
    cases isName t.f1.data.toList <;> simp
  rw [if_neg h1, if_neg h1]
  by_cases h2 : t.f0 = 2
  · rw [if_pos h2, if_pos h2]
    by_cases he : t.f1.data.toList = []
    · rw [if_pos he, he]
      by_cases h3 : t.f2 ≥ 0
      · rw [if_pos h3]; simp [h3]
      · rw [if_neg h3]; simp [h3]
    · rw [if_neg he]
      have : t.f1.data.toList.isEmpty = false := by simpa using he
      simp [this]
  rw [if_neg h2, if_neg h2]
  by_cases h3 : t.f0 = 3
  · rw [if_pos h3, if_pos h3]
    by_cases h4 : t.f1.size = 1
    · have hpos : 0 < t.f1.size := by omega
      have hd := data_drop t.f1 0 hpos
      rw [List.drop_zero, List.drop_of_length_le (by omega)] at hd
      have hb : bt t.f1 0 = (t.f1[0].toNat : Int) := bt_nat t.f1 0 hpos
      rw [if_pos (by omega), if_pos (by omega), hb, sign_ref, Option.bind_some, hd]
      by_cases h5 : kl t.f1[0] = 4
      · simp [h5]
      · simp [h5]
    · rw [if_neg (by omega)]
      match hl : t.f1.data.toList, hsz with
      | [], _ => simp
      | [c], hsz => exact absurd hsz.symm h4
      | c :: d :: r, _ => simp
  · rw [if_neg h3, if_neg h3]
/-- The digits ahead of the last one. -/
def highD (n : Nat) : List UInt8 := if n < 10 then [] else Lib.decDigits (n / 10)
theorem dec_high (n : Nat) : Lib.decDigits n = highD n ++ [UInt8.ofNat (48 + n % 10)] := by
  rw [Lib.decDigits]
  unfold highD
  split
  · rw [show n % 10 = n by omega]; rfl
  · rfl
theorem decimal_loop : ∀ (m n K : Nat) (acc : ByteArray), n < 10 ^ (m + 1) → m < K → n ≤ 1099511627776 → acc.size + m ≤ 1000000 →
    sizarref09_Decimal.l0 K (n : Int) acc = some (bs (highD n ++ acc.data.toList))
  | m, n, K, acc, hn, hK, hb, ha => by
    obtain ⟨K, rfl⟩ : ∃ k, K = k + 1 := ⟨K - 1, by omega⟩
    have hw : wrap64 (Int.tdiv (n : Int) 10) = ((n / 10 : Nat) : Int) := by
      rw [Int.tdiv_eq_ediv_of_nonneg (by omega)]; unfold wrap64; omega
    have hd : (wrap64 (48 + Int.tmod ((n / 10 : Nat) : Int) 10)) % 256 = ((48 + n / 10 % 10 : Nat) : Int) := by
      rw [Int.tmod_eq_emod_of_nonneg (by omega)]; unfold wrap64; omega
    have hstr : strOfNums [((48 + n / 10 % 10 : Nat) : Int)] = bs [UInt8.ofNat (48 + n / 10 % 10)] := rfl
    have hone : ∀ x : UInt8, (bs [x]).size = 1 := fun x => rfl
    have hcat : ∀ x : UInt8, bs [x] ++ acc = bs (x :: acc.data.toList) := by
      intro x
      apply ByteArray.ext
      simp [ByteArray.data_append, bs]
    simp only [sizarref09_Decimal.l0, hw, hd, hstr, Option.bind_some, hone, hcat]
    by_cases h10 : n < 10
    · rw [if_neg (by omega)]
      unfold highD
      rw [if_pos h10]; rfl
    · rw [if_pos (by omega), if_pos (by omega)]
      cases m with
      | zero => exact absurd hn (by simpa using h10)
      | succ m =>
        have hsz : (bs (UInt8.ofNat (48 + n / 10 % 10) :: acc.data.toList)).size = acc.size + 1 := by
          rw [← size_data, ← size_data]; rfl
        rw [decimal_loop m (n / 10) K _ (by rw [Nat.pow_succ] at hn; omega) (by omega) (by omega) (by omega)]
        have : highD n = highD (n / 10) ++ [UInt8.ofNat (48 + n / 10 % 10)] := by
          rw [← dec_high]
          show (if n < 10 then [] else Lib.decDigits (n / 10)) = _
          rw [if_neg h10]
        rw [this, List.append_assoc]; rfl
theorem decimal_f (n : Nat) (K : Nat) (hn : n ≤ 1099511627776) (hK : 20 ≤ K) : sizarref09_Decimal.f K (n : Int) = some (bs (Lib.decDigits n)) := by
  unfold sizarref09_Decimal.f
  have hd : (wrap64 (48 + Int.tmod (n : Int) 10)) % 256 = ((48 + n % 10 : Nat) : Int) := by
    rw [Int.tmod_eq_emod_of_nonneg (by omega)]; unfold wrap64; omega
  have hstr : strOfNums [((48 + n % 10 : Nat) : Int)] = bs [UInt8.ofNat (48 + n % 10)] := rfl
  rw [hd, hstr, decimal_loop 15 n K _ (by omega) (by omega) hn (by show 1 + 15 ≤ 1000000; omega), dec_high]; rfl
/-- The same tokens, but for places. -/
theorem rsame_loop (a b : List Tok) (hab : a.length = b.length) (ha : a.length ≤ 9223372036854775806) : ∀ (d i K : Nat), i + d = a.length → d < K → sizarref09_Same.l0 K a b (i : Int) = some (sameToks (a.drop i) (b.drop i))
  | 0, i, K, hi, hK => by
    obtain ⟨K, rfl⟩ : ∃ m, K = m + 1 := ⟨K - 1, by omega⟩
    simp only [sizarref09_Same.l0]
    rw [if_neg (by omega), List.drop_of_length_le (by omega), List.drop_of_length_le (by omega)]; rfl
  | d + 1, i, K, hi, hK => by
    obtain ⟨K, rfl⟩ : ∃ m, K = m + 1 := ⟨K - 1, by omega⟩
    have hw : wrap64 ((i : Int) + 1) = ((i + 1 : Nat) : Int) := by unfold wrap64; omega
    have ha1 := at_some a i (by omega)
    have hb1 := at_some b i (by omega)
    rw [sameToks_drop a b i _ _ ha1 hb1]
    have ih := rsame_loop a b hab ha d (i + 1) K (by omega) (by omega)
    have c1 : (i : Int) < (a.length : Int) := by omega
    have c2 : (0 : Int) ≤ (i : Int) := by omega
    have c3 : (i : Int) < (b.length : Int) := by omega
    simp only [sizarref09_Same.l0, if_pos c1, if_pos c2, if_pos c3, hw, ih, toList_eq]
    generalize rd_T35 a (i : Int) = x
    generalize rd_T35 b (i : Int) = y
    unfold sameTok
    by_cases h0 : x.f0 = y.f0
    · rw [if_pos h0]
      by_cases h1 : x.f1.data.toList = y.f1.data.toList
      · rw [if_pos h1]
        by_cases h2 : x.f2 = y.f2
        · rw [if_pos h2, h0, h1, h2]; simp
        · rw [if_neg h2]; simp [h2]
      · rw [if_neg h1]
        have : (x.f1.data.toList == y.f1.data.toList) = false := beq_eq_false_iff_ne.2 h1
        rw [this]; simp
    · rw [if_neg h0]; simp [h0]
theorem rsame_f (a b : List Tok) (ha : a.length ≤ 9223372036854775806) (K : Nat) (hK : a.length + 1 ≤ K) : sizarref09_Same.f K a b = some (sameToks a b) := by
  unfold sizarref09_Same.f
  by_cases h : a.length = b.length
  · rw [if_pos (by omega)]
    exact rsame_loop a b h ha a.length 0 K (by omega) (by omega)
  · rw [if_neg (by omega), sameToks_len a b h]
/-- Few tokens, and short ones. -/
theorem few_loop (l : List Tok) (hl : l.length ≤ 200) (hb : ∀ t ∈ l, t.f1.size ≤ 140737488351232) : ∀ (d i K x : Nat), i + d = l.length → d < K → x ≤ i * 140737488351232 →
    sizarref09_Few.l0 K l (x : Int) (i : Int) = some (decide (x + ((l.drop i).map fun t => t.f1.size).sum ≤ 2000))
  | 0, i, K, x, hi, hK, hx => by
    obtain ⟨K, rfl⟩ : ∃ m, K = m + 1 := ⟨K - 1, by omega⟩
    simp only [sizarref09_Few.l0]
    rw [if_neg (by omega), if_pos (by omega), List.drop_of_length_le (by omega)]
    simp only [List.map_nil, List.sum_nil, Nat.add_zero]
    congr 1
    simp only [decide_eq_decide]; omega
  | d + 1, i, K, x, hi, hK, hx => by
    obtain ⟨K, rfl⟩ : ∃ m, K = m + 1 := ⟨K - 1, by omega⟩
    have hlt : i < l.length := by omega
    have ha := at_some l i hlt
    have hm : (rd_T35 l (i : Int)).f1.size ≤ 140737488351232 := hb _ (List.mem_of_getElem? ha)
    have hd := List.drop_eq_getElem_cons hlt
    rw [List.getElem?_eq_getElem hlt] at ha
    injection ha with ha
    have hw : wrap64 ((i : Int) + 1) = ((i + 1 : Nat) : Int) := by unfold wrap64; omega
    have hx2 : wrap64 ((x : Int) + ((rd_T35 l (i : Int)).f1.size : Int)) = ((x + (rd_T35 l (i : Int)).f1.size : Nat) : Int) := by unfold wrap64; omega
    simp only [sizarref09_Few.l0, hw, hx2]
    rw [if_pos (by omega), if_pos (by omega), few_loop l hl hb d (i + 1) K _ (by omega) (by omega) (by omega), hd, ha]
    simp only [List.map_cons, List.sum_cons, Nat.add_assoc]
theorem few_any (l : List Tok) (hl : l.length ≤ 9223372036854775806) : ∀ (d i K : Nat) (x : Int), i + d = l.length → d < K → 200 < l.length → sizarref09_Few.l0 K l x (i : Int) = some false
  | 0, i, K, x, hi, hK, h2 => by
    obtain ⟨K, rfl⟩ : ∃ m, K = m + 1 := ⟨K - 1, by omega⟩
    simp only [sizarref09_Few.l0]
    rw [if_neg (by omega), if_neg (by omega)]
  | d + 1, i, K, x, hi, hK, h2 => by
    obtain ⟨K, rfl⟩ : ∃ m, K = m + 1 := ⟨K - 1, by omega⟩
    have hw : wrap64 ((i : Int) + 1) = ((i + 1 : Nat) : Int) := by unfold wrap64; omega
    simp only [sizarref09_Few.l0, hw]
    rw [if_pos (by omega), if_pos (by omega), few_any l hl d (i + 1) K _ (by omega) (by omega) h2]
def Few (l : List Tok) : Prop := l.length ≤ 200 ∧ (l.map fun t => t.f1.size).sum ≤ 2000
theorem few_f (l : List Tok) (hl : l.length ≤ 9223372036854775806) (hb : ∀ t ∈ l, t.f1.size ≤ 140737488351232) (K : Nat) (hK : l.length + 1 ≤ K) : ∃ b, sizarref09_Few.f K l = some b ∧ (b = true → Few l) := by
  unfold sizarref09_Few.f
  by_cases h : l.length ≤ 200
  · refine ⟨_, few_loop l h hb l.length 0 K 0 (by omega) (by omega) (by omega), fun hd => ⟨h, ?_⟩⟩
    simpa using hd
  · exact ⟨false, few_any l hl l.length 0 K 0 (by omega) (by omega) (by omega), fun h => by cases h⟩
theorem sum_mem : ∀ (l : List Tok) (t : Tok), t ∈ l → t.f1.size ≤ (l.map fun t => t.f1.size).sum
  | a :: l, t, h => by
    rw [List.map_cons, List.sum_cons]
    rcases List.mem_cons.1 h with rfl | h
    · omega
    · have := sum_mem l t h; omega
theorem few_text {l : List Tok} (h : Few l) : (textOf l).length ≤ 7000 := by
  have h1 := text_len l
  have : ∀ l : List Tok, (l.map fun t => (wordOf t).length + 1).sum ≤ (l.map fun t => t.f1.size).sum + 21 * l.length := by
    intro l
    induction l with
    | nil => simp
    | cons t l ih =>
      have := word_len t
      simp only [List.map_cons, List.sum_cons, List.length_cons]; omega
  have h2 := this l
  have := h.1; have := h.2
  omega
/-- The reference's text. -/
def tailT (l : List Tok) : List UInt8 := (l.map fun t => 32 :: wordOf t).flatten
theorem joinW_tail (t : Tok) : ∀ l : List Tok, joinW ((t :: l).map wordOf) = wordOf t ++ tailT l := by
  intro l
  induction l generalizing t with
  | nil => simp [joinW, tailT]
  | cons u l ih =>
    rw [List.map_cons, List.map_cons, joinW, ← List.map_cons, ih u]
    simp [tailT]
theorem word_f (t : Tok) (hv : validT t = true) (K : Nat) (hK : 20 ≤ K) : t.f0 = 2 → sizarref09_Decimal.f K t.f2 = some (bs (wordOf t)) := by
  intro h2
  have hb : 0 ≤ t.f2 ∧ t.f2 ≤ 1099511627776 := by
    unfold validT at hv
    rw [if_neg (by omega), if_pos h2] at hv
    simp only [Bool.and_eq_true, decide_eq_true_eq] at hv
    exact ⟨hv.1.2, hv.2⟩
  obtain ⟨n, hn⟩ := Int.eq_ofNat_of_zero_le hb.1
  rw [hn, decimal_f n K (by omega) hK]
  unfold wordOf
  rw [if_pos h2, hn]
  exact congrArg (fun x => some (bs x)) (digs_dec 19 n (by omega)).symm
theorem word_else (t : Tok) (h2 : ¬ t.f0 = 2) : t.f1 = bs (wordOf t) := by
  unfold wordOf; rw [if_neg h2]; rfl
theorem rtext_loop (l : List Tok) (hF : Few l) : ∀ (d i K : Nat) (s : ByteArray), i + d = l.length → 0 < i → 50 + d ≤ K → s.size ≤ i * 3000 →
    sizarref09_Text.l0 K l s (i : Int) = some (if (l.drop i).all validT = true then (bs (s.data.toList ++ tailT (l.drop i)), 0) else (bs [], 90))
  | 0, i, K, s, hi, h0, hK, hs => by
    obtain ⟨K, rfl⟩ : ∃ m, K = m + 1 := ⟨K - 1, by omega⟩
    simp only [sizarref09_Text.l0]
    rw [if_neg (by omega), List.drop_of_length_le (by omega), List.all_nil, if_pos rfl]
    simp only [tailT, List.map_nil, List.flatten_nil, List.append_nil]; rfl
  | d + 1, i, K, s, hi, h0, hK, hs => by
    obtain ⟨K, rfl⟩ : ∃ m, K = m + 1 := ⟨K - 1, by omega⟩
    have hlt : i < l.length := by omega
    have h200 := hF.1
    have ha := at_some l i hlt
    have hm := sum_mem l _ (List.mem_of_getElem? ha)
    have h2000 := hF.2
    have hd := List.drop_eq_getElem_cons hlt
    rw [List.getElem?_eq_getElem hlt] at ha
    injection ha with ha
    rw [ha] at hd
    rw [hd]
    have hw : wrap64 ((i : Int) + 1) = ((i + 1 : Nat) : Int) := by unfold wrap64; omega
    have c1 : (i : Int) < (l.length : Int) := by omega
    have c2 : (0 : Int) ≤ (i : Int) := by omega
    have c3 : (i : Int) > 0 := by omega
    have ih := fun s' h' => rtext_loop l hF d (i + 1) K s' (by omega) (by omega) (by omega) h'
    simp only [sizarref09_Text.l0, if_pos c1, if_pos c2, if_pos c3, hw]
    generalize rd_T35 l (i : Int) = t at hm ⊢
    have hval := rvalid_f t K (by omega)
    have hone : (s ++ (⟨#[32]⟩ : ByteArray)).size = s.size + 1 := by rw [ByteArray.size_append]; rfl
    have hwl := word_len t
    have hcat : ∀ w : List UInt8, ((s ++ (⟨#[32]⟩ : ByteArray)) ++ bs w).data.toList = s.data.toList ++ 32 :: w := by
      intro w
      simp [ByteArray.data_append, bs]
    have hsz : ∀ w : List UInt8, ((s ++ (⟨#[32]⟩ : ByteArray)) ++ bs w).size = s.size + 1 + w.length := by
      intro w
      rw [ByteArray.size_append, hone, ← size_data (bs w)]; rfl
    have c4 : s.size + 1 ≤ 9223372036854775807 := by omega
    have c5 : (s ++ (⟨#[32]⟩ : ByteArray)).size + (bs (wordOf t)).size ≤ 9223372036854775807 := by
      rw [hone, ← size_data]; show s.size + 1 + (wordOf t).length ≤ _; omega
    simp only [hval, Option.bind_some, if_pos c4]
    by_cases hv : validT t = true
    case neg => rw [if_neg hv, if_neg (by rw [List.all_cons]; simp [hv])]; rfl
    case pos =>
      have hfin : sizarref09_Text.l0 K l ((s ++ (⟨#[32]⟩ : ByteArray)) ++ bs (wordOf t)) ((i + 1 : Nat) : Int) = some (if (t :: l.drop (i + 1)).all validT = true then (bs (s.data.toList ++ tailT (t :: l.drop (i + 1))), 0) else (bs [], 90)) := by
        rw [ih _ (by rw [hsz]; omega), hcat]
        simp [tailT, hv]
      rw [if_pos hv]
      by_cases h2 : t.f0 = 2
      · rw [if_pos h2, word_f t hv K (by omega) h2, Option.bind_some, if_pos c5, hfin]
      · rw [if_neg h2]
        conv => lhs; rw [word_else t h2]
        rw [if_pos c5, hfin]
theorem rtext_f (l : List Tok) (hF : Few l) (K : Nat) (hK : 300 ≤ K) : sizarref09_Text.f K l = lex_Text.f l := by
  have h200 := hF.1
  have hlen := few_text hF
  have hres : lex_Text.f l = some (if l.all validT = true then (bs (textOf l), 0) else (bs [], 90)) := by
    cases h : l.all validT
    · rw [Text_bad h (by omega)]; rfl
    · rw [Text_ok (by rw [List.all_eq_true] at h; exact h) (by omega) (by omega)]; rfl
  rw [hres]
  unfold sizarref09_Text.f
  obtain ⟨K, rfl⟩ : ∃ m, K = m + 1 := ⟨K - 1, by omega⟩
  cases l with
  | nil => rfl
  | cons t l =>
    have h0 : rd_T35 (t :: l) 0 = t := rfl
    have hm := sum_mem (t :: l) t List.mem_cons_self
    have h2000 := hF.2
    have hval := rvalid_f t K (by omega)
    have hwl := word_len t
    have c1 : (0 : Int) < ((t :: l).length : Int) := by rw [List.length_cons]; omega
    have c3 : ¬ (0 : Int) > 0 := by omega
    have hw : wrap64 ((0 : Int) + 1) = ((1 : Nat) : Int) := by unfold wrap64; omega
    have he : (⟨#[]⟩ : ByteArray).size = 0 := rfl
    have hbs : (bs (wordOf t)).size = (wordOf t).length := by rw [← size_data]; rfl
    have c5 : (⟨#[]⟩ : ByteArray).size + (bs (wordOf t)).size ≤ 9223372036854775807 := by rw [he, hbs]; omega
    have hnil : (⟨#[]⟩ : ByteArray) ++ bs (wordOf t) = bs (wordOf t) := by
      apply ByteArray.ext
      simp [ByteArray.data_append, bs]
    simp only [sizarref09_Text.l0, if_pos c1, if_pos (Int.le_refl (0 : Int)), if_neg c3, hw, h0, hval, Option.bind_some]
    by_cases hv : validT t = true
    case neg => rw [if_neg hv, if_neg (by rw [List.all_cons]; simp [hv])]; rfl
    case pos =>
      have hfin : sizarref09_Text.l0 K (t :: l) ((⟨#[]⟩ : ByteArray) ++ bs (wordOf t)) ((1 : Nat) : Int) = some (if (t :: l).all validT = true then (bs (textOf (t :: l)), 0) else (bs [], 90)) := by
        rw [hnil, rtext_loop (t :: l) hF l.length 1 K _ (by rw [List.length_cons]; omega) (by omega) (by rw [List.length_cons] at h200; omega) (by rw [hbs]; omega)]
        unfold textOf
        rw [joinW_tail]
        simp [bs, hv]
      rw [if_pos hv]
      by_cases h2 : t.f0 = 2
      · rw [if_pos h2, word_f t hv K (by omega) h2, Option.bind_some, if_pos c5, hfin]
      · rw [if_neg h2]
        conv => lhs; rw [word_else t h2]
        rw [if_pos c5, hfin]
end Go.Proofs.YtomglbjcfcijkaaDoor.PLx

namespace Go.Proofs.YtomglbjcfcijkaaDoor.PLx
open Go.RowKit Go.Proofs.YtomglbjcfcijkaaDoorW.PrintWords Go.Proofs.YtomglbjcfcijkaaDoorW.PrintLast Go.Proofs.YtomglbjcfcijkaaDoorW.PrintMore
theorem sane_40 : sizarlaw09_sane.f 40 = some true := by decide +kernel
theorem sane_all (k : Nat) (h : 40 ≤ k) : sizarlaw09_sane.f k = some true := more_rounds sizarlaw09_sane.mono sane_40 h
end Go.Proofs.YtomglbjcfcijkaaDoor.PLx

namespace Go.Proofs.YtomglbjcfcijkaaDoor.PLx
open Go.RowKit Go.ChangeShapes Go.Proofs.YtomglbjcfcijkaaDoorW.PrintWords Go.Proofs.YtomglbjcfcijkaaDoorW.PrintLast Go.Proofs.YtomglbjcfcijkaaDoorW.PrintMore

section
variable {H : Type} {enc : TypeId × Value → H} {W : World} {base : Nat} {sp : Nat → Bool} {held : Bool}
theorem cellsTok : Tryd.prog.cellsOf 35 = 4 := by kernel_rfl
theorem cellsInt : Tryd.prog.cellsOf 3 = 1 := by kernel_rfl
theorem cellsS : Tryd.prog.cellsOf 9 = 1 := by kernel_rfl
/-- How a token reads. -/
def tokD (t : Tok) : DataW H := .agg [.lit (.int .i64 t.f0), .lit (.string t.f1.data.toList), .lit (.int .i64 t.f2), .lit (.int .i64 t.f3)]
theorem four_of {α : Type} (xs : List α) (h : xs.length = 4) : ∃ a b c d, xs = [a, b, c, d] := by
  match xs, h with
  | [a, b, c, d], _ => exact ⟨a, b, c, d, rfl⟩
theorem tok_of_trod {fuel : Nat} {cs : List Value} {x : DataW H × List MemPlace} (h : DataW.trod enc Tryd.prog W base sp held fuel 35 cs = some x) :
    ∃ t : Tok, cs = [.int .i64 t.f0, .string t.f1, .int .i64 t.f2, .int .i64 t.f3] ∧ x.1 = tokD t := by
  obtain ⟨xs, n, rfl, rfl, hl, hn, hf⟩ := DataW.trod_struct Tryd.underlying35 h
  obtain ⟨c0, c1, c2, c3, rfl⟩ := four_of cs (hl.trans cellsTok)
  obtain ⟨x0, x1, x2, x3, rfl⟩ := four_of xs hn
  have h0 : DataW.trod enc Tryd.prog W base sp held n 3 [c0] = some x0 := by
    have := hf 0 _ rfl
    change DataW.trod enc Tryd.prog W base sp held n 3 (([c0, c1, c2, c3].drop 0).take (Tryd.prog.cellsOf 3)) = some x0 at this
    rw [cellsInt] at this
    exact this
  have h1 : DataW.trod enc Tryd.prog W base sp held n 9 [c1] = some x1 := by
    have := hf 1 _ rfl
    change DataW.trod enc Tryd.prog W base sp held n 9 (([c0, c1, c2, c3].drop 1).take (Tryd.prog.cellsOf 9)) = some x1 at this
    rw [cellsS] at this
    exact this
  have h2 : DataW.trod enc Tryd.prog W base sp held n 3 [c2] = some x2 := by
    have := hf 2 _ rfl
    change DataW.trod enc Tryd.prog W base sp held n 3 (([c0, c1, c2, c3].drop 2).take (Tryd.prog.cellsOf 3)) = some x2 at this
    rw [cellsInt] at this
    exact this
  have h3 : DataW.trod enc Tryd.prog W base sp held n 3 [c3] = some x3 := by
    have := hf 3 _ rfl
    change DataW.trod enc Tryd.prog W base sp held n 3 (([c0, c1, c2, c3].drop 3).take (Tryd.prog.cellsOf 3)) = some x3 at this
    rw [cellsInt] at this
    exact this
  obtain ⟨n0, e0, d0, _⟩ := DataW.trod_int Tryd.underlying3 h0
  obtain ⟨s1, e1, d1, _⟩ := DataW.trod_string Tryd.underlying9 h1
  obtain ⟨n2, e2, d2, _⟩ := DataW.trod_int Tryd.underlying3 h2
  obtain ⟨n3, e3, d3, _⟩ := DataW.trod_int Tryd.underlying3 h3
  injection e0 with e0
  injection e1 with e1
  injection e2 with e2
  injection e3 with e3
  subst e0; subst e1; subst e2; subst e3; subst d0; subst d1; subst d2; subst d3
  exact ⟨⟨n0, s1, n2, n3⟩, rfl, rfl⟩
theorem cells_add {w : World} {b : Nat} {a : Addr} {n : Nat} {c : List Value} (h : w.cells? b a n = some c) : c.length = n ∧ ∀ i u, c[i]? = some u → w.cell? (a.add i) = some u := by
  unfold World.cells? at h
  split at h
  · have hl := Lib.mapM_length h
    refine ⟨by simpa using hl, fun i u hu => ?_⟩
    have hi : i < n := by
      have := (List.getElem?_eq_some_iff.1 hu).1
      rw [hl] at this; simpa using this
    obtain ⟨b, hb, hf⟩ := Lib.mapM_at h i i (by simp [hi])
    rw [hu] at hb
    injection hb with hb
    subst hb
    exact hf
  · cases h
theorem list_of {α β : Type} (P : α → β → Prop) : ∀ (xs : List α), (∀ x ∈ xs, ∃ y, P x y) → ∃ ys : List β, ys.length = xs.length ∧ ∀ (i : Nat) x, xs[i]? = some x → ∃ y, ys[i]? = some y ∧ P x y
  | [], _ => ⟨[], rfl, fun i x h => by simp at h⟩
  | a :: xs, h => by
    obtain ⟨y, hy⟩ := h a List.mem_cons_self
    obtain ⟨ys, hl, hp⟩ := list_of P xs (fun x hx => h x (List.mem_cons_of_mem _ hx))
    refine ⟨y :: ys, by simp [hl], fun i x hx => ?_⟩
    cases i with
    | zero => injection hx with hx; subst hx; exact ⟨y, rfl, hy⟩
    | succ i => exact hp i x hx
/-- A slice of tokens. -/
theorem toks_of_trod {A : Option Addr} {len cap : Nat} {d : DataW H} {p : List MemPlace} (h : ∃ fuel, DataW.trod enc Tryd.prog W base sp held fuel 23 (Value.slice A len cap).cells.toList = some (d, p)) :
    ∃ l : List Tok, len = l.length ∧ l.length ≤ cap ∧ Kd.C k35 W A l.length l ∧ (d = .nil ∧ l = [] ∨ ∃ sp', d = .slice (l.map tokD) sp') := by
  obtain ⟨fuel, h⟩ := h
  rcases DataW.trod_slice Tryd.underlying23 h with ⟨hc, hx⟩ | ⟨a, len', cap', elems, rest, n, rfl, hc, hx, _, hle, hcap, hlen, hel, _, _⟩
  · simp [Value.cells] at hc
    obtain ⟨rfl, rfl, rfl⟩ := hc
    injection hx with hx _
    exact ⟨[], rfl, Nat.le_refl _, Kd.C_nil _ _, .inl ⟨hx, rfl⟩⟩
  · simp [Value.cells] at hc
    obtain ⟨rfl, rfl, rfl⟩ := hc
    injection hx with hx _
    rw [cellsTok] at hel
    obtain ⟨l, hl, hp⟩ := list_of (fun (x : DataW H × List MemPlace) (t : Tok) => x.1 = tokD t) elems (fun x hx => by
      obtain ⟨i, hi⟩ := List.getElem?_of_mem hx
      have hi' : i < len := by rw [← hlen]; exact (List.getElem?_eq_some_iff.1 hi).1
      have := hel i hi'
      rw [hi, Option.bind_eq_some_iff] at this
      obtain ⟨c, _, hc⟩ := this
      obtain ⟨t, _, ht⟩ := tok_of_trod hc
      exact ⟨t, ht⟩)
    have hmap : elems.map (·.1) = l.map tokD := by
      apply List.ext_getElem?
      intro i
      rw [List.getElem?_map, List.getElem?_map]
      cases hi : elems[i]? with
      | none =>
        have : l[i]? = none := by rw [List.getElem?_eq_none_iff]; rw [List.getElem?_eq_none_iff] at hi; omega
        rw [this]; rfl
      | some x =>
        obtain ⟨t, ht, hxt⟩ := hp i x hi
        rw [ht]; simp [hxt]
    refine ⟨l, by omega, by omega, ⟨rfl, by have := hcap; unfold maxLen at this; omega, fun _ => ⟨a, rfl, fun j t ht => ?_⟩⟩, .inr ⟨_, by rw [hx, hmap]⟩⟩
    have hj : j < len := by have := (List.getElem?_eq_some_iff.1 ht).1; omega
    have he := hel j hj
    cases hi : elems[j]? with
    | none => rw [List.getElem?_eq_none_iff] at hi; omega
    | some x =>
      rw [hi, Option.bind_eq_some_iff] at he
      obtain ⟨c, hc, hcx⟩ := he
      obtain ⟨t', ec, ht'⟩ := tok_of_trod hcx
      obtain ⟨t2, ht2, hx2⟩ := hp j x hi
      rw [ht] at ht2
      injection ht2 with ht2
      subst ht2
      rw [hx2] at ht'
      have hK : Kd.K k35 W t c := by
        have e := ht'
        unfold tokD at e
        simp only [DataW.agg.injEq, List.cons.injEq, DataW.lit.injEq, Lit.int.injEq, Lit.string.injEq, true_and, and_true] at e
        obtain ⟨e0, e1, e2, e3⟩ := e
        have e1' : t.f1 = t'.f1 := ByteArray.ext (Array.toList_inj.1 e1)
        rw [ec, ← e0, ← e1', ← e2, ← e3]
        exact k35_mk W t
      obtain ⟨hlc, hcell⟩ := cells_add hc
      exact ⟨c, hlc, hK, fun i u hu => by
        have := hcell i u hu
        have ha : (a.add (j * 4)).add i = a.add (j * 4 + i) := add_add _ _ _
        show W.cell? (a.add (j * 4 + i)) = some u
        rw [← ha]; exact this⟩
theorem mem_weightsAll {P : Program} {e : TypeId} {n : Nat} : ∀ {ds : List (DataW H)} {d : DataW H}, d ∈ ds → n ∈ d.weights P e → n ∈ DataW.weightsAll P e ds
  | a :: ds, d, h, hn => by
    rw [DataW.weightsAll, List.mem_append]
    rcases List.mem_cons.1 h with rfl | h
    · exact .inl hn
    · exact .inr (mem_weightsAll h hn)
theorem tok_weight (t : Tok) : t.f1.data.toList.length ∈ (tokD t : DataW H).weights Tryd.prog 35 := by
  unfold tokD
  rw [DataW.weights, Tryd.underlying35]
  simp [DataW.weightsEach, DataW.weights]
/-- What the row's weights tell of a slice of tokens. -/
theorem toks_sized {ts : List TypeId} {ds : List (DataW H)} {l : List Tok} {d : DataW H} {j : Nat} (h : (DataW.weightsEach Tryd.prog ts ds).all (· ≤ reachBytes) = true) (ht : ts[j]? = some 23) (hd : ds[j]? = some d) (hs : d = .nil ∧ l = [] ∨ ∃ sp', d = .slice (l.map tokD) sp') :
    (∀ t ∈ l, t.f1.size ≤ 140737488351232) ∧ l.length ≤ 9223372036854775806 := by
  rcases hs with ⟨_, rfl⟩ | ⟨sp', rfl⟩
  · exact ⟨fun t ht => (by cases ht), Nat.zero_le _⟩
  · have hall : ∀ n ∈ (DataW.slice (l.map tokD) sp' : DataW H).weights Tryd.prog 23, n ≤ reachBytes := fun n hn => by
      have := List.all_eq_true.1 h n (DataW.weights_mem_each ht hd n hn)
      simpa using this
    have he : (DataW.slice (l.map tokD) sp' : DataW H).weights Tryd.prog 23 = ((l.map tokD : List (DataW H)).length + sp'.length) * Tryd.prog.bytesOf 35 :: (DataW.weightsAll Tryd.prog 35 (l.map tokD : List (DataW H)) ++ DataW.weightsAll Tryd.prog 35 sp') := by
      rw [DataW.weights, Tryd.underlying23]
    rw [he] at hall
    refine ⟨fun t ht' => ?_, ?_⟩
    · have h1 := hall t.f1.data.toList.length (List.mem_cons_of_mem _ (List.mem_append_left _ (mem_weightsAll (List.mem_map_of_mem ht') (tok_weight t))))
      rw [Array.length_toList] at h1
      exact h1
    · have h1 := hall _ List.mem_cons_self
      have hb : Tryd.prog.bytesOf 35 = 40 := by kernel_rfl
      rw [hb, List.length_map] at h1
      have : reachBytes = 140737488351232 := rfl
      omega
end
end Go.Proofs.YtomglbjcfcijkaaDoor.PLx

namespace Go.Proofs.YtomglbjcfcijkaaDoor.PLx
open Go.RowKit Go.Proofs.YtomglbjcfcijkaaDoorW.PrintWords Go.Proofs.YtomglbjcfcijkaaDoorW.PrintLast Go.Proofs.YtomglbjcfcijkaaDoorW.PrintMore
theorem sum_len (x : List Tok) : x.length ≤ (x.map fun t => (wordOf t).length + 1).sum := by
  induction x with
  | nil => simp
  | cons t x ih => simp only [List.map_cons, List.sum_cons, List.length_cons]; omega
theorem back_source (s : ByteArray) (hs : s.size ≤ 3000) (k : Nat) : sizarlaw09_LexBack.j1 (k + 1) s = some true := by
  simp only [sizarlaw09_LexBack.j1]
  cases hl : lexOf s.data.toList with
  | error p => rw [Lex_err (by omega) hl]; rfl
  | ok x =>
    have hv := lexOf_valid hl
    have hsz := size_data s
    have h1 := lexR_len _ _ _ _ (Nat.lt_succ_self _) (by rw [← lexOf_R]; exact hl)
    have h2 := text_len x
    have h3 := sum_len x
    obtain ⟨ts, e1, e2⟩ := textOf_lex x hv
    have hsz2 : (bs (textOf x)).size = (textOf x).length := by rw [← size_data]; rfl
    have e3 := Lex_ok (a := bs (textOf x)) (l := ts) (by omega) e1
    rw [Lex_ok (by omega) hl]
    simp only [Option.bind_some, if_true, Text_ok hv (by omega) (by omega), e3, lex_Same.f, e2]
theorem pureLexBack (a : List Tok) (s : ByteArray) (ha : a.length ≤ 9223372036854775806) (wa : ∀ t ∈ a, t.f1.size ≤ 140737488351232) : ∃ k, sizarlaw09_LexBack.f k a s = some true := by
  refine ⟨a.length + 100, ?_⟩
  obtain ⟨fa, ea, ga⟩ := few_f a ha wa (a.length + 100) (by omega)
  unfold sizarlaw09_LexBack.f
  rw [sane_all _ (by omega), Option.bind_some, if_pos rfl, ea, Option.bind_some]
  cases fa
  · rfl
  rw [if_pos rfl]
  have hFa := ga rfl
  have h200 := hFa.1
  have hlen := few_text hFa
  by_cases h3000 : (s.size : Int) > 3000
  · rw [decide_eq_true h3000]; rfl
  rw [decide_eq_false h3000]
  have hj1 := back_source s (by omega) (a.length + 98)
  cases h : a.all validT with
  | false =>
    simp only [sizarlaw09_LexBack.j0, Bool.false_eq_true, if_false, Text_bad h (by omega), Option.bind_some, show ¬ (90 : Int) = 0 by decide]
    exact hj1
  | true =>
    rw [List.all_eq_true] at h
    obtain ⟨ts, e1, e2⟩ := textOf_lex a h
    have hsz2 : (bs (textOf a)).size = (textOf a).length := by rw [← size_data]; rfl
    have e3 := Lex_ok (a := bs (textOf a)) (l := ts) (by omega) e1
    simp only [sizarlaw09_LexBack.j0, Bool.false_eq_true, if_false, Text_ok h (by omega) (by omega), Option.bind_some, if_true, e3, lex_Same.f, e2]
    exact hj1
theorem walkLexBack (W : World) (A0 : Option Addr) (c0 : Nat) (l0 : List Tok) (hr0 : Kd.C k35 W A0 l0.length l0) (hc0 : l0.length ≤ c0) (s : ByteArray)
    (w0 : ∀ t ∈ l0, t.f1.size ≤ 140737488351232) (n0 : l0.length ≤ 9223372036854775806) (hL : Laid W) :
    Calls Tryd.prog 5 #[.slice A0 l0.length c0, .string s] W fun e w' => e = .returned (.bool true) ∧ Below W.heap.size W w' := by
  obtain ⟨k, hk⟩ := pureLexBack l0 s n0 w0
  exact sizarlaw09_LexBack.calls k A0 c0 l0 s true W hr0 hc0 hL hk
end Go.Proofs.YtomglbjcfcijkaaDoor.PLx

namespace Go.Proofs.YtomglbjcfcijkaaDoor.lexBack
open Go.ChangeShapes Go.WideShapes Go.ChangeAt Go.RowKit
open Go.ChangeMaps (open_string shut_string)
open Go.Proofs.YtomglbjcfcijkaaDoor.PLx
set_option linter.unusedVariables false
theorem laidOut : laidOutB Tryd.prog = true := by kernel_rfl
set_option maxRecDepth 100000 in
theorem lifted (os : Os) (started : os.Started) (H : Type) (enc : TypeId × Value → H) :
    ReturnsInHanded {} Tryd.checked os 5 .any (fun w args => (Rows.lexBackSpec.pre enc Tryd.prog Tryd.f5 [] false w args ∧ laidMetH Tryd.prog Rows.lexBackRow.laid w) ∧ sizedMet enc Tryd.prog Tryd.f5 (OpenSpec.ofChange Rows.lexBackSpec) false w args) (Rows.lexBackSpec.post enc Tryd.prog Tryd.f5 false true false false) := by
  refine returnsInHanded_of_change_and (C := Tryd.checked) (X := fun w _ => laidMetH Tryd.prog Rows.lexBackRow.laid w) (fun _ _ _ hh h => h.of_heap hh) ownNone started (by kernel_rfl) Tryd.func5
    (ChangeSpec.witness_shaped (enc := enc) (C := Tryd.checked) (os := os) (X := fun w _ => laidMetH Tryd.prog Rows.lexBackRow.laid w) false (doorW os) #[.slice none 0 0, .string ByteArray.empty] 8 rfl (World.shaped_of_RefB (by kernel_rfl) (by kernel_rfl)) (by kernel_rfl) (by kernel_rfl) (by kernel_rfl) (door_met os _)) ?_
  intro W base args ds gs before hval0 hW hcnd hsz0 hX _
  have hsz : (DataW.weightsEach Tryd.prog (Tryd.f5.params.toList ++ Rows.lexBackSpec.plain.varTypes Tryd.prog) (ds ++ gs)).all (· ≤ reachBytes) = true := hsz0
  have hval : ∀ (j : Nat) t v, Tryd.f5.params[j]? = some t → args[j]? = some v → Value.okWide Tryd.prog W .any base t v := hval0
  have hW' := hW
  obtain ⟨p, q, hA0, hV, rfl, hfz, hnd⟩ := hW
  have hA : DataW.TrodAll enc Tryd.prog W 0 (fun _ => true) true Tryd.f5.params.toList args.toList ds p := hA0
  rw [Tryd.params5] at hA hval hsz
  obtain ⟨v0, vs0, d0, ds0, p0, q0, hargs, rfl, rfl, h0, r0⟩ := trodAll_cons hA
  obtain ⟨v1, vs1, d1, ds1, p1, q1, rfl, rfl, rfl, h1, r1⟩ := trodAll_cons r0
  obtain ⟨rfl, rfl, rfl⟩ := trodAll_nil r1
  obtain rfl : args = #[v0, v1] := by cases args; simp_all
  obtain ⟨rfl, rfl⟩ := trodVars_none hV
  have hL := laid_of_row hX
  obtain ⟨A0, len0, cap0, rfl⟩ := okWide_slice Tryd.underlying23 (hval 0 23 v0 rfl rfl)
  have k0 := h0
  have lt0 : ∀ x ∈ p0, x.block < W.heap.size := by obtain ⟨m, hm⟩ := k0; exact DataW.trod_lt m _ _ _ hm
  obtain ⟨l0, hl0, hc0, hr0, hd0⟩ := toks_of_trod h0
  subst hl0
  obtain ⟨w0, n0⟩ := toks_sized hsz (j := 0) rfl rfl hd0
  obtain ⟨a1, rfl, rfl, rfl, y1⟩ := open_string Tryd.underlying9 (hval 1 9 v1 rfl rfl) h1
  have w1 : a1.size ≤ 140737488351232 := by
    have z := sized_string hsz (j := 1) (t := 9) rfl rfl
    rw [Array.length_toList] at z
    exact z
  refine (walkLexBack W A0 cap0 l0 hr0 hc0 a1 w0 n0 hL).mono fun e W' ⟨he, bel⟩ => ?_
  subst he
  exact ⟨_, rfl, _, _, _, [], _, [], hW', trodAll_mk1 (shut_bool Tryd.underlying4 _), (trodAll_cons_mk (Below.trod laidOut (by kernel_rfl) (of_decide_eq_true (by kernel_rfl)) k0 bel lt0) (trodAll_cons_mk (shut_string Tryd.underlying9 y1) trodAll_mk0)), rfl, bel.frame _, fun h => by cases h⟩
theorem over : Rows.lexBackRow.holds Tryd.pinned (OpenSpec.ofChange Rows.lexBackSpec) :=
  OpenClaim.holds_of_wide 5 Tryd.f5 rfl rfl rfl rfl rfl rfl rfl ⟨rfl, rfl, rfl, rfl, rfl⟩ rfl rfl rfl rfl rfl (by kernel_rfl) Tryd.func5 (by kernel_rfl)
    (of_decide_eq_true (by kernel_rfl)) (by unfold Func.isWrapper; first | (rw [if_pos (by decide +kernel)]; kernel_rfl) | (rw [if_neg (by decide +kernel)]; exact ⟨rfl, rfl⟩))
    (fun os started H enc _ => lifted os started H enc)
theorem card : Rows.LexBackCardSaid :=
  Claim7.holds_tied_plain_at .later [] [.data, .data, .data, .sentinel, .sentinel] true (true, "ae60ee85bae1412e4cc9c73726323c87789b3eb36cc3db7c69b93d92b3735f87") true
    over (fun _ h => by cases h) (by kernel_rfl) (fun _ h => by cases h) lexBack_row_tie rfl ⟨rfl, rfl⟩ (by kernel_rfl) rfl
    (fun f fn hf hfn => by
      obtain rfl : f = 5 := Option.some.inj ((show Tryd.prog.funcNamed "sizar/sizarlaw09.LexBack" = some 5 by kernel_rfl).symm.trans hf) |>.symm
      obtain rfl : fn = Tryd.f5 := (Option.some.inj (Tryd.func5.symm.trans hfn)).symm
      exact ⟨by kernel_rfl, fun j t ht => by
        rw [Tryd.params5] at ht
        have hm : t ∈ [23, 9] := by simpa using Array.mem_of_getElem? ht
        have hall : ([23, 9].all fun u => !Tryd.prog.wantsStandIn u) = true := by kernel_rfl
        exact (show Tryd.prog.wantsStandIn t = false by simpa using List.all_eq_true.1 hall t hm)⟩)
    (by kernel_rfl)
end Go.Proofs.YtomglbjcfcijkaaDoor.lexBack
namespace Go.Proofs.YtomglbjcfcijkaaDoor
/-- The card, under a short name, for the claim. -/
theorem lexBack_card_holds : Rows.LexBackCardSaid := lexBack.card
#print axioms lexBack_card_holds
end Go.Proofs.YtomglbjcfcijkaaDoor
