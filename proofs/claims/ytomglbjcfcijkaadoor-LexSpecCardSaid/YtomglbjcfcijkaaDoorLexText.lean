/- lex.Text: THE WALK of its body, and its contract. -/
import Derived.Test.YtomglbjcfcijkaaDoorLexNum
import Derived.Laws.MakeOwn
namespace Go.Proofs.YtomglbjcfcijkaaDoor.PLx
open Go.RowKit Go.Proofs.YtomglbjcfcijkaaDoorW.PrintWords Go.Proofs.YtomglbjcfcijkaaDoorW.PrintLast Go.Proofs.YtomglbjcfcijkaaDoorW.PrintMore

theorem digs_dec : ∀ (k u : Nat), u < 10 ^ (k + 1) → digs (k + 1) u = Lib.decDigits u
  | 0, u, h => by
    rw [Lib.decDigits, digs]
    rw [if_pos (by simpa using h)]
    rw [dif_pos (by simpa using h)]
  | k + 1, u, h => by
    rw [Lib.decDigits, digs]
    split
    · rfl
    · rw [digs_dec k (u / 10) (by rw [Nat.pow_succ] at h; omega)]
theorem join_words : ∀ xs : List (List UInt8), joinW xs = Lib.join xs [32]
  | [] => rfl
  | [x] => (Lib.join_one x [32]).symm
  | x :: y :: r => by
    rw [joinW, join_words (y :: r), Lib.join_cons, Lib.join_cons]
    simp [Lib.joinTail]
/-- Where lex.Text stands at the head of a round. -/
structure TInv (H : Nat) (w wr : World) (l : List Tok) (k : Nat) : Prop where
  row : ∃ cs : Array Value, wr.heap[H]? = some (.cells cs 9 (0, 0)) ∧ cs.size = l.length ∧ ∀ j x, j < k → l[j]? = some x → cs[j]? = some (.string (bs (wordOf x)))
  ok : ∀ j x, j < k → l[j]? = some x → validT x = true
  keep : Below H w wr

theorem TInv.next {H k : Nat} {w w1 : World} {l : List Tok} {x : Tok} {cs : Array Value} (hx : l[k]? = some x) (hv : validT x = true) (hok : ∀ j x, j < k → l[j]? = some x → validT x = true)
    (h : w1.heap[H]? = some (.cells cs 9 (0, 0)) ∧ Below H w w1 ∧ cs.size = l.length ∧ ∀ j x, j < k → l[j]? = some x → cs[j]? = some (.string (bs (wordOf x)))) :
    TInv H w (w1.setCell ⟨H, k, none⟩ (.string (bs (wordOf x)))) l (k + 1) := by
  obtain ⟨h1, h2, h3, h4⟩ := h
  have hk : k < cs.size := by rw [h3]; exact (List.getElem?_eq_some_iff.1 hx).1
  refine ⟨⟨_, blk_put h1 k _ rfl, by simp [h3], fun j y hj hy => ?_⟩, fun j y hj hy => ?_, h2.setCell (p := ⟨H, k, none⟩) (Nat.le_refl _) _⟩
  · rcases Nat.lt_or_ge j k with hl | hl
    · have := h4 j y hl hy
      simp [Array.getElem?_setIfInBounds, show ¬ k = j by omega, this]
    · have : j = k := by omega
      subst this
      rw [hx] at hy
      injection hy with hy
      subst hy
      simp [hk]
  · rcases Nat.lt_or_ge j k with hl | hl
    · exact hok j y hl hy
    · have : j = k := by omega
      subst this
      rw [hx] at hy
      injection hy with hy
      subst hy
      exact hv
theorem text_bad (l : List Tok) (k : Nat) (T : Tok) (hg : l[k]? = some T) (hv : validT T = false) (r1 : ByteArray) (r2 : Int) (h : lex_Text.f l = some (r1, r2)) : r1 = ⟨#[]⟩ ∧ r2 = 90 := by
  have ha : l.all validT ≠ true := fun hc => by
    rw [List.all_eq_true] at hc
    have := hc T (List.mem_of_getElem? hg)
    rw [hv] at this; cases this
  unfold lex_Text.f at h
  rw [if_neg ha] at h
  split at h
  · cases h
  · injection h with h
    injection h with h1 h2
    exact ⟨h1.symm, h2.symm⟩
theorem text_good (l : List Tok) {k : Nat} (hok : ∀ j x, j < k → l[j]? = some x → validT x = true) (hk : k = l.length) (r1 : ByteArray) (r2 : Int) (h : lex_Text.f l = some (r1, r2)) :
    r1 = ⟨(Lib.join ((l.map fun t => bs (wordOf t)).map (·.data.toList)) [32]).toArray⟩ ∧ r2 = 0 ∧ (Lib.join ((l.map fun t => bs (wordOf t)).map (·.data.toList)) [32]).length ≤ 140737488355328 := by
  have ha : l.all validT = true := by
    rw [List.all_eq_true]
    intro x hx
    obtain ⟨j, hj⟩ := List.getElem?_of_mem hx
    exact hok j x (by rw [hk]; exact (List.getElem?_eq_some_iff.1 hj).1) hj
  have hw : Lib.join ((l.map fun t => bs (wordOf t)).map (·.data.toList)) [32] = textOf l := by
    unfold textOf
    rw [join_words, List.map_map]; rfl
  rw [hw]
  unfold lex_Text.f at h
  rw [if_pos ha] at h
  split at h
  · cases h
  · split at h
    · rename_i h2
      injection h with h
      injection h with h1 h3
      exact ⟨h1.symm, h3.symm, by unfold textMost at h2; omega⟩
    · cases h
theorem valid_two {T1 : ByteArray} {T2 T3 : Int} (h : validT ⟨2, T1, T2, T3⟩ = true) : 0 ≤ T2 ∧ T2 ≤ 1099511627776 := by
  unfold validT at h
  simp only [show ¬ (2 : Int) = 1 by decide, if_false, if_true, Bool.and_eq_true, decide_eq_true_eq] at h
  exact ⟨h.1.2, h.2⟩

set_option maxHeartbeats 1000000 in
theorem text_walk (A0 : Option Addr) (c0 : Nat) (l0 : List Tok) (r1 : ByteArray) (r2 : Int) (w : World) (hr0 : Kd.C k35 w A0 l0.length l0) (hc0 : l0.length ≤ c0) (hL : Laid w) (h : lex_Text.f l0 = some (r1, r2)) :
    Calls Tryd.prog 19 #[.slice A0 l0.length c0] w fun e w' => e = .returned (.tuple #[.string r1, .int .i64 r2]) ∧ Below w.heap.size w w' := by
  have hn : l0.length ≤ 1099511627776 := by
    unfold lex_Text.f at h
    split at h
    · cases h
    · unfold textMost at *; omega
  have hmk : ∀ W, (Instr.makeSlice 39 (.int .i64 (l0.length : Int)) (.int .i64 (l0.length : Int))).run Tryd.prog W = .ok (.slice (some ⟨W.heap.size, 0, none⟩) l0.length l0.length) (W.alloc (.cells (madeCells #[.string ⟨#[]⟩] l0.length) 9)) := by
    intro W
    obtain ⟨i0, hi, hzz⟩ := Option.map_eq_some_iff.1 (show (Tryd.prog.info? 9).map (fun i => (i.zero, i.size, i.bytes)) = some (some (.string ⟨#[]⟩), 1, 16) by kernel_rfl)
    simp only [Prod.mk.injEq] at hzz
    obtain ⟨hz0, hz1, hz2⟩ := hzz
    have := run_make (P := Tryd.prog) W 39 9 i0 (.string ⟨#[]⟩) Tryd.underlying39 hi hz0 .i64 .i64 (l0.length : Int) (l0.length : Int) (by omega) (by omega) (by rw [hz2]; omega) (by omega)
    simp only [Int.toNat_natCast, hz1, Nat.mul_one] at this
    exact this
  have HL := Aside0.mk hL
  have HR := Aside0.mk hr0
  have HF := Aside0.mk h
  clear hL hr0 h
  go_enter Tryd.func19, Tryd.ntmps19
  go_wp2
  have h0 : TInv w.heap.size w (w.alloc (.cells (madeCells #[.string ⟨#[]⟩] l0.length) 9)) l0 0 :=
    ⟨⟨_, blk_new w _, by simp [madeCells], fun j x hj => absurd hj (Nat.not_lt_zero _)⟩, fun j x hj => absurd hj (Nat.not_lt_zero _), (Below.refl _ w).alloc (Nat.le_refl _) _⟩
  generalize World.alloc w _ = W at h0 ⊢
  have H0 := Aside0.mk h0
  clear h0
  go_loopw [12] (fun i wr => ∃ k : Nat, k ≤ l0.length ∧ i = .int .i64 (k : Int) ∧ Aside0 (TInv w.heap.size w wr l0 k)) (fun i _ => l0.length - (intOf i).toNat)
  case atStart => exact ⟨0, Nat.zero_le _, rfl, H0⟩
  case round =>
    obtain ⟨k, hk, rfl, HI⟩ := hrel
    have hH : w.heap.size < wr.heap.size := by obtain ⟨cs, h, -⟩ := HI.out.row; exact blk_lt h
    by_cases hlt : k < l0.length
    · have HC := Kd.C_below HR.out (HI.out.keep)
      obtain ⟨ad, e, x0, x1, x2, x3⟩ := at_T35 HC (k : Int) (by omega) (by omega)
      subst e
      simp only [Int.toNat_natCast] at x0 x1 x2 x3
      have hg : l0[k]? = some (rd_T35 l0 (k : Int)) := by
        unfold rd_T35
        rw [Int.toNat_natCast, List.getD_eq_getElem?_getD, List.getElem?_eq_getElem hlt]; rfl
      have HG := Aside0.mk hg
      clear HC hg
      generalize rd_T35 l0 (k : Int) = T at x0 x1 x2 x3 HG
      go_wp2_with (fail)
      refine (valid_all T _).mono ?_
      rintro e w1 ⟨rfl, hb1⟩
      obtain ⟨cs, hc, hsz, hrow⟩ := HI.out.row
      have hk' : k < cs.size := by omega
      have hW1 : w1.heap[w.heap.size]? = some (.cells cs 9 (0, 0)) := blk_below (blk_alloc hc _) hb1
      have hT1 : w1.heap[wr.heap.size]? = some (.cells #[.int .i64 T.f0, .string T.f1, .int .i64 T.f2, .int .i64 T.f3] 35 (0, 0)) := blk_below (blk_new wr _) hb1
      have hK1 : Below w.heap.size w w1 := HI.out.keep.trans (((Below.refl w.heap.size wr).alloc (by omega) _).trans (hb1.mono (by simp; omega)))
      have t0 : w1.cell? ⟨wr.heap.size, 0, none⟩ = some (.int .i64 T.f0) := (blk_cell hT1 0).trans rfl
      have t1 : w1.cell? ⟨wr.heap.size, 1, none⟩ = some (.string T.f1) := (blk_cell hT1 1).trans rfl
      have t2 : w1.cell? ⟨wr.heap.size, 2, none⟩ = some (.int .i64 T.f2) := (blk_cell hT1 2).trans rfl
      have hs1 := blk_lt hT1
      have B1 := Aside0.mk (And.intro hW1 (And.intro hK1 (And.intro hsz hrow)))
      clear hW1 hK1 hsz hrow hc hb1 hT1 x0 x1 x2 x3
      cases hv : validT T
      · have HE := Aside0.mk (text_bad l0 k T HG.out hv r1 r2 HF.out)
        obtain ⟨rfl, rfl⟩ := HE.out
        go_wp2
        go_ret2
        exact ⟨rfl, B1.out.2.1⟩
      · have HV := Aside0.mk hv
        clear hv
        obtain ⟨T0, T1, T2, T3⟩ := T
        by_cases h2 : T0 = 2
        · subst h2
          have hv2 := valid_two HV.out
          obtain ⟨n, rfl⟩ := Int.eq_ofNat_of_zero_le hv2.1
          have hL1 : Laid w1 := HL.out.below B1.out.2.1
          have HC := Aside0.mk (itoa_any n (by omega) w1 hL1)
          clear hL1
          go_wp2_with (fail)
          refine HC.out.mono ?_
          rintro e w2 ⟨rfl, hb2⟩
          have hW2 := blk_below B1.out.1 hb2
          have y0 : w2.cell? ⟨w.heap.size, k, none⟩ = some cs[k] := (blk_cell hW2 k).trans (Array.getElem?_eq_getElem hk')
          have y1 : w2.frozen? ⟨w.heap.size, k, none⟩ = false := blk_frozen hW2 k
          have HN := Aside0.mk (TInv.next HG.out HV.out HI.out.ok ⟨hW2, B1.out.2.1.trans (hb2.mono (by omega)), B1.out.2.2⟩)
          clear hW2 hb2
          go_wp2
          refine ⟨⟨k + 1, by omega, rfl, ⟨?_⟩⟩, by simp [intOf]; omega⟩
          rw [show bs (Lib.decDigits n) = bs (wordOf ⟨2, T1, (n : Int), T3⟩) by unfold wordOf; rw [if_pos rfl]; exact congrArg bs (digs_dec 19 n (by omega)).symm]
          exact HN.out
        · have y0 : w1.cell? ⟨w.heap.size, k, none⟩ = some cs[k] := (blk_cell B1.out.1 k).trans (Array.getElem?_eq_getElem hk')
          have y1 : w1.frozen? ⟨w.heap.size, k, none⟩ = false := blk_frozen B1.out.1 k
          have HN := Aside0.mk (TInv.next HG.out HV.out HI.out.ok B1.out)
          go_wp2
          refine ⟨⟨k + 1, by omega, rfl, ⟨?_⟩⟩, by simp [intOf]; omega⟩
          rw [show T1 = bs (wordOf ⟨T0, T1, T2, T3⟩) by unfold wordOf; rw [if_neg h2]; rfl]
          exact HN.out
    · have hke : k = l0.length := by omega
      have HE := Aside0.mk (text_good l0 HI.out.ok hke r1 r2 HF.out)
      obtain ⟨cs, hc, hsz, hrow⟩ := HI.out.row
      have hx : ∀ (j : Nat) x, (l0.map fun t => bs (wordOf t))[j]? = some x → wr.cell? ⟨w.heap.size, 0 + j, none⟩ = some (.string x) := by
        intro j x hj
        rw [List.getElem?_map, Option.map_eq_some_iff] at hj
        obtain ⟨t, ht, rfl⟩ := hj
        rw [Nat.zero_add]
        exact (blk_cell hc j).trans (hrow j t (by rw [hke]; exact (List.getElem?_eq_some_iff.1 ht).1) ht)
      have HJ := Aside0.mk (Tryd.strings_Join w.heap.size 0 l0.length (l0.map fun t => bs (wordOf t)) ⟨#[32]⟩ wr hx hH (by simp; omega) (by simp) HE.out.2.2)
      obtain ⟨rfl, rfl, -⟩ := HE.out
      simp only [List.length_map] at HJ
      clear hc hsz hrow hx
      go_wp2_with (fail)
      refine HJ.out.mono ?_
      rintro e w2 ⟨rfl, hb2⟩
      go_wp2
      go_ret2
      exact ⟨by rw [List.map_map]; rfl, HI.out.keep.trans (hb2.mono (by omega))⟩
theorem lex_Text.calls (A0 : Option Addr) (c0 : Nat) (l0 : List S35) (r1 : ByteArray) (r2 : Int) (w : World) (hr0 : Kd.C k35 w A0 l0.length l0) (hc0 : l0.length ≤ c0) (hL : Laid w) (h : lex_Text.f l0 = some (r1, r2)) :
    Calls Tryd.prog 19 #[.slice A0 l0.length c0] w fun e w' => e = .returned (.tuple #[.string r1, .int .i64 r2]) ∧ Below w.heap.size w w' := text_walk A0 c0 l0 r1 r2 w hr0 hc0 hL h
end Go.Proofs.YtomglbjcfcijkaaDoor.PLx
