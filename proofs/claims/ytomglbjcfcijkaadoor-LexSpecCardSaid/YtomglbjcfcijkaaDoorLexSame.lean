/- lex.Same: THE WALKS of the closure, of slices.EqualFunc and of the body, and its contract. -/
import Derived.Test.YtomglbjcfcijkaaDoorLexVal
import Derived.Outline
namespace Go.Proofs.YtomglbjcfcijkaaDoor.PLx
open Go.RowKit Go.Proofs.YtomglbjcfcijkaaDoorW.PrintWords Go.Proofs.YtomglbjcfcijkaaDoorW.PrintLast Go.Proofs.YtomglbjcfcijkaaDoorW.PrintMore

theorem bs_inj' (x y : ByteArray) (h : x.data.toList = y.data.toList) : x = y := ByteArray.ext (Array.toList_inj.1 h)
set_option maxRecDepth 4000 in
set_option maxHeartbeats 1000000 in
theorem same1_any (x y : Tok) (w : World) :
    Calls Tryd.prog 52 #[.agg #[.int .i64 x.f0, .string x.f1, .int .i64 x.f2, .int .i64 x.f3], .agg #[.int .i64 y.f0, .string y.f1, .int .i64 y.f2, .int .i64 y.f3]] w fun e w' => e = .returned (.bool (sameTok x y)) ∧ Below w.heap.size w w' := by
  have hu := Tryd.underlying35
  go_enter Tryd.func52, Tryd.ntmps52
  obtain ⟨x0, x1, x2, x3⟩ := x
  obtain ⟨y0, y1, y2, y3⟩ := y
  by_cases h0 : x0 = y0
  · subst h0
    have h0 : (x0 == x0) = true := beq_self_eq_true x0
    by_cases h1 : x1 = y1
    · subst h1
      go_wp2
      go_ret
      exact ⟨by simp [sameTok], ((Below.refl _ w).alloc (by simp) _).alloc (by simp) _⟩
    · have h1' : (x1.toList == y1.toList) = false := beq_eq_false_iff_ne.2 fun h => h1 (by rw [toList_eq, toList_eq] at h; exact (bs_inj' _ _ h))
      have h1'' : (x1.data.toList == y1.data.toList) = false := by rw [← toList_eq, ← toList_eq]; exact h1'
      go_wp2
      go_ret
      exact ⟨by simp [sameTok, h1''], ((Below.refl _ w).alloc (by simp) _).alloc (by simp) _⟩
  · have h0' : (x0 == y0) = false := beq_eq_false_iff_ne.2 h0
    go_wp2
    go_ret
    exact ⟨by simp [sameTok, h0'], ((Below.refl _ w).alloc (by simp) _).alloc (by simp) _⟩

theorem sameToks_len : ∀ (a b : List Tok), a.length ≠ b.length → sameToks a b = false
  | [], [], h => absurd rfl h
  | [], _ :: _, _ => rfl
  | _ :: _, [], _ => rfl
  | x :: a, y :: b, h => by
    rw [sameToks, sameToks_len a b (by simpa using h), Bool.and_false]
theorem sameToks_drop (a b : List Tok) (k : Nat) (x y : Tok) (hx : a[k]? = some x) (hy : b[k]? = some y) : sameToks (a.drop k) (b.drop k) = (sameTok x y && sameToks (a.drop (k + 1)) (b.drop (k + 1))) := by
  obtain ⟨h1, rfl⟩ := List.getElem?_eq_some_iff.1 hx
  obtain ⟨h2, rfl⟩ := List.getElem?_eq_some_iff.1 hy
  rw [List.drop_eq_getElem_cons h1, List.drop_eq_getElem_cons h2, sameToks]
theorem at_some (l : List Tok) (k : Nat) (h : k < l.length) : l[k]? = some (rd_T35 l (k : Int)) := by
  unfold rd_T35
  rw [Int.toNat_natCast, List.getD_eq_getElem?_getD, List.getElem?_eq_getElem h]; rfl

set_option maxHeartbeats 1000000 in
theorem equal_any (A0 : Option Addr) (c0 : Nat) (l0 : List Tok) (A1 : Option Addr) (c1 : Nat) (l1 : List Tok) (w : World) (hr0 : Kd.C k35 w A0 l0.length l0) (hc0 : l0.length ≤ c0) (hr1 : Kd.C k35 w A1 l1.length l1) (hc1 : l1.length ≤ c1) :
    Calls Tryd.prog 51 #[.slice A0 l0.length c0, .slice A1 l1.length c1, .func (.func 52) #[] #[]] w fun e w' => e = .returned (.bool (sameToks l0 l1)) ∧ Below w.heap.size w w' := by
  have hm0 := Kd.C_max hr0
  have hm1 := Kd.C_max hr1
  have HR0 := Aside0.mk hr0
  have HR1 := Aside0.mk hr1
  clear hr0 hr1
  go_enter Tryd.func51, Tryd.ntmps51
  by_cases hne : l0.length = l1.length
  · have hb : ((l0.length : Int) != (l1.length : Int)) = false := by simp [hne]
    have HNE := Aside0.mk hne
    clear hne
    go_wp2
    go_loopw [17] (fun i wr => ∃ k : Nat, k ≤ l0.length ∧ i = .int .i64 (k : Int) ∧ Aside0 (sameToks l0 l1 = sameToks (l0.drop k) (l1.drop k)) ∧ Below w.heap.size w wr) (fun i _ => l0.length - (intOf i).toNat)
    case atStart => exact ⟨0, Nat.zero_le _, rfl, ⟨rfl⟩, Below.refl _ w⟩
    case round =>
      obtain ⟨k, hk, rfl, HE, hb⟩ := hrel
      by_cases hlt : k < l0.length
      · obtain ⟨ad, e, x0, x1, x2, x3⟩ := at_T35 (Kd.C_below HR0.out hb) (k : Int) (by omega) (by omega)
        have hlt' : k < l1.length := by have := HNE.out; omega
        obtain ⟨bd, e', y0, y1, y2, y3⟩ := at_T35 (Kd.C_alloc (Kd.C_below HR1.out hb) (.cells #[.int .i64 (rd_T35 l0 (k : Int)).f0, .string (rd_T35 l0 (k : Int)).f1, .int .i64 (rd_T35 l0 (k : Int)).f2, .int .i64 (rd_T35 l0 (k : Int)).f3] 35)) (k : Int) (by omega) (by omega)
        have hnn := HNE.out
        subst e
        subst e'
        simp only [Int.toNat_natCast] at x0 x1 x2 x3 y0 y1 y2 y3
        have HD := Aside0.mk (sameToks_drop l0 l1 k _ _ (at_some l0 k hlt) (at_some l1 k hlt'))
        clear hnn
        generalize rd_T35 l0 (k : Int) = X at x0 x1 x2 x3 y0 y1 y2 y3 HD
        generalize rd_T35 l1 (k : Int) = Y at y0 y1 y2 y3 HD
        have hh : w.heap.size ≤ wr.heap.size := hb.size
        have HB := Aside0.mk hb
        clear hb
        go_wp2_with (fail)
        refine (same1_any X Y _).mono ?_
        rintro e w2 ⟨rfl, hb2⟩
        have HB2 := Aside0.mk (HB.out.trans ((((Below.refl w.heap.size wr).alloc hh _).alloc (by simp; omega) _).trans (hb2.mono (by simp; omega))))
        clear hb2 x0 x1 x2 x3 y0 y1 y2 y3
        cases hs : sameTok X Y
        · have HQ := Aside0.mk (show sameToks l0 l1 = false by rw [HE.out, HD.out, hs]; rfl)
          clear hs
          go_wp2
          go_ret
          exact ⟨by rw [HQ.out]; rfl, HB2.out⟩
        · have HQ := Aside0.mk (show sameToks l0 l1 = sameToks (l0.drop (k + 1)) (l1.drop (k + 1)) by rw [HE.out, HD.out, hs]; rfl)
          clear hs
          go_wp2
          go_roundw
          case rel => exact ⟨k + 1, by omega, by go_num, HQ, HB2.out⟩
          case measure => simp [intOf]; omega
      · have HQ := Aside0.mk (show sameToks l0 l1 = true by have hnn := HNE.out; rw [HE.out, List.drop_of_length_le (by omega), List.drop_of_length_le (by omega)]; rfl)
        go_wp2
        go_ret
        exact ⟨by rw [HQ.out]; rfl, hb⟩
  · have hb : ((l0.length : Int) != (l1.length : Int)) = true := by rw [bne_iff_ne]; omega
    have hq := sameToks_len l0 l1 hne
    go_wp2
    go_ret
    exact ⟨by rw [hq]; rfl, Below.refl _ w⟩

theorem lex_Same.calls (A0 : Option Addr) (c0 : Nat) (l0 : List S35) (A1 : Option Addr) (c1 : Nat) (l1 : List S35) (r : Bool) (w : World) (hr0 : Kd.C k35 w A0 l0.length l0) (hc0 : l0.length ≤ c0) (hr1 : Kd.C k35 w A1 l1.length l1) (hc1 : l1.length ≤ c1) (h : lex_Same.f l0 l1 = some r) :
    Calls Tryd.prog 21 #[.slice A0 l0.length c0, .slice A1 l1.length c1] w fun e w' => e = .returned (.bool r) ∧ Below w.heap.size w w' := by
  have HE := Aside0.mk (equal_any A0 c0 l0 A1 c1 l1 w hr0 hc0 hr1 hc1)
  unfold lex_Same.f at h
  injection h with h
  rw [h] at HE
  clear hr0 hr1 h
  go_enter Tryd.func21, Tryd.ntmps21
  go_wp2_with (fail)
  refine HE.out.mono ?_
  rintro e w' ⟨rfl, hb⟩
  go_wp2
  go_ret
  exact ⟨rfl, hb⟩
end Go.Proofs.YtomglbjcfcijkaaDoor.PLx
