/- THE SCANNER's METHODS add, wrong and space by their contracts. -/
import Derived.Test.YtomglbjcfcijkaaDoorLexRun
import Derived.Test.YtomglbjcfcijkaaDoorLexVal
import Derived.Outline
import Derived.Deep.RegionLaw
namespace Go.Proofs.YtomglbjcfcijkaaDoor.PLx
open Go.RowKit Go.Proofs.YtomglbjcfcijkaaDoorW.PrintWords Go.Proofs.YtomglbjcfcijkaaDoorW.PrintLast Go.Proofs.YtomglbjcfcijkaaDoorW.PrintMore

/-- The scanner lies in block B: what it has read so far, and the tokens. -/
structure SI (B : Nat) (w : World) (src : ByteArray) (p : Nat) (v : Value) (l : List Tok) : Prop where
  blk : w.heap[B]? = some (.cells #[.string src, .int .i64 p, v] 63 (0, 0))
  row : Kd.R k35 35 w (B + 1) (fun _ => True) v l
theorem cells3 {w : World} {B : Nat} {a b c : Value} {T : Nat} (h : w.heap[B]? = some (.cells #[a, b, c] T (0, 0))) :
    w.cell? ⟨B, 0, none⟩ = some a ∧ w.cell? ⟨B, 1, none⟩ = some b ∧ w.cell? ⟨B, 2, none⟩ = some c ∧ w.frozen? ⟨B, 0, none⟩ = false ∧ w.frozen? ⟨B, 1, none⟩ = false ∧ w.frozen? ⟨B, 2, none⟩ = false := by
  simp [World.cell?, World.frozen?, h]
theorem R_base_ne {α : Type} {d : Kd α} {e : Nat} {w : World} {b : Nat} {ok : Nat → Prop} {v : Value} {xs : List α} (h : d.R e w (b + 1) ok v xs) (j : Nat) (u : Value) : d.R e (w.setCell ⟨b, j, none⟩ u) (b + 1) ok v xs :=
  Kd.R_mono (Kd.R_far (p := ⟨b, j, none⟩) (Kd.R_mono (Kd.R_bound h) (ok' := fun k => ok k ∧ k ≠ b) (fun k hk => ⟨hk.1, by have := hk.2.1; omega⟩)) (fun k hk => hk.2) u) (fun _ hk => hk.1)
/-- A token is stored: the row, then the place. -/
theorem SI.put {B : Nat} {w : World} {src : ByteArray} {p q : Nat} {q' : Int} {v v1 : Value} {l : List Tok} (hq : q' = (q : Int)) (hb : w.heap[B]? = some (.cells #[.string src, .int .i64 p, v] 63 (0, 0))) (hr : Kd.R k35 35 w (B + 1) (fun _ => True) v1 l) :
    SI B ((w.setCell ⟨B, 2, none⟩ v1).setCell ⟨B, 1, none⟩ (.int .i64 q')) src q v1 l :=
  hq ▸ ⟨blk_put (blk_put hb 2 _ rfl) 1 _ rfl, R_base_ne (R_base_ne hr _ _) _ _⟩
set_option maxHeartbeats 1000000 in
theorem add_ok (B : Nat) (src : ByteArray) (p : Nat) (v : Value) (l : List Tok) (s : ByteArray) (t : Tok) (w : World) (hv : validT t = true) (hts : t.f1.size ≤ 65536) (hs : src.size ≤ 65536) (hp : p + s.size ≤ src.size) (hl : l.length ≤ 65536) (hI : SI B w src p v l) :
    Calls Tryd.prog 69 #[.pointer (some ⟨B, 0, none⟩), .string s, .agg #[.int .i64 t.f0, .string t.f1, .int .i64 t.f2, .int .i64 t.f3]] w fun e w' => e = .returned (.tuple #[]) ∧ (∃ v', SI B w' src (p + s.size) v' (l ++ [⟨t.f0, t.f1, t.f2, p⟩])) ∧ Below B w w' := by
  obtain ⟨hb, hr⟩ := hI
  have hB : B < w.heap.size := blk_lt hb
  have HBK := Aside0.mk hb
  have HR := Aside0.mk hr
  have HV := Aside0.mk hv
  clear hb hr hv
  go_enter Tryd.func69, Tryd.ntmps69
  go_wp2_with (fail)
  refine (valid_any t (by omega) _).mono ?_
  rintro e w1 ⟨rfl, hb1⟩
  simp only [HV.out]
  have x0 : w1.heap[B]? = some (.cells #[.string src, .int .i64 p, v] 63 (0, 0)) := blk_below (blk_alloc HBK.out _) hb1
  have x1 : w1.heap[w.heap.size]? = some (.cells #[.int .i64 t.f0, .string t.f1, .int .i64 t.f2, .int .i64 t.f3] 35 (0, 0)) := blk_below (blk_new w _) hb1
  have x2 : Kd.R k35 35 (w1.setCell ⟨w.heap.size, 3, none⟩ (.int .i64 p)) (B + 1) (fun _ => True) v l :=
    Kd.R_mono (Kd.R_far (p := ⟨w.heap.size, 3, none⟩) (Kd.R_below (Kd.R_alloc (Kd.R_mono (Kd.R_bound HR.out) (ok' := fun k => k ≠ w.heap.size) (fun k hk => by have := hk.2.2.1; omega)) _) hb1) (fun k hk => hk) _) (fun _ _ => trivial)
  have x3 : Below B w w1 := ((Below.refl B w).alloc (by omega) _).trans (hb1.mono (by simp; omega))
  obtain ⟨-, hc1, -, -, -, -⟩ := cells3 x0
  have hc3 : w1.cell? ⟨w.heap.size, 3, none⟩ = some (.int .i64 t.f3) := (blk_cell x1 3).trans rfl
  have hf3 : w1.frozen? ⟨w.heap.size, 3, none⟩ = false := blk_frozen x1 3
  have hW : (w1.setCell ⟨w.heap.size, 3, none⟩ (.int .i64 p)).heap[B]? = some (.cells #[.string src, .int .i64 p, v] 63 (0, 0)) ∧
      (w1.setCell ⟨w.heap.size, 3, none⟩ (.int .i64 p)).heap[w.heap.size]? = some (.cells #[.int .i64 t.f0, .string t.f1, .int .i64 t.f2, .int .i64 p] 35 (0, 0)) ∧
      Kd.R k35 35 (w1.setCell ⟨w.heap.size, 3, none⟩ (.int .i64 p)) (B + 1) (fun _ => True) v l ∧ Below B w (w1.setCell ⟨w.heap.size, 3, none⟩ (.int .i64 p)) ∧ B < (w1.setCell ⟨w.heap.size, 3, none⟩ (.int .i64 p)).heap.size :=
    ⟨blk_far x0 (by simp; omega) _, blk_put x1 3 _ rfl, x2, x3.setCell (p := ⟨w.heap.size, 3, none⟩) (by simp; omega) _, by have := blk_lt x0; simpa using this⟩
  clear x0 x1 x2 x3 hb1
  have HW := Aside0.mk hW
  clear hW
  go_wp2_with (fail)
  generalize w1.setCell ⟨w.heap.size, 3, none⟩ (.int .i64 p) = W at HW ⊢
  obtain ⟨hWB, hWH, hWR, hWb, hWs⟩ := HW.out
  clear HW hc1 hc3 hf3
  have k0 : W.cell? ⟨w.heap.size, 0, none⟩ = some (.int .i64 t.f0) := (blk_cell hWH 0).trans rfl
  have k1 : W.cell? ⟨w.heap.size, 1, none⟩ = some (.string t.f1) := (blk_cell hWH 1).trans rfl
  have k2 : W.cell? ⟨w.heap.size, 2, none⟩ = some (.int .i64 t.f2) := (blk_cell hWH 2).trans rfl
  have k3 : W.cell? ⟨w.heap.size, 3, none⟩ = some (.int .i64 p) := (blk_cell hWH 3).trans rfl
  obtain ⟨j0, j1, j2, -, -, -⟩ := cells3 hWB
  have HWR := Aside0.mk hWR
  have HWb := Aside0.mk hWb
  have HWB := Aside0.mk hWB
  clear hWR hWb hWB hWH
  go_region_law (refine Kd.R_append_step (W := W.drew) k35 (B + 1) (by simp [Region.wanted]) (.tmp 23) (.tmp 25) 23 35 (.agg #[(.int .i64 0), (.string ⟨#[]⟩), (.int .i64 0), (.int .i64 0)]) 40 (by rfl) Tryd.underlying23 info35 (by rfl) (by decide) (by decide) v l ⟨t.f0, t.f1, t.f2, p⟩ [.int .i64 t.f0, .string t.f1, .int .i64 t.f2, .int .i64 p] (fun _ => True) (fun _ => False) (by simp [Act.eval]) (by simp [Act.eval]) (k35_mkM _ _ _ (⟨t.f0, t.f1, t.f2, p⟩ : S35)) (fun _ h => h.elim) (fun _ _ => trivial) (Kd.R_drew HWR.out) (Below.refl _ _) (Nat.succ_le_of_lt hWs) (by omega) ?_; intro v1 w2 ho1 hb2 hg2 hat2; obtain ⟨A1, n1, hv1⟩ := Kd.R_slice ho1; subst hv1; obtain ⟨d0, d1, d2, e0, e1, e2⟩ := cells3 (hb2.block B (Nat.lt_succ_self B) |>.trans HWB.out); have HO1 := Aside0.mk ho1; have HB2 := Aside0.mk hb2; clear ho1 hb2 hg2 hat2)
  go_wp2
  all_goals
    go_end0
    have h9 := HO1.out
    rw [List.length_append, List.length_singleton] at h9
    refine ⟨rfl, ⟨_, SI.put (by omega) (HB2.out.block B (Nat.lt_succ_self B) |>.trans HWB.out) h9⟩, ?_⟩
    exact ((HWb.out.drew.trans (HB2.out.mono (Nat.le_succ B))).setCell (p := ⟨B, 2, none⟩) (Nat.le_refl _) _).setCell (p := ⟨B, 1, none⟩) (Nat.le_refl _) _

theorem add_bad (B : Nat) (src : ByteArray) (p : Nat) (v : Value) (l : List Tok) (s : ByteArray) (t : Tok) (w : World) (hv : validT t = false) (hts : t.f1.size ≤ 65536) (hI : SI B w src p v l) :
    Calls Tryd.prog 69 #[.pointer (some ⟨B, 0, none⟩), .string s, .agg #[.int .i64 t.f0, .string t.f1, .int .i64 t.f2, .int .i64 t.f3]] w fun e w' => e = .panicked [{ v := .iface 56 (.int .i64 p), recovered := false }] ∧ Below B w w' := by
  obtain ⟨hb, hr⟩ := hI
  have hB : B < w.heap.size := blk_lt hb
  have HBK := Aside0.mk hb
  have HV := Aside0.mk hv
  clear hb hr hv
  go_enter Tryd.func69, Tryd.ntmps69
  go_wp2_with (fail)
  refine (valid_any t (by omega) _).mono ?_
  rintro e w1 ⟨rfl, hb1⟩
  simp only [HV.out]
  obtain ⟨-, hc1, -, -, -, -⟩ := cells3 (blk_below (blk_alloc HBK.out _) hb1)
  have H1 := Aside0.mk hb1
  clear hb1
  go_wp2
  exact ⟨rfl, rfl, ((Below.refl B w).alloc (by omega) _).trans (H1.out.mono (by simp; omega))⟩

theorem wrong_any (B : Nat) (src : ByteArray) (p : Nat) (v : Value) (l : List Tok) (w : World) (hI : SI B w src p v l) :
    Calls Tryd.prog 35 #[.pointer (some ⟨B, 0, none⟩)] w fun e w' => e = .panicked [{ v := .iface 56 (.int .i64 p), recovered := false }] ∧ Below B w w' := by
  obtain ⟨hb, hr⟩ := hI
  obtain ⟨-, hc1, -, -, -, -⟩ := cells3 hb
  clear hb hr
  go_enter Tryd.func35, Tryd.ntmps35
  go_wp2
  exact ⟨rfl, rfl, Below.refl B w⟩

theorem SI.drew {B : Nat} {w : World} {src : ByteArray} {p : Nat} {v : Value} {l : List Tok} (h : SI B w src p v l) (n : Nat) : SI B (w.drewN n) src p v l := ⟨h.blk, Kd.R_drewN h.row n⟩
theorem SI.drew1 {B : Nat} {w : World} {src : ByteArray} {p : Nat} {v : Value} {l : List Tok} (h : SI B w src p v l) : SI B w.drew src p v l := ⟨h.blk, Kd.R_drew h.row⟩
theorem wrap_in (n : Int) (h : 0 ≤ n ∧ n ≤ 1099511627776) : IntKind.i64.wrap n = n := by rw [IntKind.wrap_i64]; omega
theorem SI.alloc {B : Nat} {w : World} {src : ByteArray} {p : Nat} {v : Value} {l : List Tok} (h : SI B w src p v l) (o : Obj) : SI B (w.alloc o) src p v l := ⟨blk_alloc h.blk o, Kd.R_alloc h.row o⟩
theorem SI.at_ {B : Nat} {w : World} {src : ByteArray} {p q : Nat} {q' : Int} {v : Value} {l : List Tok} (hq : q' = (q : Int)) (h : SI B w src p v l) : SI B (w.setCell ⟨B, 1, none⟩ (.int .i64 q')) src q v l := hq ▸ ⟨blk_put h.blk 1 _ rfl, R_base_ne h.row _ _⟩

/-- The classes that a call hands over: a row that was just made. -/
theorem lit_C (W : World) (xs : List Int) (hx : xs.length ≤ 10) : Kd.C (Kd.int .i64) (W.alloc (.cells (nums .i64 xs).toArray 3)) (some ⟨W.heap.size, 0, none⟩) xs.length xs := by
  obtain ⟨A, c, he, hr⟩ := own_reads (own_lit W 0 3 .i64 xs (Nat.zero_le _) (by omega))
  injection he with he _ _
  subst he
  exact Kd.C_of_reads (d := (0 : Int)) (h1 := fun _ => rfl) hr
theorem run_size (src : ByteArray) (ls : List Int) (p : Nat) (hp : p ≤ src.size) : runEnd src ls p ≤ src.size ∧ p ≤ runEnd src ls p := by
  unfold runEnd
  have := (List.takeWhile_sublist (fun c => ls.contains (kl c)) (l := src.data.toList.drop p)).length_le
  rw [List.length_drop, size_data] at this
  omega
theorem extract_size (src : ByteArray) (a b : Nat) (h : b ≤ src.size) : (src.extract a b).size = b - a := by
  rw [ByteArray.size_extract]; omega
set_option maxHeartbeats 4000000 in
theorem space_any (B : Nat) (src : ByteArray) (p : Nat) (v : Value) (l : List Tok) (w : World) (hs : src.size ≤ 65536) (hp : p ≤ src.size) (hI : SI B w src p v l) :
    Calls Tryd.prog 36 #[.pointer (some ⟨B, 0, none⟩)] w fun e w' => e = .returned (.tuple #[]) ∧ SI B w' src (runEnd src [1] p) v l ∧ Below B w w' := by
  have hB : B < w.heap.size := blk_lt hI.blk
  obtain ⟨hc0, hc1, -, hf0, hf1, -⟩ := cells3 hI.blk
  have HI := Aside0.mk hI
  clear hI
  go_enter Tryd.func36, Tryd.ntmps36
  go_wp2
  have hrs := run_size src [1] p hp
  have hes := extract_size src p (runEnd src [1] p) hrs.1
  generalize hre : runEnd src [1] p = q at hrs hes
  generalize hex : src.extract p q = x at hes
  have hx1 : x.size ≤ q - p := by omega
  have hx2 : q - p ≤ x.size := by omega
  have HE := Aside0.mk hes
  have HX := Aside0.mk (show src.extract p (runEnd src [1] p) = x by rw [hre, hex])
  have HR := Aside0.mk hre
  clear hes hre hex
  have hcall : ∀ u : Value, u = .slice (some ⟨w.heap.size, 0, none⟩) 1 1 → Calls Tryd.prog 68 #[.pointer (some ⟨B, 0, none⟩), u] (World.drew (w.alloc (.cells #[.int .i64 1] 3))) fun e w' => e = .returned (.string x) ∧ Drawn0 (World.drew (w.alloc (.cells #[.int .i64 1] 3))) w' := by
    rintro _ rfl
    have := run_any B src p v (some ⟨w.heap.size, 0, none⟩) 1 [1] (World.drew (w.alloc (.cells #[.int .i64 1] 3))) (HI.out.alloc _).blk hp hs (Kd.C_drew (lit_C w [1] (by decide))) (Nat.le_refl _) (by decide)
    rw [HX.out] at this
    exact this
  have HC := Aside0.mk (hcall _ rfl)
  clear hcall
  go_region_with (go_at_call 68; refine HC.out.mono ?_; rintro e w2 ⟨rfl, ⟨nd, rfl⟩⟩)
  all_goals
    go_end0
    refine ⟨rfl, ?_, ?_⟩
    · rw [HR.out]
      refine SI.at_ ?_ (by repeat (first | exact HI.out | apply SI.drew | apply SI.drew1 | apply SI.alloc))
      rw [wrap_in _ (by omega)]
      omega
    · refine Below.setCell (p := ⟨B, 1, none⟩) ?_ (Nat.le_refl _) _
      repeat (first | exact Below.refl _ _ | apply pw_below_drewN | apply below_drew1 | refine Below.alloc ?_ (Nat.le_of_lt hB) _)
end Go.Proofs.YtomglbjcfcijkaaDoor.PLx
