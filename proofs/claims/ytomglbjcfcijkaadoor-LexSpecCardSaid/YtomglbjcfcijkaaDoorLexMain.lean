/- lex.Lex: THE WALK of its body, and its contract. -/
import Derived.Test.YtomglbjcfcijkaaDoorLexDoor
import Derived.Test.YtomglbjcfcijkaaDoorLexStep
import Derived.Test.YtomglbjcfcijkaaDoorLexLaid
import Derived.Laws.EntriesVeiled
namespace Go.Proofs.YtomglbjcfcijkaaDoor.PLx
open Go.RowKit Go.Proofs.YtomglbjcfcijkaaDoorW.PrintWords Go.Proofs.YtomglbjcfcijkaaDoorW.PrintLast Go.Proofs.YtomglbjcfcijkaaDoorW.PrintMore

def LexPost (w : World) (r1 : List Tok) (r2 r3 : Int) (e : Ending) (w' : World) : Prop :=
  ∃ v0_ : Value, e = .returned (.tuple #[v0_, .int .i64 r2, .int .i64 r3]) ∧ Kd.R k35 35 w' w.heap.size (fun _ => True) v0_ r1 ∧ Below w.heap.size w w'

set_option maxHeartbeats 1000000 in
theorem lex_long (src : ByteArray) (w : World) (hs : 65536 < src.size) :
    Calls Tryd.prog 15 #[.string src] w (LexPost w [] 0 2) := by
  have hmf : ∀ (fn : Fn) (first cap : Array Value) (w : World), (Instr.makeFunc fn first cap).run Tryd.prog w = .ok (.func fn first cap) w := fun _ _ _ _ => rfl
  go_enter_defers Tryd.func15, Tryd.ntmps15
  go_wp2
  all_goals
    simp only [bodyPostD, Leaves]
    refine ⟨_, by simp [results, Tryd.f15, go_sem]; rfl, ?_⟩
    refine ⟨_, rfl, Kd.R_nil _ _ _ _ _, ((((Below.refl _ w).alloc (by simp) _).alloc (by simp) _).alloc (by simp; omega) _)⟩


def placeOf (w : World) (B : Nat) : Nat := match w.cell? ⟨B, 1, none⟩ with | some (.int _ n) => n.toNat | _ => 0
theorem placeOf_SI {B : Nat} {w : World} {src : ByteArray} {p : Nat} {v : Value} {l : List Tok} (h : SI B w src p v l) : placeOf w B = p := by
  unfold placeOf; rw [(cells3 h.blk).2.1]; rfl
def fnOf (k : Int) : Nat := if k = 1 then 36 else if k = 2 then 37 else if k = 3 then 38 else if k = 4 then 39 else 35
def fns : Array Value := #[.func (.func 35) #[] #[], .func (.func 36) #[] #[], .func (.func 37) #[] #[], .func (.func 38) #[] #[], .func (.func 39) #[] #[], .func (.func 35) #[] #[]]
theorem step_any (B : Nat) (src : ByteArray) (p : Nat) (v : Value) (l : List Tok) (w : World) (hL : Laid w) (hs : src.size ≤ 65536) (hp : p < src.size) (hl : l.length ≤ 65536) (hI : SI B w src p v l) :
    Calls Tryd.prog (fnOf (kl src[p])) #[.pointer (some ⟨B, 0, none⟩)] w (Stepped B w src p l) := by
  rcases kl_range src[p] with hk | hk | hk | hk | hk | hk <;> rw [hk]
  · exact step_wrong B src p v l w hp (.inl hk) hI
  · exact step_space B src p v l w hs hp hk hI
  · exact step_name B src p v l w hs hp hk hl hI
  · exact step_number B src p v l w hL hs hp hk hl hI
  · exact step_sign B src p v l w hs hp hk hl hI
  · exact step_wrong B src p v l w hp (.inr hk) hI
/-- Where the lexer stands at the head of a round. -/
structure LInv (H : Nat) (w wr : World) (src : ByteArray) (p : Nat) (v : Value) (l : List Tok) : Prop where
  si : SI (H + 1 + 1 + 1 + 1) wr src p v l
  le : p ≤ src.size
  len : l.length ≤ p
  eq : rest src 0 = prep l (rest src p)
  b0 : wr.heap[H]? = some (.cells #[.slice none 0 0] 23 (0, 0))
  b1 : wr.heap[H + 1]? = some (.cells #[.int .i64 0] 3 (0, 0))
  b2 : wr.heap[H + 1 + 1]? = some (.cells #[.int .i64 0] 24 (0, 0))
  b3 : wr.heap[H + 1 + 1 + 1]? = some (.cells fns 60 (0, 0))
  keep : Below H w wr
theorem LInv.next {H : Nat} {w wr w2 : World} {src : ByteArray} {p q : Nat} {v v' : Value} {l l2 : List Tok} (h : LInv H w wr src p v l) (hb : Below (H + 1 + 1 + 1 + 1) wr w2) (hi : SI (H + 1 + 1 + 1 + 1) w2 src q v' (l ++ l2)) (hpq : p < q) (hq : q ≤ src.size) (hl : l2.length ≤ 1) (hr : rest src p = prep l2 (rest src q)) :
    LInv H w w2 src q v' (l ++ l2) :=
  ⟨hi, hq, by have := h.len; simp; omega, by rw [h.eq, hr, prep_prep], (hb.block _ (by omega)).trans h.b0, (hb.block _ (by omega)).trans h.b1, (hb.block _ (by omega)).trans h.b2, (hb.block _ (by omega)).trans h.b3, h.keep.trans (hb.mono (by omega))⟩
theorem blk_new' {w : World} {n : Nat} (h : n = w.heap.size) (o : Obj) : (w.alloc o).heap[n]? = some o := by subst h; exact blk_new w o
theorem LInv.first (w : World) (src : ByteArray) : LInv w.heap.size w (((((w.alloc (Obj.cells #[Value.slice none 0 0] 23)).alloc (Obj.cells #[Value.int IntKind.i64 0] 3)).alloc
              (Obj.cells #[Value.int IntKind.i64 0] 24)).alloc
          (Obj.cells
            #[Value.func (Fn.func 35) #[] #[], Value.func (Fn.func 36) #[] #[], Value.func (Fn.func 37) #[] #[],
              Value.func (Fn.func 38) #[] #[], Value.func (Fn.func 39) #[] #[], Value.func (Fn.func 35) #[] #[]]
            60)).alloc
      (Obj.cells #[Value.string src, Value.int IntKind.i64 0, Value.slice none 0 0] 63)) src 0 (.slice none 0 0) [] := by
  refine ⟨⟨blk_new' (by simp) _, Kd.R_nil _ _ _ _ _⟩, Nat.zero_le _, Nat.le_refl _, (prep_nil _).symm, ?_, ?_, ?_, ?_, ?_⟩
  · exact blk_alloc (blk_alloc (blk_alloc (blk_alloc (blk_new' rfl _) _) _) _) _
  · exact blk_alloc (blk_alloc (blk_alloc (blk_new' (by simp) _) _) _) _
  · exact blk_alloc (blk_alloc (blk_new' (by simp) _) _) _
  · exact blk_alloc (blk_new' (by simp) _) _
  · exact (((((Below.refl _ w).alloc (by simp) _).alloc (by simp) _).alloc (by simp; omega) _).alloc (by simp; omega) _).alloc (by simp; omega) _
/-- How the lexer ends. -/
def LexRes (r : Except Nat (List Tok)) (w : World) (e : Ending) (w' : World) : Prop :=
  match r with
  | .ok l => LexPost w l 0 0 e w'
  | .error p => LexPost w [] p 90 e w'

theorem leave_err (src : ByteArray) (p : Nat) (w w2 : World) (tmps : Array Value) (t2 : tmps[2]? = some (.pointer (some ⟨w.heap.size, 0, none⟩))) (t3 : tmps[3]? = some (.pointer (some ⟨w.heap.size + 1, 0, none⟩))) (t4 : tmps[4]? = some (.pointer (some ⟨w.heap.size + 1 + 1, 0, none⟩))) (he : rest src 0 = .error p) (h : w2.heap[w.heap.size]? = some (Obj.cells #[Value.slice none 0 0] 23) ∧
      w2.heap[w.heap.size + 1]? = some (Obj.cells #[Value.int IntKind.i64 0] 3) ∧
        w2.heap[w.heap.size + 1 + 1]? = some (Obj.cells #[Value.int IntKind.i64 0] 24) ∧ Below w.heap.size w w2) :
    Leaves Tryd.prog Tryd.f15 tmps (LexRes (rest src 0) w) [{
            target :=
              Target.fn (Fn.func 34)
                #[Value.pointer (some { block := w.heap.size, off := 0 }),
                  Value.pointer (some { block := w.heap.size + 1, off := 0 }),
                  Value.pointer (some { block := w.heap.size + 1 + 1, off := 0 })],
            args := #[] }] (.panicking [{ v := Value.iface 56 (Value.int IntKind.i64 ↑p), recovered := false }]) w2 := by
  obtain ⟨g0, g1, g2, hb⟩ := h
  refine leaves_cons (f := 34) (args := #[.pointer (some ⟨w.heap.size, 0, none⟩), .pointer (some ⟨w.heap.size + 1, 0, none⟩), .pointer (some ⟨w.heap.size + 1 + 1, 0, none⟩)]) (by simp) (by simp [go_sem]) ?_
  refine (catch_panicking w.heap.size (w.heap.size + 1) (w.heap.size + 1 + 1) _ _ _ p [] w2 g0 g1 g2 (by omega) (by omega) (by omega)).mono ?_
  rintro e u' w3 ⟨rfl, rfl, rfl⟩
  have k0 : (((w2.setCell ⟨w.heap.size, 0, none⟩ (.slice none 0 0)).setCell ⟨w.heap.size + 1, 0, none⟩ (.int .i64 p)).setCell ⟨w.heap.size + 1 + 1, 0, none⟩ (.int .i64 90)).drew.cell? ⟨w.heap.size, 0, none⟩ = some (.slice none 0 0) :=
    (blk_cell (blk_far (blk_far (blk_put g0 0 _ rfl) (by simp) _) (by simp; omega) _) 0).trans rfl
  have k1 : (((w2.setCell ⟨w.heap.size, 0, none⟩ (.slice none 0 0)).setCell ⟨w.heap.size + 1, 0, none⟩ (.int .i64 p)).setCell ⟨w.heap.size + 1 + 1, 0, none⟩ (.int .i64 90)).drew.cell? ⟨w.heap.size + 1, 0, none⟩ = some (.int .i64 p) :=
    (blk_cell (blk_far (blk_put (blk_far g1 (by simp) _) 0 _ rfl) (by simp) _) 0).trans rfl
  have k2 : (((w2.setCell ⟨w.heap.size, 0, none⟩ (.slice none 0 0)).setCell ⟨w.heap.size + 1, 0, none⟩ (.int .i64 p)).setCell ⟨w.heap.size + 1 + 1, 0, none⟩ (.int .i64 90)).drew.cell? ⟨w.heap.size + 1 + 1, 0, none⟩ = some (.int .i64 90) :=
    (blk_cell (blk_put (blk_far (blk_far g2 (by simp; omega) _) (by simp) _) 0 _ rfl) 0).trans rfl
  have kb : Below w.heap.size w (((w2.setCell ⟨w.heap.size, 0, none⟩ (.slice none 0 0)).setCell ⟨w.heap.size + 1, 0, none⟩ (.int .i64 p)).setCell ⟨w.heap.size + 1 + 1, 0, none⟩ (.int .i64 90)).drew :=
    (((hb.setCell (p := ⟨w.heap.size, 0, none⟩) (Nat.le_refl _) _).setCell (p := ⟨w.heap.size + 1, 0, none⟩) (by simp) _).setCell (p := ⟨w.heap.size + 1 + 1, 0, none⟩) (by simp; omega) _).drew
  generalize (((w2.setCell ⟨w.heap.size, 0, none⟩ (.slice none 0 0)).setCell ⟨w.heap.size + 1, 0, none⟩ (.int .i64 p)).setCell ⟨w.heap.size + 1 + 1, 0, none⟩ (.int .i64 90)).drew = W at *
  simp only [settle, List.dropWhile_nil, Leaves]
  refine ⟨.tuple #[.slice none 0 0, .int .i64 p, .int .i64 90], by simp [results, Tryd.f15, go_sem, t2, t3, t4, k0, k1, k2], ?_⟩
  rw [he]
  exact ⟨_, rfl, Kd.R_nil _ _ _ _ _, kb⟩

theorem leave_ok (src : ByteArray) (w w2 : World) (A : Option Addr) (c : Nat) (l : List Tok) (tmps : Array Value) (t2 : tmps[2]? = some (.pointer (some ⟨w.heap.size, 0, none⟩))) (t3 : tmps[3]? = some (.pointer (some ⟨w.heap.size + 1, 0, none⟩))) (t4 : tmps[4]? = some (.pointer (some ⟨w.heap.size + 1 + 1, 0, none⟩))) (he : rest src 0 = .ok l)
    (h : w2.heap[w.heap.size]? = some (Obj.cells #[Value.slice none 0 0] 23) ∧
      w2.heap[w.heap.size + 1]? = some (Obj.cells #[Value.int IntKind.i64 0] 3) ∧
        w2.heap[w.heap.size + 1 + 1]? = some (Obj.cells #[Value.int IntKind.i64 0] 24) ∧ Kd.R k35 35 w2 (w.heap.size + 1 + 1 + 1 + 1 + 1) (fun _ => True) (.slice A l.length c) l ∧ Below w.heap.size w w2) :
    Leaves Tryd.prog Tryd.f15 tmps (LexRes (rest src 0) w) [{
            target :=
              Target.fn (Fn.func 34)
                #[Value.pointer (some { block := w.heap.size, off := 0 }),
                  Value.pointer (some { block := w.heap.size + 1, off := 0 }),
                  Value.pointer (some { block := w.heap.size + 1 + 1, off := 0 })],
            args := #[] }] .returning (((w2.setCell { block := w.heap.size, off := 0 } (Value.slice A l.length c)).setCell
          { block := w.heap.size + 1, off := 0 } (Value.int IntKind.i64 0)).setCell
      { block := w.heap.size + 1 + 1, off := 0 } (Value.int IntKind.i64 0)) := by
  obtain ⟨g0, g1, g2, hr, hb⟩ := h
  refine leaves_cons (f := 34) (args := #[.pointer (some ⟨w.heap.size, 0, none⟩), .pointer (some ⟨w.heap.size + 1, 0, none⟩), .pointer (some ⟨w.heap.size + 1 + 1, 0, none⟩)]) (by simp) (by simp [go_sem]) ?_
  refine (catch_idle _ _ _ _).mono ?_
  rintro e u' w3 ⟨rfl, rfl, rfl⟩
  have k0 : (((w2.setCell ⟨w.heap.size, 0, none⟩ (.slice A l.length c)).setCell ⟨w.heap.size + 1, 0, none⟩ (.int .i64 0)).setCell ⟨w.heap.size + 1 + 1, 0, none⟩ (.int .i64 0)).cell? ⟨w.heap.size, 0, none⟩ = some (.slice A l.length c) :=
    (blk_cell (blk_far (blk_far (blk_put g0 0 _ rfl) (by simp) _) (by simp; omega) _) 0).trans rfl
  have k1 : (((w2.setCell ⟨w.heap.size, 0, none⟩ (.slice A l.length c)).setCell ⟨w.heap.size + 1, 0, none⟩ (.int .i64 0)).setCell ⟨w.heap.size + 1 + 1, 0, none⟩ (.int .i64 0)).cell? ⟨w.heap.size + 1, 0, none⟩ = some (.int .i64 0) :=
    (blk_cell (blk_far (blk_put (blk_far g1 (by simp) _) 0 _ rfl) (by simp) _) 0).trans rfl
  have k2 : (((w2.setCell ⟨w.heap.size, 0, none⟩ (.slice A l.length c)).setCell ⟨w.heap.size + 1, 0, none⟩ (.int .i64 0)).setCell ⟨w.heap.size + 1 + 1, 0, none⟩ (.int .i64 0)).cell? ⟨w.heap.size + 1 + 1, 0, none⟩ = some (.int .i64 0) :=
    (blk_cell (blk_put (blk_far (blk_far g2 (by simp; omega) _) (by simp) _) 0 _ rfl) 0).trans rfl
  have kb : Below w.heap.size w (((w2.setCell ⟨w.heap.size, 0, none⟩ (.slice A l.length c)).setCell ⟨w.heap.size + 1, 0, none⟩ (.int .i64 0)).setCell ⟨w.heap.size + 1 + 1, 0, none⟩ (.int .i64 0)) :=
    ((hb.setCell (p := ⟨w.heap.size, 0, none⟩) (Nat.le_refl _) _).setCell (p := ⟨w.heap.size + 1, 0, none⟩) (by simp) _).setCell (p := ⟨w.heap.size + 1 + 1, 0, none⟩) (by simp; omega) _
  have kr : Kd.R k35 35 (((w2.setCell ⟨w.heap.size, 0, none⟩ (.slice A l.length c)).setCell ⟨w.heap.size + 1, 0, none⟩ (.int .i64 0)).setCell ⟨w.heap.size + 1 + 1, 0, none⟩ (.int .i64 0)) w.heap.size (fun _ => True) (.slice A l.length c) l :=
    Kd.R_lower (Kd.R_mono (Kd.R_far (p := ⟨w.heap.size + 1 + 1, 0, none⟩) (Kd.R_far (p := ⟨w.heap.size + 1, 0, none⟩) (Kd.R_far (p := ⟨w.heap.size, 0, none⟩) (Kd.R_mono (Kd.R_bound hr) (ok' := fun k => w.heap.size + 1 + 1 < k) (fun k hk => by have := hk.2.1; omega)) (fun k hk => by simp; omega) _) (fun k hk => by simp; omega) _) (fun k hk => by simp; omega) _) (fun _ _ => trivial)) (by omega)
  generalize (((w2.setCell ⟨w.heap.size, 0, none⟩ (.slice A l.length c)).setCell ⟨w.heap.size + 1, 0, none⟩ (.int .i64 0)).setCell ⟨w.heap.size + 1 + 1, 0, none⟩ (.int .i64 0)) = W at *
  simp only [settle, Leaves]
  refine ⟨.tuple #[.slice A l.length c, .int .i64 0, .int .i64 0], by simp [results, Tryd.f15, go_sem, t2, t3, t4, k0, k1, k2], ?_⟩
  rw [he]
  exact ⟨_, rfl, kr, kb⟩

set_option maxRecDepth 4000 in
set_option maxHeartbeats 2000000 in
theorem lex_main (src : ByteArray) (w : World) (hL : Laid w) (hs : src.size ≤ 65536) :
    Calls Tryd.prog 15 #[.string src] w (LexRes (rest src 0) w) := by
  have hmf : ∀ (fn : Fn) (first cap : Array Value) (w : World), (Instr.makeFunc fn first cap).run Tryd.prog w = .ok (.func fn first cap) w := fun _ _ _ _ => rfl
  have hu58 := Tryd.underlying58
  have hu60 := Tryd.underlying60
  have hu63 := Tryd.underlying63
  have HL := Aside0.mk hL
  clear hL
  go_enter_defers Tryd.func15, Tryd.ntmps15
  go_wp2
  have h0 := LInv.first w src
  generalize (World.alloc (World.alloc (World.alloc (World.alloc (World.alloc w _) _) _) _) _) = W at h0 ⊢
  have H0 := Aside0.mk h0
  clear h0
  go_loopw [] (fun wr => ∃ (p : Nat) (v : Value) (l : List Tok), Aside0 (LInv w.heap.size w wr src p v l)) (fun wr => src.size - placeOf wr (w.heap.size + 1 + 1 + 1 + 1))
  case atStart => exact ⟨_, _, _, H0⟩
  case round =>
    obtain ⟨p, v, l, HI⟩ := hrel
    have hB := blk_lt HI.out.si.blk
    obtain ⟨hc0, hc1, hc2, hf0, hf1, hf2⟩ := cells3 HI.out.si.blk
    by_cases hlt : p < src.size
    · have hLr : Laid wr := HL.out.below HI.out.keep
      have HS := Aside0.mk (step_any (w.heap.size + 1 + 1 + 1 + 1) src p v l wr hLr hs hlt (by have := HI.out.len; omega) HI.out.si)
      clear hLr
      have f0 : wr.cell? ⟨w.heap.size + 1 + 1 + 1, 0, none⟩ = some (.func (.func 35) #[] #[]) := (blk_cell HI.out.b3 0).trans rfl
      have f1 : wr.cell? ⟨w.heap.size + 1 + 1 + 1, 1, none⟩ = some (.func (.func 36) #[] #[]) := (blk_cell HI.out.b3 1).trans rfl
      have f2 : wr.cell? ⟨w.heap.size + 1 + 1 + 1, 2, none⟩ = some (.func (.func 37) #[] #[]) := (blk_cell HI.out.b3 2).trans rfl
      have f3 : wr.cell? ⟨w.heap.size + 1 + 1 + 1, 3, none⟩ = some (.func (.func 38) #[] #[]) := (blk_cell HI.out.b3 3).trans rfl
      have f4 : wr.cell? ⟨w.heap.size + 1 + 1 + 1, 4, none⟩ = some (.func (.func 39) #[] #[]) := (blk_cell HI.out.b3 4).trans rfl
      have f5 : wr.cell? ⟨w.heap.size + 1 + 1 + 1, 5, none⟩ = some (.func (.func 35) #[] #[]) := (blk_cell HI.out.b3 5).trans rfl
      have hk := kl_range src[p]
      rcases hk with hk | hk | hk | hk | hk | hk
      all_goals
        rw [hk] at HS
        have HK := Aside0.mk hk
        clear hk
        go_wp2_with (go_at_call 40; refine (class_byte _ _).mono ?_; rintro e w' ⟨rfl, rfl⟩; simp only [HK.out])
        refine HS.out.mono ?_
        clear hc0 hc1 hc2 hf0 hf1 hf2 f0 f1 f2 f3 f4 f5 HS HK
        rintro e w2 ⟨hb, ⟨rfl, q, v', l2, hI2, hpq, hq, hl2, hr⟩ | ⟨rfl, hr⟩⟩
        · have HN := Aside0.mk (HI.out.next hb hI2 hpq hq hl2 hr)
          have hm1 := placeOf_SI HI.out.si
          have hm2 := placeOf_SI hI2
          clear hb hI2 hr
          go_wp2
          go_roundw
          case rel => exact ⟨q, v', l ++ l2, HN⟩
          case measure => rw [hm1, hm2]; omega
        · have HE := Aside0.mk (show rest src 0 = .error p by rw [HI.out.eq, hr]; rfl)
          have g0 := (hb.block _ (by omega)).trans HI.out.b0
          have g1 := (hb.block _ (by omega)).trans HI.out.b1
          have g2 := (hb.block _ (by omega)).trans HI.out.b2
          have HG := Aside0.mk (And.intro g0 (And.intro g1 (And.intro g2 (HI.out.keep.trans (hb.mono (by omega))))))
          clear g0 g1 g2 hb hr
          go_wp2
          exact leave_err src p w w2 _ rfl rfl rfl HE.out HG.out
    · obtain ⟨A, c, rfl⟩ := Kd.R_slice HI.out.si.row
      have hpe : p = src.size := by have := HI.out.le; omega
      have HE := Aside0.mk (show rest src 0 = .ok l by rw [HI.out.eq, rest_end src p (by omega)]; simp [prep])
      have g0 : wr.frozen? ⟨w.heap.size, 0, none⟩ = false := blk_frozen HI.out.b0 0
      have g1 : wr.frozen? ⟨w.heap.size + 1, 0, none⟩ = false := blk_frozen HI.out.b1 0
      have g2 : wr.frozen? ⟨w.heap.size + 1 + 1, 0, none⟩ = false := blk_frozen HI.out.b2 0
      have k0 : wr.cell? ⟨w.heap.size, 0, none⟩ = some (.slice none 0 0) := (blk_cell HI.out.b0 0).trans rfl
      have k1 : wr.cell? ⟨w.heap.size + 1, 0, none⟩ = some (.int .i64 0) := (blk_cell HI.out.b1 0).trans rfl
      have k2 : wr.cell? ⟨w.heap.size + 1 + 1, 0, none⟩ = some (.int .i64 0) := (blk_cell HI.out.b2 0).trans rfl
      go_wp2
      exact leave_ok src w wr A c l _ rfl rfl rfl HE.out ⟨HI.out.b0, HI.out.b1, HI.out.b2, HI.out.si.row, HI.out.keep⟩

theorem lex_Lex.calls (a0 : ByteArray) (r1 : List S35) (r2 : Int) (r3 : Int) (w : World) (hL : Laid w) (h : lex_Lex.f a0 = some (r1, r2, r3)) :
    Calls Tryd.prog 15 #[.string a0] w fun e w' => ∃ v0_ : Value, e = .returned (.tuple #[v0_, .int .i64 r2, .int .i64 r3]) ∧ Kd.R k35 35 w' w.heap.size (fun _ => True) v0_ r1 ∧ Below w.heap.size w w' := by
  unfold lex_Lex.f at h
  split at h
  · rename_i hs
    injection h with h
    injection h with h1 h
    injection h with h2 h3
    subst h1; subst h2; subst h3
    exact lex_long a0 w hs
  · rename_i hs
    have hm := lex_main a0 w hL (by omega)
    rw [show rest a0 0 = lexOf a0.data.toList from rfl] at hm
    split at h
    all_goals
      rename_i hq
      rw [hq] at hm
      injection h with h
      injection h with h1 h
      injection h with h2 h3
      subst h1; subst h2; subst h3
      exact hm
end Go.Proofs.YtomglbjcfcijkaaDoor.PLx
