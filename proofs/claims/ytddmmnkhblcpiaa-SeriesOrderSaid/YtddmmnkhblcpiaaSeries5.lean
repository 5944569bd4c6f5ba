/- A series of the call's own, as the laws use it; awake; SeriesNil. -/
import Derived.Test.YtddmmnkhblcpiaaSeries4
import Derived.Test.YtddmmnkhblcpiaaOpen
namespace Go.Proofs.Ytddmmnkhblcpiaa
open Go.RowKit
def Span.wf (a : Span) : Prop := (Lit.int .i64 a.lo).wf = true ∧ (Lit.int .i64 a.hi).wf = true
theorem open_Span {H : Type} {enc : TypeId × Value → H} {w : World} {spare : Nat → Bool} {held : Bool} (n : Nat) (cs : List Value) (d : DataW H × List MemPlace) (h : DataW.trod enc Try.prog w 0 spare held n 35 cs = some d) : ∃ a : Span, cs = a.cells ∧ a.wf := by
  obtain ⟨xs, m, rfl, _, hlen, hxs, hf⟩ := DataW.trod_struct Try.underlying35 h
  have hl : cs.length = 2 := hlen.trans (by kernel_rfl)
  have hx : xs.length = 2 := hxs
  have g0 := hf 0 _ rfl
  rw [show Try.prog.cellsOf _ = 1 from by kernel_rfl, List.getElem?_eq_getElem (show 0 < xs.length by omega)] at g0
  have g1 := hf 1 _ rfl
  rw [show Try.prog.cellsOf _ = 1 from by kernel_rfl, List.getElem?_eq_getElem (show 1 < xs.length by omega)] at g1
  match cs, hl with
  | [c0, c1], _ =>
    obtain ⟨a0, e0, _, w0⟩ := DataW.trod_int Try.underlying3 g0
    simp at e0
    subst e0
    obtain ⟨a1, e1, _, w1⟩ := DataW.trod_int Try.underlying3 g1
    simp at e1
    subst e1
    exact ⟨⟨a0, a1⟩, rfl, w0, w1⟩
/-- A series in the call's own memory. -/
def SerIn (B : Nat) (w0 w : World) (b : Nat) (v : Value) (f : Int) (L : List Turn) : Prop := SerAt w b v f L ∧ (∀ k, Foot b v k → B ≤ k) ∧ Below B w0 w ∧ B ≤ w0.heap.size
theorem SerAt.keeps {S : Nat → Prop} {w w' : World} {b : Nat} {v : Value} {f : Int} {L : List Turn} (h : SerAt w b v f L) (hk : Keeps S w w') (hS : ∀ k, Foot b v k → ¬ S k) : SerAt w' b v f L :=
  ⟨by rw [hk.block b (lt_of_block h.blk) (hS b (.inl rfl))]; exact h.blk, hk.row h.row fun k hk => hS k (.inr hk), h.ok, h.fb⟩
theorem SerAt.lt {w : World} {b : Nat} {v : Value} {f : Int} {L : List Turn} (h : SerAt w b v f L) : ∀ k, Foot b v k → k < w.heap.size := by
  rintro k (rfl | hk)
  · exact lt_of_block h.blk
  · exact (h.row.lt k hk).2
theorem SerIn.step {B : Nat} {w0 w w' : World} {b : Nat} {v : Value} {f : Int} {L : List Turn} (h : SerIn B w0 w b v f L) (hk : Keeps (fun _ => False) w w') : SerIn B w0 w' b v f L :=
  ⟨h.1.keeps hk (by simp), h.2.1, Below.keeps h.2.2.1 hk (by simp) h.2.2.2, h.2.2.2⟩
theorem SerIn.post {B : Nat} {w0 w w' : World} {b : Nat} {v : Value} {f : Int} {L L' : List Turn} {r : Value} {e : Ending} (h : SerIn B w0 w b v f L) (hp : SerPost w b v f L' r e w') : e = .returned r ∧ ∃ v', SerIn B w0 w' b v' f L' ∧ Keeps (Foot b v) w w' := by
  obtain ⟨he, v', h1, h2, h3⟩ := hp
  refine ⟨he, v', ⟨h1, fun k hk => ?_, Below.keeps h.2.2.1 h2 h.2.1 h.2.2.2, h.2.2.2⟩, h2⟩
  rcases h3 k hk with h4 | h4
  · exact h.2.1 k h4
  · have := h.2.2.1.size; have := h.2.2.2; omega
theorem serNew_in {B : Nat} {w0 w : World} (f : Int) (h : Below B w0 w) (hB : B ≤ w0.heap.size) : Calls Try.prog 7 #[.int .i64 f] w fun e w' => e = .returned (.pointer (some ⟨w.heap.size, 0, none⟩)) ∧ SerIn B w0 w' w.heap.size (.slice none 0 0) (clampT f) [] ∧ Keeps (fun _ => False) w w' := by
  refine (serNew_any f w).mono ?_
  rintro e w' ⟨rfl, rfl⟩
  have hk : Keeps (fun _ => False) w (w.alloc (.cells #[.int .i64 (clampT f), .slice none 0 0] 52)) := Keeps.alloc _ _
  refine ⟨rfl, ⟨⟨heap_alloc_new w _, World.ownsRow_nil _ _ _ _, ⟨List.Pairwise.nil, by simp⟩, by unfold clampT; omega⟩, fun k hk => ?_, Below.keeps h hk (by simp) hB, hB⟩, hk⟩
  rcases hk with rfl | hk
  · exact Nat.le_trans hB h.size
  · simp [Value.ownBlock] at hk
theorem serSet_in {B : Nat} {w0 w : World} {b : Nat} {v : Value} {f : Int} {L : List Turn} (h : SerIn B w0 w b v f L) (d a : Int) (hl : L.length ≤ 99999) (hd : d ≤ 9223372036854775807) (L' : List Turn) (n : Int) (h1 : serSetL f L d a = L') (h2 : setErr f d a = n) :
    Calls Try.prog 9 #[(.pointer (some ⟨b, 0, none⟩)), .int .i64 d, .int .i64 a] w fun e w' => e = .returned (.int .i64 n) ∧ ∃ v', SerIn B w0 w' b v' f L' ∧ Keeps (Foot b v) w w' := by
  subst h1 h2
  exact (serSet_any d a b v f L w h.1 hl hd).mono fun _ _ hp => h.post hp
theorem serSum_in {B : Nat} {w0 w : World} {b : Nat} {v : Value} {f : Int} {L : List Turn} (h : SerIn B w0 w b v f L) (x y : Int) (hl : L.length ≤ 100000) (h1 : -9223372036854775808 ≤ x) (h2 : y ≤ 9223372036854775807) (s n : Int) (hs : sumVal L x y = s) (hn : sumErr L x y = n) :
    Calls Try.prog 10 #[(.pointer (some ⟨b, 0, none⟩)), .agg #[.int .i64 x, .int .i64 y]] w fun e w' => e = .returned (.tuple #[.int .i64 s, .int .i64 n]) ∧ SerIn B w0 w' b v f L ∧ Keeps (fun _ => False) w w' := by
  subst hs hn
  exact (serSum_any x y b v f L w h.1 hl h1 h2).mono fun _ _ hp => ⟨hp.1, h.step hp.2, hp.2⟩
theorem serOn_in {B : Nat} {w0 w : World} {b : Nat} {v : Value} {f : Int} {L : List Turn} (h : SerIn B w0 w b v f L) (d : Int) (hl : L.length ≤ 100000) (s : Int) (hs : onT L d = s) : Calls Try.prog 11 #[(.pointer (some ⟨b, 0, none⟩)), .int .i64 d] w fun e w' => e = .returned (.int .i64 s) ∧ w = w' := by
  subst hs; exact serOn_any d b v f L w h.1 hl
set_option maxRecDepth 100000 in
set_option maxHeartbeats 400000 in
theorem awake12_any (w : World) : Calls Try.prog 8 #[] w fun e w' => e = .returned (.bool true) ∧ Keeps (fun _ => False) w w' := by
  go_enter Try.func8, Try.ntmps8
  go_wp2_with (go_at_call 7; refine (serNew_in 0 (Below.refl w.heap.size w) (Nat.le_refl _)).mono ?_; rintro e w1 ⟨rfl, hb1, _⟩; have Hb1 := Lib.hid hb1; clear hb1)
  go_wp2_with fail
  refine (serSet_in Hb1.out 1 5 (by simp) (by omega) [⟨1, 5⟩] 0 (by decide) (by decide)).mono ?_
  rintro e w2 ⟨rfl, v2, hb2, _⟩
  have Hb2 := Lib.hid hb2; clear hb2
  go_wp2_with fail
  refine (serSet_in Hb2.out 3 7 (by simp) (by omega) [⟨1, 5⟩, ⟨3, 7⟩] 0 (by decide) (by decide)).mono ?_
  rintro e w3 ⟨rfl, v3, hb3, _⟩
  have Hb3 := Lib.hid hb3; clear hb3
  go_wp2_with (go_at_call 10; refine (serSum_in Hb3.out 1 3 (by simp) (by omega) (by omega) 17 0 (by decide) (by decide)).mono ?_; rintro e w4 ⟨rfl, hb4, _⟩; have Hb4 := Lib.hid hb4; clear hb4)
  go_ret
  exact ⟨rfl, (Keeps.of_below Hb4.out.2.2.1).mono (fun k hk hh => by omega)⟩
set_option maxRecDepth 100000 in
set_option maxHeartbeats 800000 in
theorem seriesNil_walk (w : World) (day : Int) (hday : (Lit.int .i64 day).wf = true) (v : Int) (_ : (Lit.int .i64 v).wf = true) (sp : Span) (_ : sp.wf) :
    Calls Try.prog 6 #[.int .i64 day, .int .i64 v, .agg #[.int .i64 sp.lo, .int .i64 sp.hi]] w fun e w' => e = .returned (.bool true) ∧ Below w.heap.size w w' := by
  obtain ⟨slo, shi⟩ := sp
  go_enter Try.func6, Try.ntmps6
  go_wp2_with (first
    | (go_at_call 10; refine (serSum_nil _ _ _).mono ?_; rintro e w1 ⟨rfl, hk1⟩; have Hk1 := Lib.hid hk1; clear hk1)
    | (go_at_call 8; refine (awake12_any _).mono ?_; rintro e w2 ⟨rfl, hk2⟩; have Hk2 := Lib.hid hk2; clear hk2)
    | (go_at_call 9; refine (serSet_nil _ _ _).mono ?_; rintro e w3 ⟨rfl, rfl⟩)
    | (go_at_call 11; refine (serOn_nil _ _).mono ?_; rintro e w4 ⟨rfl, rfl⟩)
    | (go_at_call 17; refine (serChanges_nil _).mono ?_; rintro e w5 ⟨rfl, rfl⟩))
  go_ret
  have hk : Keeps (fun _ => False) w w2 := (Keeps.alloc w _).trans ((Hk1.out.trans (Hk2.out.mono fun _ _ h => h.elim)).mono fun _ _ h => h.elim)
  exact ⟨rfl, hk.below (by simp) (Nat.le_refl _)⟩
end Go.Proofs.Ytddmmnkhblcpiaa
