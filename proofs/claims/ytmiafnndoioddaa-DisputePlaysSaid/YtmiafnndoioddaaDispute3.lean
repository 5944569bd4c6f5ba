/- A book of the call's own: the contracts of the dispute layer, as the laws use them; awake. -/
import Derived.Test.YtmiafnndoioddaaDispute2
import Derived.Test.YtmiafnndoioddaaKit2
namespace Go.Proofs.Ytmiafnndoioddaa
open Go.RowKit
/-- A book that lies in the call's own memory (from block B on); below it all is as it was in w0. -/
def BookIn (B : Nat) (w0 w : World) (b : Nat) (v : Value) (L : List Disp) : Prop := BookAt w b v L ∧ (∀ k, Foot b v k → B ≤ k) ∧ Below B w0 w ∧ B ≤ w0.heap.size
theorem BookIn.step {B : Nat} {w0 w w' : World} {b : Nat} {v : Value} {L : List Disp} (h : BookIn B w0 w b v L) (hk : Keeps (fun _ => False) w w') : BookIn B w0 w' b v L :=
  ⟨h.1.keeps hk (by simp), h.2.1, Below.keeps h.2.2.1 hk (by simp) h.2.2.2, h.2.2.2⟩
theorem BookIn.post {B : Nat} {w0 w w' : World} {b : Nat} {v : Value} {L L' : List Disp} {r : Value} {e : Ending} (h : BookIn B w0 w b v L) (hp : BookPost w b v L' r e w') : e = .returned r ∧ ∃ v', BookIn B w0 w' b v' L' ∧ Keeps (Foot b v) w w' := by
  obtain ⟨he, v', h1, h2, h3⟩ := hp
  refine ⟨he, v', ⟨h1, fun k hk => ?_, Below.keeps h.2.2.1 h2 h.2.1 h.2.2.2, h.2.2.2⟩, h2⟩
  rcases h3 k hk with h4 | h4
  · exact h.2.1 k h4
  · have := h.2.2.1.size; have := h.2.2.2; omega
theorem dispNew_in {B : Nat} {w0 w : World} (h : Below B w0 w) (hB : B ≤ w0.heap.size) : Calls Try.prog 7 #[] w fun e w' => e = .returned (.pointer (some ⟨w.heap.size, 0, none⟩)) ∧ BookIn B w0 w' w.heap.size (.slice none 0 0) [] ∧ Keeps (fun _ => False) w w' := by
  refine (dispNew_any w).mono ?_
  rintro e w' ⟨rfl, hb, hk⟩
  refine ⟨rfl, ⟨hb, fun k hk => ?_, Below.keeps h hk (by simp) hB, hB⟩, hk⟩
  rcases hk with rfl | hk
  · exact Nat.le_trans hB h.size
  · simp [Value.ownBlock] at hk
theorem dispOpen_in {t d a : Int} {L : List Disp} {B : Nat} {v : Value} {b : Nat} {w0 w : World} (h : BookIn B w0 w b v L) (L' : List Disp) (r n : Int) (h1 : dOpen L t d a = L') (h2 : dOpenRef L t a = r) (h3 : dOpenErr L t a = n) :
    Calls Try.prog 9 #[(.pointer (some ⟨b, 0, none⟩)), .int .i64 t, .int .i64 d, .int .i64 a] w fun e w' => e = .returned (.tuple #[.int .i64 r, .int .i64 n]) ∧ ∃ v', BookIn B w0 w' b v' L' ∧ Keeps (Foot b v) w w' := by
  subst h1 h2 h3; exact (dispOpen_any t d a L v b w h.1).mono fun _ _ hp => h.post hp
theorem dispEnd_in {ref : Int} {lost : Bool} {L : List Disp} {B : Nat} {v : Value} {b : Nat} {w0 w : World} (h : BookIn B w0 w b v L) (L' : List Disp) (d0 d1 d2 d3 d4 n : Int) (h1 : dEnd L ref lost = L') (h2 : dEnded L ref lost = ⟨d0, d1, d2, d3, d4⟩) (h3 : dEndErr L ref = n) :
    Calls Try.prog 10 #[(.pointer (some ⟨b, 0, none⟩)), .int .i64 ref, .bool lost] w fun e w' => e = .returned (.tuple #[.agg #[.int .i64 d0, .int .i64 d1, .int .i64 d2, .int .i64 d3, .int .i64 d4], .int .i64 n]) ∧ ∃ v', BookIn B w0 w' b v' L' ∧ Keeps (Foot b v) w w' := by
  have := dispEnd_any ref lost L v b w h.1
  rw [h1, h2, h3] at this
  exact this.mono fun _ _ hp => h.post hp
theorem dispGet_in {L : List Disp} {B : Nat} {v : Value} {b : Nat} {w0 w : World} (h : BookIn B w0 w b v L) (k : Nat) (d0 d1 d2 d3 d4 : Int) (hx : L[k]? = some ⟨d0, d1, d2, d3, d4⟩) :
    Calls Try.prog 11 #[(.pointer (some ⟨b, 0, none⟩)), .int .i64 (k + 1)] w fun e w' => e = .returned (.tuple #[.agg #[.int .i64 d0, .int .i64 d1, .int .i64 d2, .int .i64 d3, .int .i64 d4], .bool true]) ∧ BookIn B w0 w' b v L ∧ Keeps (fun _ => False) w w' :=
  (dispGet_yes k _ L v b w h.1 hx).mono fun _ _ hp => ⟨hp.1, h.step hp.2, hp.2⟩
theorem BookIn.box {B : Nat} {w0 w w' : World} {b : Nat} {v : Value} {L : List Disp} (h : BookIn B w0 w b v L) {cs : Array Value} {t : TypeId} (hk : Keeps (Foot b v) (w.alloc (.cells cs t)) w') : w'.heap[w.heap.size]? = some (.cells cs t (0, 0)) :=
  box_new hk fun hf => by have := h.1.lt _ hf; omega
theorem dispHeld_in {L : List Disp} {B : Nat} {v : Value} {b : Nat} {w0 w : World} (h : BookIn B w0 w b v L) (n : Int) (hn : heldOf L = n) : Calls Try.prog 12 #[(.pointer (some ⟨b, 0, none⟩))] w fun e w' => e = .returned (.int .i64 n) ∧ w = w' := by
  subst hn; exact dispHeld_any L v b w h.1
theorem dispAll_in {L : List Disp} {B : Nat} {v : Value} {b : Nat} {w0 w : World} (h : BookIn B w0 w b v L) : Calls Try.prog 13 #[(.pointer (some ⟨b, 0, none⟩))] w
    fun e w' => (∃ ad c, e = .returned (.slice ad L.length c) ∧ Reads w' 5 (.slice ad L.length c) L.length (L.flatMap Disp.cells)) ∧ BookIn B w0 w' b v L ∧ Keeps (fun _ => False) w w' := by
  refine (dispAll_any L v b w h.1).mono ?_
  rintro e w' ⟨v', rfl, h1, h2, h3⟩
  obtain ⟨ad, c, rfl, _, _⟩ := ownsRow_shape h1
  exact ⟨⟨ad, c, rfl, Reads.of_owns h1⟩, h.step h2, h2⟩
set_option maxRecDepth 100000 in
set_option maxHeartbeats 400000 in
theorem awake16_any (w : World) : Calls Try.prog 8 #[] w fun e w' => e = .returned (.bool true) ∧ Keeps (fun _ => False) w w' := by
  go_enter Try.func8, Try.ntmps8
  go_wp2_with (go_at_call 7; refine (dispNew_in (Below.refl w.heap.size w) (Nat.le_refl _)).mono ?_; rintro e w1 ⟨rfl, hb1, _⟩; have Hb1 := Lib.hid hb1; clear hb1)
  go_wp2_with (go_at_call 9; refine (dispOpen_in Hb1.out [⟨1, 1, 5, 7, 1⟩] 1 0 (by decide) (by decide) (by decide)).mono ?_; rintro e w2 ⟨rfl, v2, hb2, _⟩; have Hb2 := Lib.hid hb2; clear hb2)
  go_wp2_with (go_at_call 10; refine (dispEnd_in Hb2.out [⟨1, 1, 5, 7, 2⟩] 1 1 5 7 2 0 (by decide) (by decide) (by decide)).mono ?_; rintro e w3 ⟨rfl, v3, hb3, _⟩; have Hb3 := Lib.hid hb3; clear hb3)
  go_ret
  exact ⟨rfl, (Keeps.of_below (Hb3.out.step (Keeps.alloc _ _)).2.2.1).mono (fun k hk hh => by omega)⟩
end Go.Proofs.Ytmiafnndoioddaa
