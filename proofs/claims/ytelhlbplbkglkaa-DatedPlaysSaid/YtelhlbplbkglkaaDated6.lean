/- The walks of the dated layer: a list of one's own; the law's terms; awake. -/
import Derived.Test.YtelhlbplbkglkaaDated5
namespace Go.Proofs.Ytelhlbplbkglkaa
open Go.RowKit
theorem haltW {p : Prop} (h : Hid p) : p := h.out
/-- A list of the call's own. -/
def MyDL (w0 W : World) (B : Nat) (t : Tm) (L : List Ev) : Prop := ∃ vt v, DL W B t vt L v ∧ Keeps (fun _ => False) w0 W ∧ w0.heap.size ≤ B ∧ (∀ g, v.ownBlock = some g → w0.heap.size ≤ g)
theorem MyDL.keep {w0 W W' : World} {B : Nat} {t : Tm} {L : List Ev} (h : MyDL w0 W B t L) (hk : Keeps (fun _ => False) W W') : MyDL w0 W' B t L := by
  obtain ⟨vt, v, h1, h2, h3, h4⟩ := h
  exact ⟨vt, v, h1.keep hk, h2.trans (hk.mono (by simp)), h3, h4⟩
theorem MyDL.kp {w0 W : World} {B : Nat} {t : Tm} {L : List Ev} (h : MyDL w0 W B t L) : Keeps (fun _ => False) w0 W := by
  obtain ⟨vt, v, h1, h2, h3, h4⟩ := h
  exact h2
theorem MyDL.lt {w0 W : World} {B : Nat} {t : Tm} {L : List Ev} (h : MyDL w0 W B t L) : B < W.heap.size := by
  obtain ⟨vt, v, h1, h2, h3, h4⟩ := h
  exact lt_of_block h1.blk
theorem myNew {t : Tm} {w0 w : World} {e : Ending} {w' : World} (h : NewPost t w e w') (hk0 : Keeps (fun _ => False) w0 w) : ∃ B, e = .returned (.pointer (some ⟨B, 0, none⟩)) ∧ MyDL w0 w' B t [] := by
  obtain ⟨B, vt, he, hd, hk, hB, _⟩ := h
  have := hk0.size
  exact ⟨B, he, vt, _, hd, hk0.trans (hk.mono (by simp)), by omega, by simp [Value.ownBlock]⟩
theorem myAdd (B : Nat) (t : Tm) (L : List Ev) (e : Ev) (w0 w : World) (h : MyDL w0 w B t L) (hl : L.length ≤ 1000000) (ht : t.trs.length ≤ 1000000) {z : Int} {L' : List Ev} (hz : addErr t L e = z) (hL : addL t L e = L') : Calls Try.prog 13 #[(.pointer (some ⟨B, 0, none⟩)), e.agg] w fun x w' => x = .returned (.int .i64 z) ∧ MyDL w0 w' B t L' := by
  obtain ⟨vt, v, h1, h2, h3, h4⟩ := h
  refine (datAdd_any B t vt v L e w h1 hl ht).mono ?_
  rintro x w' ⟨hx, v', hd, hk, hf⟩
  have hs := h2.size
  rw [hz] at hx
  rw [hL] at hd
  refine ⟨hx, vt, v', hd, h2.trans (hk.mono fun i _ e => .inr ?_), h3, fun g hg => ?_⟩
  · rcases e with rfl | e
    · exact h3
    · exact h4 i e
  · rcases hf with e | ⟨g', e, h'⟩
    · exact h4 g (by rw [← e]; exact hg)
    · rw [e] at hg; simp only [Option.some.injEq] at hg; omega
theorem myAll (B : Nat) (t : Tm) (L : List Ev) (w0 w : World) (h : MyDL w0 w B t L) (hl : L.length ≤ 1000000) : Calls Try.prog 14 #[(.pointer (some ⟨B, 0, none⟩))] w (GivesEv w L) := by
  obtain ⟨vt, v, h1, _⟩ := h
  exact datAll_any B t vt v L w h1 hl
theorem myOn (B : Nat) (d : Int) (t : Tm) (L : List Ev) (w0 w : World) (h : MyDL w0 w B t L) (hl : L.length ≤ 1000000) : Calls Try.prog 15 #[(.pointer (some ⟨B, 0, none⟩)), .int .i64 d] w (GivesEv w (L.filter (Want.on d).p)) := by
  obtain ⟨vt, v, h1, _⟩ := h
  exact datOn_any B d t vt v L w h1 hl
theorem myFrom (B : Nat) (d : Int) (t : Tm) (L : List Ev) (w0 w : World) (h : MyDL w0 w B t L) (hl : L.length ≤ 1000000) : Calls Try.prog 16 #[(.pointer (some ⟨B, 0, none⟩)), .int .i64 d] w (GivesEv w (L.filter (Want.frm d).p)) := by
  obtain ⟨vt, v, h1, _⟩ := h
  exact datFrom_any B d t vt v L w h1 hl
theorem myLen (B : Nat) (t : Tm) (L : List Ev) (w0 w : World) (h : MyDL w0 w B t L) : Calls Try.prog 21 #[(.pointer (some ⟨B, 0, none⟩))] w fun e w' => e = .returned (.int .i64 (L.length : Nat)) ∧ w = w' := by
  obtain ⟨vt, v, h1, _⟩ := h
  exact datLen_any B t vt v L w h1
def t17 : Tm := ⟨0, 1, 1, 0, 0, 10957, [⟨0, false⟩, ⟨0, false⟩]⟩
set_option maxRecDepth 100000 in
set_option maxHeartbeats 800000 in
theorem terms17_any (w : World) : Calls Try.prog 11 #[] w fun e w' => ∃ B, e = .returned (.agg #[.int .i64 0, .slice (some ⟨B, 0, none⟩) 2 2, .int .i64 1, .int .i64 1, .int .i64 0, .int .i64 0, .int .i64 10957]) ∧ Reads w' 2 (.slice (some ⟨B, 0, none⟩) 2 2) 2 (t17.trs.flatMap Tn.cells) ∧ Keeps (fun _ => False) w w' := by
  go_enter Try.func11, Try.ntmps11
  go_wp2_with fail
  have hr : Reads ((w.alloc (Obj.cells #[.int .i64 0, .slice (some ⟨w.heap.size + 1, 0, none⟩) 2 2, .int .i64 1, .int .i64 1, .int .i64 0, .int .i64 0, .int .i64 10957] 27)).alloc (Obj.cells #[Value.int IntKind.i64 0, Value.bool false, Value.int IntKind.i64 0, Value.bool false] 61)) 2 (.slice (some ⟨w.heap.size + 1, 0, none⟩) 2 2) 2 (t17.trs.flatMap Tn.cells) := Reads.litAt _ _ _ _ _ _ (by simp) rfl
  exact bodyPost_ret (v := .agg #[.int .i64 0, .slice (some ⟨w.heap.size + 1, 0, none⟩) 2 2, .int .i64 1, .int .i64 1, .int .i64 0, .int .i64 0, .int .i64 10957]) (by simp [results, Try.results11, go_sem]) rfl ⟨_, rfl, hr, by (repeat (first | exact Keeps.refl _ _ | exact Keeps.alloc _ _ | exact Keeps.drew _ | exact Keeps.drewN _ _ | refine Keeps.trans_drew ?_ | refine Keeps.trans_drewN ?_ | refine Keeps.trans_alloc ?_))⟩
set_option maxRecDepth 100000 in
set_option maxHeartbeats 1600000 in
theorem awake17_any (w : World) : Calls Try.prog 12 #[] w fun e w' => e = .returned (.bool true) ∧ Keeps (fun _ => False) w w' := by
  go_enter Try.func12, Try.ntmps12
  go_wp2_with (go_at_call 11; (with_reducible refine (terms17_any _).mono ?_); rintro e w1 ⟨B1, rfl, hr1, hk1⟩; have Hr1 := Lib.hid hr1; have Hk1 := Lib.hid hk1; clear hr1 hk1)
  go_wp2_with (go_at_call 10; refine (datNew_any t17 (.slice (some ⟨B1, 0, none⟩) 2 2) _ Hr1.out (by decide)).mono ?_; intro e w2 hp; obtain ⟨B, rfl, hm2⟩ := myNew hp Hk1.out; have Hm2 := Lib.hid hm2; clear hm2 hp)
  go_wp2_with (go_at_call 13; refine (myAdd B t17 [] ⟨2, 10960, 0, 5, 0⟩ w _ Hm2.out (by decide) (by decide) (z := 0) (L' := [⟨2, 10960, 0, 5, 0⟩]) (by decide) (by decide)).mono ?_; rintro e w3 ⟨rfl, hm3⟩; have Hm3 := Lib.hid hm3; clear hm3; refine haltW ?_)
  refine Lib.hid ?_
  go_wp2_with (go_at_call 13; refine (myAdd B t17 [⟨2, 10960, 0, 5, 0⟩] ⟨2, 10958, 0, 6, 0⟩ w _ Hm3.out (by decide) (by decide) (z := 0) (L' := [⟨2, 10958, 0, 6, 0⟩, ⟨2, 10960, 0, 5, 0⟩]) (by decide) (by decide)).mono ?_; rintro e w4 ⟨rfl, hm4⟩; have Hm4 := Lib.hid hm4; clear hm4; refine haltW ?_)
  refine Lib.hid ?_
  go_wp2_with (go_at_call 21; refine (myLen B t17 _ w _ Hm4.out).mono ?_; rintro e w5 ⟨rfl, rfl⟩; refine haltW ?_)
  refine Lib.hid ?_
  go_wp2_with (go_at_call 14; refine (myAll B t17 _ w _ Hm4.out (by decide)).mono ?_; rintro e w5 ⟨v5, rfl, hr5, hk5, _⟩; obtain ⟨ad5, c5, rfl, _, _, _, _⟩ := hr5; have Hk5 := Lib.hid hk5; clear hk5; refine haltW ?_)
  refine Lib.hid ?_
  go_wp2_with (go_at_call 14; refine (myAll B t17 _ w _ (Hm4.out.keep Hk5.out) (by decide)).mono ?_; rintro e w6 ⟨v6, rfl, hr6, hk6, _⟩; obtain ⟨g6, o6, c6, he, hc⟩ := hr6.elem (f := Ev.cells) Ev.cells_length (k := 0) rfl (by decide); obtain rfl := he; have x3 := hc 3 (by decide); simp only [Ev.cells, Nat.zero_mul, Nat.add_zero, List.getElem?_cons_succ, List.getElem?_cons_zero] at x3; have Hk6 := Lib.hid hk6; clear hk6 hr6 hc; refine haltW ?_)
  refine Lib.hid ?_
  go_wp2
  go_ret
  exact ⟨rfl, (Hm4.out.kp.trans (Hk5.out.mono (by simp))).trans (Hk6.out.mono (by simp))⟩
end Go.Proofs.Ytelhlbplbkglkaa
