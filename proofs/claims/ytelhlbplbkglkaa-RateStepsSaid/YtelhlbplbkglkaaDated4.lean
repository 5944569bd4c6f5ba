/- The walks of the dated layer: those that are meant; Len; Fork. -/
import Derived.Test.YtelhlbplbkglkaaDated3
import Derived.Test.YtelhlbplbkglkaaDelEv2
namespace Go.Proofs.Ytelhlbplbkglkaa
open Go.RowKit
/-- Which events are meant. -/
inductive Want where
  | all
  | on (d : Int)
  | frm (d : Int)
def Want.p : Want → Ev → Bool
  | .all, _ => true
  | .on d, e => e.day == d
  | .frm d, e => decide (d ≤ e.day)
def Want.fv (B : Nat) : Want → Value
  | .all => .func (.func 40) #[] #[]
  | .on _ => .func (.func 41) #[] #[(.pointer (some ⟨B, 0, none⟩))]
  | .frm _ => .func (.func 42) #[] #[(.pointer (some ⟨B, 0, none⟩))]
def Want.at (B : Nat) (w : World) : Want → Prop
  | .all => True
  | .on d => w.cell? ⟨B, 0, none⟩ = some (.int .i64 d)
  | .frm d => w.cell? ⟨B, 0, none⟩ = some (.int .i64 d)
theorem Want.at.keep {B : Nat} {w w' : World} {q : Want} (h : q.at B w) {S : Nat → Prop} (hk : Keeps S w w') (hS : B < w.heap.size → ¬ S B) : q.at B w' := by
  cases q with
  | all => trivial
  | on d => exact (hk.cell (cell_lt h) (hS (cell_lt h))).trans h
  | frm d => exact (hk.cell (cell_lt h) (hS (cell_lt h))).trans h
set_option maxRecDepth 100000 in
set_option maxHeartbeats 800000 in
theorem some1_any (q : Want) (B Bd : Nat) (x : Ev) (w : World) (hB : w.cell? ⟨B, 0, none⟩ = some (q.fv Bd)) (hd : q.at Bd w) :
    Calls Try.prog 60 #[x.agg, (.pointer (some ⟨B, 0, none⟩))] w fun e w' => e = .returned (.bool (!q.p x)) ∧ Keeps (fun _ => False) w w' := by
  obtain ⟨ki, da, tr, am, re⟩ := x
  simp only [Ev.agg]
  have hBl := cell_lt hB
  cases q with
  | all =>
    simp only [Want.fv] at hB
    clear hd
    go_enter Try.func60, Try.ntmps60
    go_wp2
    go_ret
    exact ⟨rfl, by (repeat (first | exact Keeps.refl _ _ | exact Keeps.alloc _ _ | exact Keeps.drew _ | exact Keeps.drewN _ _ | refine Keeps.trans_drew ?_ | refine Keeps.trans_drewN ?_ | refine Keeps.trans_alloc ?_))⟩
  | on d =>
    simp only [Want.fv, Want.at] at hB hd
    have hdl := cell_lt hd
    by_cases h : da = d
    · subst h
      go_enter Try.func60, Try.ntmps60
      go_wp2
      go_ret
      exact ⟨by simp [Want.p], by (repeat (first | exact Keeps.refl _ _ | exact Keeps.alloc _ _ | exact Keeps.drew _ | exact Keeps.drewN _ _ | refine Keeps.trans_drew ?_ | refine Keeps.trans_drewN ?_ | refine Keeps.trans_alloc ?_))⟩
    · have hb : (da == d) = false := beq_eq_false_iff_ne.2 h
      have hf : (!(Want.on d).p ⟨ki, da, tr, am, re⟩) = true := by simp [Want.p, h]
      have Hf := Lib.hid hf; clear hf
      go_enter Try.func60, Try.ntmps60
      go_wp2
      go_ret
      exact ⟨by rw [Hf.out]; rfl, by (repeat (first | exact Keeps.refl _ _ | exact Keeps.alloc _ _ | exact Keeps.drew _ | exact Keeps.drewN _ _ | refine Keeps.trans_drew ?_ | refine Keeps.trans_drewN ?_ | refine Keeps.trans_alloc ?_))⟩
  | frm d =>
    simp only [Want.fv, Want.at] at hB hd
    have hdl := cell_lt hd
    by_cases h : d ≤ da
    · have hf : (!(Want.frm d).p ⟨ki, da, tr, am, re⟩) = false := by simp [Want.p, h]
      have Hf := Lib.hid hf; clear hf
      go_enter Try.func60, Try.ntmps60
      go_wp2
      go_ret
      exact ⟨by rw [Hf.out]; rfl, by (repeat (first | exact Keeps.refl _ _ | exact Keeps.alloc _ _ | exact Keeps.drew _ | exact Keeps.drewN _ _ | refine Keeps.trans_drew ?_ | refine Keeps.trans_drewN ?_ | refine Keeps.trans_alloc ?_))⟩
    · have hf : (!(Want.frm d).p ⟨ki, da, tr, am, re⟩) = true := by simp [Want.p]; omega
      have Hf := Lib.hid hf; clear hf
      go_enter Try.func60, Try.ntmps60
      go_wp2
      go_ret
      exact ⟨by rw [Hf.out]; rfl, by (repeat (first | exact Keeps.refl _ _ | exact Keeps.alloc _ _ | exact Keeps.drew _ | exact Keeps.drewN _ _ | refine Keeps.trans_drew ?_ | refine Keeps.trans_drewN ?_ | refine Keeps.trans_alloc ?_))⟩
/-- What is handed out: events of the call's own. -/
def GivesEv (w : World) (M : List Ev) (e : Ending) (w' : World) : Prop := ∃ v', e = .returned v' ∧ Reads w' 5 v' M.length (M.flatMap Ev.cells) ∧ Keeps (fun _ => False) w w' ∧ (∀ g, v'.ownBlock = some g → w.heap.size ≤ g)
set_option maxRecDepth 100000 in
set_option maxHeartbeats 1600000 in
theorem datSome_any (q : Want) (B Bd : Nat) (t : Tm) (vt v : Value) (L : List Ev) (w : World) (h : DL w B t vt L v) (hl : L.length ≤ 1000000) (hd : q.at Bd w) (hdl : Bd < w.heap.size) : Calls Try.prog 39 #[(.pointer (some ⟨B, 0, none⟩)), q.fv Bd] w (GivesEv w (L.filter q.p)) := by
  obtain ⟨hb, _, hr⟩ := h
  have b7 := cell_of_cells hb 7
  have hbl := lt_of_block hb
  have Hdl := Lib.hid hdl
  clear hdl
  cases q with
  | all =>
      simp only [Want.fv]
      have Hd := Lib.hid hd; clear hd; have Hr := Lib.hid hr; clear hr; have Hb := Lib.hid hb; clear hb
      go_enter Try.func39, Try.ntmps39
      go_wp2_with fail
      refine (cloneEv_any _ v L.length _ (Reads.of_owns (Hr.out.alloc _)) (fun u hu => Ev.one _ u hu) (by omega)).mono ?_
      rintro e w1 ⟨v1, rfl, hrow1, hk1, hnew1⟩
      have hB3 := box_new hk1 (by simp)
      have c3 := cell_of_cells hB3 0
      obtain ⟨ad1, c1, hv1, _, _⟩ := ownsRow_shape hrow1
      have hnew2 : ∀ g, v1.ownBlock = some g → w.heap.size + 1 ≤ g := fun g hg => by have := hnew1 g hg; simp at this; exact this
      have hdel := delEv_some w.heap.size (fun x => !(Want.all).p x) v1 L w1 hrow1 hl (fun W x hW => some1_any (Want.all) w.heap.size Bd x W ((hW.cell (cell_lt c3) (fun e => by have := hnew2 w.heap.size e; omega)).trans c3) ((Hd.out.keep (S := fun _ => False) ((Keeps.alloc _ _).trans (hk1.mono (by simp))) (by simp)).keep hW (fun hlt e => by have := hnew2 Bd e; have := Hdl.out; omega)))
      simp only [Bool.not_not] at hdel
      subst hv1
      have Hdel := Lib.hid hdel; clear hdel; have Hnew2 := Lib.hid hnew2; clear hnew2; have Hk1 := Lib.hid hk1; clear hk1
      clear hrow1 hnew1 hB3
      go_wp2_with fail
      refine Hdel.out.mono ?_
      rintro e w2 ⟨v2, rfl, hrd0, hk2, hown⟩
      have hrd := Reads.of_owns hrd0
      clear hrd0
      have hpost : GivesEv w (L.filter (Want.all).p) (.returned v2) w2 := ⟨v2, rfl, hrd, ((Keeps.alloc w _).trans (Hk1.out.mono (by simp))).trans (hk2.mono fun i _ e => .inr (by have := Hnew2.out i e; omega)), fun g hg => by have := Hnew2.out g (hown g hg); omega⟩
      obtain ⟨ad2, c2, rfl, _⟩ := id hrd
      have Hpost := Lib.hid hpost; clear hpost
      clear hrd hk2 hown
      go_wp2_with fail
      go_ret
      exact Hpost.out
  | on d =>
      simp only [Want.fv]
      have Hd := Lib.hid hd; clear hd; have Hr := Lib.hid hr; clear hr; have Hb := Lib.hid hb; clear hb
      go_enter Try.func39, Try.ntmps39
      go_wp2_with fail
      refine (cloneEv_any _ v L.length _ (Reads.of_owns (Hr.out.alloc _)) (fun u hu => Ev.one _ u hu) (by omega)).mono ?_
      rintro e w1 ⟨v1, rfl, hrow1, hk1, hnew1⟩
      have hB3 := box_new hk1 (by simp)
      have c3 := cell_of_cells hB3 0
      obtain ⟨ad1, c1, hv1, _, _⟩ := ownsRow_shape hrow1
      have hnew2 : ∀ g, v1.ownBlock = some g → w.heap.size + 1 ≤ g := fun g hg => by have := hnew1 g hg; simp at this; exact this
      have hdel := delEv_some w.heap.size (fun x => !(Want.on d).p x) v1 L w1 hrow1 hl (fun W x hW => some1_any (Want.on d) w.heap.size Bd x W ((hW.cell (cell_lt c3) (fun e => by have := hnew2 w.heap.size e; omega)).trans c3) ((Hd.out.keep (S := fun _ => False) ((Keeps.alloc _ _).trans (hk1.mono (by simp))) (by simp)).keep hW (fun hlt e => by have := hnew2 Bd e; have := Hdl.out; omega)))
      simp only [Bool.not_not] at hdel
      subst hv1
      have Hdel := Lib.hid hdel; clear hdel; have Hnew2 := Lib.hid hnew2; clear hnew2; have Hk1 := Lib.hid hk1; clear hk1
      clear hrow1 hnew1 hB3
      go_wp2_with fail
      refine Hdel.out.mono ?_
      rintro e w2 ⟨v2, rfl, hrd0, hk2, hown⟩
      have hrd := Reads.of_owns hrd0
      clear hrd0
      have hpost : GivesEv w (L.filter (Want.on d).p) (.returned v2) w2 := ⟨v2, rfl, hrd, ((Keeps.alloc w _).trans (Hk1.out.mono (by simp))).trans (hk2.mono fun i _ e => .inr (by have := Hnew2.out i e; omega)), fun g hg => by have := Hnew2.out g (hown g hg); omega⟩
      obtain ⟨ad2, c2, rfl, _⟩ := id hrd
      have Hpost := Lib.hid hpost; clear hpost
      clear hrd hk2 hown
      go_wp2_with fail
      go_ret
      exact Hpost.out
  | frm d =>
      simp only [Want.fv]
      have Hd := Lib.hid hd; clear hd; have Hr := Lib.hid hr; clear hr; have Hb := Lib.hid hb; clear hb
      go_enter Try.func39, Try.ntmps39
      go_wp2_with fail
      refine (cloneEv_any _ v L.length _ (Reads.of_owns (Hr.out.alloc _)) (fun u hu => Ev.one _ u hu) (by omega)).mono ?_
      rintro e w1 ⟨v1, rfl, hrow1, hk1, hnew1⟩
      have hB3 := box_new hk1 (by simp)
      have c3 := cell_of_cells hB3 0
      obtain ⟨ad1, c1, hv1, _, _⟩ := ownsRow_shape hrow1
      have hnew2 : ∀ g, v1.ownBlock = some g → w.heap.size + 1 ≤ g := fun g hg => by have := hnew1 g hg; simp at this; exact this
      have hdel := delEv_some w.heap.size (fun x => !(Want.frm d).p x) v1 L w1 hrow1 hl (fun W x hW => some1_any (Want.frm d) w.heap.size Bd x W ((hW.cell (cell_lt c3) (fun e => by have := hnew2 w.heap.size e; omega)).trans c3) ((Hd.out.keep (S := fun _ => False) ((Keeps.alloc _ _).trans (hk1.mono (by simp))) (by simp)).keep hW (fun hlt e => by have := hnew2 Bd e; have := Hdl.out; omega)))
      simp only [Bool.not_not] at hdel
      subst hv1
      have Hdel := Lib.hid hdel; clear hdel; have Hnew2 := Lib.hid hnew2; clear hnew2; have Hk1 := Lib.hid hk1; clear hk1
      clear hrow1 hnew1 hB3
      go_wp2_with fail
      refine Hdel.out.mono ?_
      rintro e w2 ⟨v2, rfl, hrd0, hk2, hown⟩
      have hrd := Reads.of_owns hrd0
      clear hrd0
      have hpost : GivesEv w (L.filter (Want.frm d).p) (.returned v2) w2 := ⟨v2, rfl, hrd, ((Keeps.alloc w _).trans (Hk1.out.mono (by simp))).trans (hk2.mono fun i _ e => .inr (by have := Hnew2.out i e; omega)), fun g hg => by have := Hnew2.out g (hown g hg); omega⟩
      obtain ⟨ad2, c2, rfl, _⟩ := id hrd
      have Hpost := Lib.hid hpost; clear hpost
      clear hrd hk2 hown
      go_wp2_with fail
      go_ret
      exact Hpost.out
end Go.Proofs.Ytelhlbplbkglkaa
