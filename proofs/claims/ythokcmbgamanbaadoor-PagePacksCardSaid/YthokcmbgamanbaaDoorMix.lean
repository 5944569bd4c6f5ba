/- Regions that draw their order and hold calls in a forced order: one walk, operation by operation, what only reads first; where two may come up, both ways. -/
import Derived.Test.YthokcmbgamanbaaDoorKit3
import Derived.Deep.RegionHeld3
namespace Go.Proofs.YthokcmbgamanbaaDoor
open Go.RowKit
theorem Keeps.nt {a b c : World} (h : Keeps (fun _ => False) a b) (k : Keeps (fun _ => False) b c) : Keeps (fun _ => False) a c := h.trans (k.mono (by simp))
theorem Keeps.trans_drew {S : Nat → Prop} {w w' : World} (h : Keeps S w w') : Keeps S w w'.drew := h.trans (Keeps.drew _)
theorem Keeps.trans_drewN {S : Nat → Prop} {w w' : World} {n : Nat} (h : Keeps S w w') : Keeps S w (w'.drewN n) := h.trans (Keeps.drewN _ _)
theorem Keeps.trans_alloc {S : Nat → Prop} {w w' : World} {o : Obj} (h : Keeps S w w') : Keeps S w (w'.alloc o) := h.trans (Keeps.alloc _ _)
theorem _root_.Go.World.ownsRow.of_keeps {w w' : World} {base : Nat} {e : TypeId} {size : Nat} {v : Value} {n : Nat} {xs : List Value} (h : w.ownsRow base e size v n xs) (hk : Keeps (fun _ => False) w w') : w'.ownsRow base e size v n xs := hk.row h (by simp)
section
variable {P : Program} {md : Region.Mode} {ops : Array Oper} {Q : Exit → Act → World → Prop} {S : World → Prop}
/-- What is asked of the run of an operation that leaves the world as it is: a value, or a call that hands it back. -/
def PureAt (P : Program) (v : Value) (w : World) (r : Result Next) : Prop :=
  r = .ok (.value v) w ∨ ∃ f args, r = .ok (.enter f args) w ∧ Calls P f args w fun e w'' => e = .returned v ∧ w'' = w
def YieldsP (P : Program) (ops : Array Oper) (S : World → Prop) (o : Oper) (v : Value) (a : Act) : Prop :=
  (Region.wanted o (yielded ops a.tmps) = true ∧ ∀ w, S w → PureAt P v w ((execOp a.eval o).run P w)) ∨ (Region.wanted o (yielded ops a.tmps) = false ∧ v = undef)
theorem YieldsP.wpOp {i : Nat} {o : Oper} {v : Value} {a : Act} (hi : ops[i]? = some o) (hy : YieldsP P ops S o v a) {K : Act → World → Prop} {w : World} (hS : S w) (h : K (a.put o.dst v) w) : wpOp P ops Q i K a w := by
  unfold Go.wpOp
  rw [hi]
  rcases hy with ⟨hw, hv⟩ | ⟨hw, rfl⟩
  · show if Region.wanted o (yielded ops a.tmps) = true then _ else _
    rw [if_pos hw]
    refine .inl ?_
    unfold Oper.wp
    rcases hv w hS with hr | ⟨f, args, hr, hc⟩
    · rw [hr]; exact h
    · rw [hr]
      refine Calls.mono hc ?_
      rintro e w'' ⟨rfl, rfl⟩
      exact h
  · show if Region.wanted o (yielded ops a.tmps) = true then _ else _
    rw [if_neg (by rw [hw]; exact Bool.false_ne_true)]
    exact h
theorem YieldsP.same {o : Oper} {v : Value} {a a' : Act} (hy : YieldsP P ops S o v a) (he : execOp a'.eval o = execOp a.eval o) (hw : Region.wanted o (yielded ops a'.tmps) = Region.wanted o (yielded ops a.tmps)) : YieldsP P ops S o v a' := by
  unfold YieldsP; rw [he, hw]; exact hy
/-- An operation that does not look at a temporary is carried out alike, whether that temporary is filled already or not. -/
theorem wpOp_slip {j : Nat} {oj : Oper} {d : Option Tmp} {v : Value} (hj : ops[j]? = some oj) (h1 : ∀ t, d = some t → t ∉ oj.looksAt ops) (h2 : ∀ t, d = some t → oj.dst ≠ some t) (hsj : ∀ cs b, oj.op ≠ .select cs b)
    (hQ : ∀ c a w, Q (.panic c) (a.put d v) w → Q (.panic c) a w) {Y : Act → Prop} (hY : ∀ a u, Y a → Y (a.put oj.dst u)) (hYd : ∀ (a : Act) x, Y a → Y { a with defers := x :: a.defers }) {K : Act → World → Prop} {a : Act} {w : World}
    (hy : Y a) (h : wpOp P ops Q j K (a.put d v) w) : wpOp P ops Q j (fun a' w' => Y a' ∧ K (a'.put d v) w') a w := by
  have hput : ∀ (b : Act) u, K ((b.put d v).put oj.dst u) = K ((b.put oj.dst u).put d v) := fun b u => by rw [Act.put_comm b v u h2]
  unfold Go.wpOp at h ⊢
  rw [hj] at h ⊢
  have h' : if Region.wanted oj (yielded ops (a.put d v).tmps) = true then Oper.wp P oj (a.put d v) w K Q ∨ (oj.asks P (a.put d v) w ∧ LetsOut Q) else K ((a.put d v).put oj.dst undef) w := h
  rw [wanted_put oj a d v h1] at h'
  show if Region.wanted oj (yielded ops a.tmps) = true then _ else _
  by_cases hw : Region.wanted oj (yielded ops a.tmps) = true
  · rw [if_pos hw] at h' ⊢
    rcases h' with h' | ⟨ha, hl⟩
    · refine .inl ?_
      unfold Oper.wp at h' ⊢
      rw [execOp_put oj hsj a d v h1] at h'
      rcases hr : (execOp a.eval oj).run P w with ⟨n, w'⟩ | ⟨x, w'⟩
      · rw [hr] at h'
        cases n with
        | value u => exact ⟨hY a u hy, by rw [← hput]; exact h'⟩
        | skip => exact ⟨hY a _ hy, by rw [← hput]; exact h'⟩
        | defer x =>
          refine ⟨hY _ _ (hYd a x hy), ?_⟩
          rw [← hput, ← Act.put_defers]
          exact h'
        | enter f args =>
          refine Calls.mono h' fun e w'' he => ?_
          cases e with
          | returned u => exact ⟨hY a u hy, by rw [← hput]; exact he⟩
          | panicked c => exact hQ _ _ _ he
          | outgrown => exact he
        | row f args => exact Rows.mono h' fun u w'' he => ⟨hY a u hy, by rw [← hput]; exact he⟩
        | _ => exact h'
      · rw [hr] at h'
        cases x with
        | panic u => exact hQ _ _ _ h'
        | _ => exact h'
    · exact .inr ⟨by unfold Oper.asks at ha ⊢; rw [execOp_put oj hsj a d v h1] at ha; exact ha, hl⟩
  · rw [if_neg hw] at h' ⊢
    exact ⟨hY a _ hy, by rw [← hput]; exact h'⟩
/-- Whatever order is picked; S holds behind every operation but the one that comes behind all others (number z). -/
def wpAnyM (P : Program) (md : Region.Mode) (ops : Array Oper) (Q : Exit → Act → World → Prop) (S : World → Prop) (z : Nat) : Nat → Array Bool → Act → World → Prop
  | 0, listed, a, w => Region.ready md ops listed = [] ∧ Q .normal a w
  | fuel + 1, listed, a, w => (Region.ready md ops listed = [] → Q .normal a w) ∧
      ∀ i ∈ Region.ready md ops listed, wpOp P ops Q i (fun a' w' => (i = z ∨ S w') ∧ wpAnyM P md ops Q S z fuel (listed.setIfInBounds i true) a' w') a w
theorem wpAny_of_M {z : Nat} : ∀ (fuel : Nat) (listed : Array Bool) (a : Act) (w : World), wpAnyM P md ops Q S z fuel listed a w → wpAny P md ops Q fuel listed a w
  | 0, _, _, _, h => h
  | fuel + 1, _, _, _, h => ⟨h.1, fun i hi => wpOp_mono (fun a' w' h' => wpAny_of_M fuel _ a' w' h'.2) (h.2 i hi)⟩
theorem wpAnyM_done {z : Nat} {listed : Array Bool} {a : Act} {w : World} (hr : Region.ready md ops listed = []) (h : Q .normal a w) : ∀ fuel, wpAnyM P md ops Q S z fuel listed a w
  | 0 => ⟨hr, h⟩
  | _ + 1 => ⟨fun _ => h, by rw [hr]; simp⟩
/-- Operation number z waits for every other one. -/
def lastB (md : Region.Mode) (ops : Array Oper) (z : Nat) : Bool := match ops[z]? with
  | none => true
  | some o => (List.range ops.size).all fun k => k == z || o.after.any fun e => Region.binds md e && e.on == k
/-- What may come up now, and yields in every world that meets S, may be taken first. -/
theorem wpAnyM_slip {z i : Nat} {oi : Oper} {v : Value} (hi : ops[i]? = some oi) (hz : lastB md ops z = true) (hiz : i ≠ z) (hsel : ∀ (j : Nat) (o : Oper) cs b, ops[j]? = some o → o.op ≠ .select cs b) (hQ : ∀ c a w, Q (.panic c) (a.put oi.dst v) w → Q (.panic c) a w) :
    ∀ (fuel : Nat) (listed : Array Bool) (a : Act) (w : World), i ∈ Region.ready md ops listed → YieldsP P ops S oi v a → S w →
      (∀ j oj, ops[j]? = some oj → j ≠ i → listed.getD j true = false → (∀ e ∈ oj.after, Region.binds md e = true → e.on ≠ i) → oi.apart ops oj = true) →
      wpAnyM P md ops Q S z fuel (listed.setIfInBounds i true) (a.put oi.dst v) w → wpAnyM P md ops Q S z (fuel + 1) listed a w
  | 0, listed, a, w, hr, hy, hS, hfree, H => by
    refine ⟨fun h => absurd hr (by rw [h]; simp), fun j hj => ?_⟩
    by_cases hji : j = i
    · subst hji; exact hy.wpOp hi hS ⟨.inr hS, H⟩
    · have hc := ready_mono hj hji
      rw [H.1] at hc
      simp at hc
  | fuel + 1, listed, a, w, hr, hy, hS, hfree, H => by
    refine ⟨fun h => absurd hr (by rw [h]; simp), fun j hj => ?_⟩
    by_cases hji : j = i
    · subst hji; exact hy.wpOp hi hS ⟨.inr hS, H⟩
    obtain ⟨hun, oj, hoj, hall⟩ := mem_ready.1 hj
    have hi0 := (mem_ready.1 hr).1
    have hno : ∀ e ∈ oj.after, Region.binds md e = true → e.on ≠ i := by
      intro e he hb heq
      have ht := hall e he hb
      rw [heq] at ht
      rcases Nat.lt_or_ge i listed.size with hlt | hge
      · have e1 : listed.getD i true = listed[i] := by simp [hlt]
        have e2 : listed.getD i false = listed[i] := by simp [hlt]
        rw [e1] at hi0; rw [e2, hi0] at ht; simp at ht
      · have e2 : listed.getD i false = false := by simp [Array.getElem?_eq_none hge]
        rw [e2] at ht; simp at ht
    have hjz : j ≠ z := by
      intro e
      subst e
      unfold lastB at hz
      rw [hoj] at hz
      have hil : i < ops.size := by
        rcases Nat.lt_or_ge i ops.size with h | h
        · exact h
        · rw [Array.getElem?_eq_none h] at hi; simp at hi
      have hk := List.all_eq_true.1 hz i (List.mem_range.2 hil)
      simp only [Bool.or_eq_true, beq_iff_eq, Array.any_eq_true', Bool.and_eq_true] at hk
      rcases hk with h | ⟨e, he, hb, ho⟩
      · exact hji h.symm
      · exact hno e he hb ho
    obtain ⟨p1, p2, p3⟩ := Oper.apart_spec (hfree j oj hoj hji hun hno)
    have hstep := wpOp_slip hoj p1 p2 (hsel j oj · · hoj) hQ (Y := YieldsP P ops S oi v) (fun a u hy => hy.same (execOp_put oi (hsel i oi · · hi) a oj.dst u p3) (wanted_put oi a oj.dst u p3)) (fun a x hy => hy.same rfl rfl) hy (H.2 j (ready_mono hj hji))
    refine wpOp_mono (fun a' w' h3 => ⟨h3.2.1, ?_⟩) hstep
    have hS' : S w' := h3.2.1.resolve_left hjz
    have hfree' : ∀ k ok, ops[k]? = some ok → k ≠ i → (listed.setIfInBounds j true).getD k true = false → (∀ e ∈ ok.after, Region.binds md e = true → e.on ≠ i) → oi.apart ops ok = true := by
      intro k ok hk hki hku hkn
      by_cases hjk : j = k
      · subst hjk; exact hfree j ok hk hki hun hkn
      · rw [getD_set_ne true hjk] at hku; exact hfree k ok hk hki hku hkn
    refine wpAnyM_slip hi hz hiz hsel hQ fuel _ a' w' (ready_mono hr (Ne.symm hji)) h3.1 hS' hfree' ?_
    rw [Array.setIfInBounds_comm _ _ hji]
    exact h3.2.2
/-- An order of the operations, as a tree: what may be taken first; what is alone ready; where two are ready, both ways. -/
inductive MO where
  | done
  | take (i : Nat) (r : MO)
  | move (i : Nat) (r : MO)
  | fork (i : Nat) (r : MO) (j : Nat) (s : MO)
  | fork3 (i : Nat) (r : MO) (j : Nat) (s : MO) (k : Nat) (u : MO)
def MO.depth : MO → Nat
  | .done => 0
  | .take _ r => r.depth + 1
  | .move _ r => r.depth + 1
  | .fork _ r _ s => max r.depth s.depth + 1
  | .fork3 _ r _ s _ u => max (max r.depth s.depth) u.depth + 1
def MO.isDone : MO → Bool
  | .done => true
  | _ => false
def mixB (md : Region.Mode) (ops : Array Oper) (z : Nat) : MO → Array Bool → Bool
  | .done, listed => (Region.ready md ops listed).isEmpty
  | .take i r, listed => (((Region.ready md ops listed).contains i && Region.free md ops listed i) && i != z) && mixB md ops z r (listed.setIfInBounds i true)
  | .move i r, listed => (Region.ready md ops listed == [i] && (i != z || r.isDone)) && mixB md ops z r (listed.setIfInBounds i true)
  | .fork i r j s, listed => ((Region.ready md ops listed == [i, j] && i != z) && j != z) && (mixB md ops z r (listed.setIfInBounds i true) && mixB md ops z s (listed.setIfInBounds j true))
  | .fork3 i r j s k u, listed => (((Region.ready md ops listed == [i, j, k] && i != z) && j != z) && k != z) && (mixB md ops z r (listed.setIfInBounds i true) && (mixB md ops z s (listed.setIfInBounds j true) && mixB md ops z u (listed.setIfInBounds k true)))
/-- The walk of such an order. -/
def Mix (P : Program) (ops : Array Oper) (Q : Exit → Act → World → Prop) (S : World → Prop) (z : Nat) : MO → Act → World → Prop
  | .done, a, w => Q .normal a w
  | .take i r, a, w => ∃ o v, ops[i]? = some o ∧ YieldsP P ops S o v a ∧ Mix P ops Q S z r (a.put o.dst v) w
  | .move i r, a, w => (∃ o v, ops[i]? = some o ∧ YieldsP P ops S o v a ∧ Mix P ops Q S z r (a.put o.dst v) w) ∨ wpOp P ops Q i (fun a' w' => (i = z ∨ S w') ∧ Mix P ops Q S z r a' w') a w
  | .fork i r j s, a, w => wpOp P ops Q i (fun a' w' => (i = z ∨ S w') ∧ Mix P ops Q S z r a' w') a w ∧ wpOp P ops Q j (fun a' w' => (j = z ∨ S w') ∧ Mix P ops Q S z s a' w') a w
  | .fork3 i r j s k u, a, w => wpOp P ops Q i (fun a' w' => (i = z ∨ S w') ∧ Mix P ops Q S z r a' w') a w ∧ wpOp P ops Q j (fun a' w' => (j = z ∨ S w') ∧ Mix P ops Q S z s a' w') a w ∧ wpOp P ops Q k (fun a' w' => (k = z ∨ S w') ∧ Mix P ops Q S z u a' w') a w
theorem Mix.sound {z : Nat} (hs : Region.noSelect ops = true) (hz : lastB md ops z = true) (hQ : ∀ (d : Option Tmp) (v : Value) c a w, Q (.panic c) (a.put d v) w → Q (.panic c) a w) :
    ∀ (ord : MO) (fuel : Nat) (listed : Array Bool) (a : Act) (w : World), ord.depth ≤ fuel → mixB md ops z ord listed = true → (ord.isDone = true ∨ S w) → Mix P ops Q S z ord a w → wpAnyM P md ops Q S z fuel listed a w
  | .done, fuel, listed, a, w, _, hB, _, h => wpAnyM_done (by simpa [mixB] using hB) h _
  | .take i r, fuel, listed, a, w, hd, hB, hS, h => by
    simp only [mixB, Bool.and_eq_true, bne_iff_ne] at hB
    obtain ⟨⟨⟨h1, h2⟩, hiz⟩, h3⟩ := hB
    obtain ⟨o, v, hi, hy, h⟩ := h
    have hS' : S w := hS.resolve_left (by simp [MO.isDone])
    cases fuel with
    | zero => simp [MO.depth] at hd
    | succ fuel =>
      refine wpAnyM_slip hi hz hiz (Region.noSelect_spec hs) (hQ o.dst v) fuel listed a w (by simpa using h1) hy hS' (Region.free_spec hi h2) ?_
      exact Mix.sound hs hz hQ r fuel _ _ _ (by simp only [MO.depth] at hd; omega) h3 (.inr hS') h
  | .move i r, fuel, listed, a, w, hd, hB, hS, h => by
    simp only [mixB, Bool.and_eq_true, beq_iff_eq, Bool.or_eq_true, bne_iff_ne] at hB
    obtain ⟨⟨h1, h2⟩, h3⟩ := hB
    have hS' : S w := hS.resolve_left (by simp [MO.isDone])
    cases fuel with
    | zero => simp [MO.depth] at hd
    | succ fuel =>
      have hd' : r.depth ≤ fuel := by simp only [MO.depth] at hd; omega
      refine ⟨fun e => by rw [h1] at e; simp at e, fun j hj => ?_⟩
      obtain rfl : j = i := by rw [h1] at hj; simpa using hj
      rcases h with ⟨o, v, hi, hy, h⟩ | h
      · exact hy.wpOp hi hS' ⟨.inr hS', Mix.sound hs hz hQ r fuel _ _ _ hd' h3 (.inr hS') h⟩
      · refine wpOp_mono (fun a' w' hh => ⟨hh.1, Mix.sound hs hz hQ r fuel _ _ _ hd' h3 ?_ hh.2⟩) h
        rcases hh.1 with e | e
        · exact .inl (h2.resolve_left fun hn => hn e)
        · exact .inr e
  | .fork i r j s, fuel, listed, a, w, hd, hB, hS, h => by
    simp only [mixB, Bool.and_eq_true, beq_iff_eq, bne_iff_ne] at hB
    obtain ⟨⟨⟨h1, hiz⟩, hjz⟩, h3, h4⟩ := hB
    cases fuel with
    | zero => simp [MO.depth] at hd
    | succ fuel =>
      have hd1 : r.depth ≤ fuel := by simp only [MO.depth] at hd; omega
      have hd2 : s.depth ≤ fuel := by simp only [MO.depth] at hd; omega
      refine ⟨fun e => by rw [h1] at e; simp at e, fun k hk => ?_⟩
      rw [h1] at hk
      rcases (by simpa using hk : k = i ∨ k = j) with rfl | rfl
      · exact wpOp_mono (fun a' w' hh => ⟨hh.1, Mix.sound hs hz hQ r fuel _ _ _ hd1 h3 (.inr (hh.1.resolve_left hiz)) hh.2⟩) h.1
      · exact wpOp_mono (fun a' w' hh => ⟨hh.1, Mix.sound hs hz hQ s fuel _ _ _ hd2 h4 (.inr (hh.1.resolve_left hjz)) hh.2⟩) h.2
  | .fork3 i r j s l u, fuel, listed, a, w, hd, hB, hS, h => by
    simp only [mixB, Bool.and_eq_true, beq_iff_eq, bne_iff_ne] at hB
    obtain ⟨⟨⟨⟨h1, hiz⟩, hjz⟩, hlz⟩, h3, h4, h5⟩ := hB
    cases fuel with
    | zero => simp [MO.depth] at hd
    | succ fuel =>
      have hd1 : r.depth ≤ fuel := by simp only [MO.depth] at hd; omega
      have hd2 : s.depth ≤ fuel := by simp only [MO.depth] at hd; omega
      have hd3 : u.depth ≤ fuel := by simp only [MO.depth] at hd; omega
      refine ⟨fun e => by rw [h1] at e; simp at e, fun k hk => ?_⟩
      rw [h1] at hk
      rcases (by simpa using hk : k = i ∨ k = j ∨ k = l) with rfl | rfl | rfl
      · exact wpOp_mono (fun a' w' hh => ⟨hh.1, Mix.sound hs hz hQ r fuel _ _ _ hd1 h3 (.inr (hh.1.resolve_left hiz)) hh.2⟩) h.1
      · exact wpOp_mono (fun a' w' hh => ⟨hh.1, Mix.sound hs hz hQ s fuel _ _ _ hd2 h4 (.inr (hh.1.resolve_left hjz)) hh.2⟩) h.2.1
      · exact wpOp_mono (fun a' w' hh => ⟨hh.1, Mix.sound hs hz hQ u fuel _ _ _ hd3 h5 (.inr (hh.1.resolve_left hlz)) hh.2⟩) h.2.2
/-- THE BEGINNING. The region must be shown not to panic. The world behind the draw is a letter. z: the number of an operation that waits for all others, behind which S need not hold (none: the number of operations). -/
theorem wp_region_mixz {id : Nat} {a : Act} {w : World} {l : List Oper} (S : World → Prop) (z : Nat) (ord : MO) (hm : P.follows .mixedOrders = true) (hB : ((mixB .any l.toArray z ord (Array.replicate l.toArray.size false) && lastB .any l.toArray z) && (Region.noSelect l.toArray && Nat.ble ord.depth l.toArray.size)) = true)
    (hS : S w.drew) (h : ∀ w1, S w1 → Keeps (fun _ => False) w w1 → Mix P l.toArray (NoPanic Q) S z ord a w1) : (Code.region id l.toArray true).wp P Q a w := by
  simp only [Bool.and_eq_true, Nat.ble_eq] at hB
  obtain ⟨⟨h1, h0⟩, h2, h3⟩ := hB
  exact wp_region_noPanic (wp_region_any hm (wpAny_of_M _ _ _ _ (Mix.sound h2 h0 (fun _ _ _ _ _ hh => (show False from hh).elim) ord _ _ _ _ h3 h1 (.inr hS) (h _ hS (Keeps.drew _)))))
theorem wp_region_mixw {id : Nat} {a : Act} {w : World} {l : List Oper} (S : World → Prop) (ord : MO) (hm : P.follows .mixedOrders = true) (hB : ((mixB .any l.toArray l.toArray.size ord (Array.replicate l.toArray.size false) && lastB .any l.toArray l.toArray.size) && (Region.noSelect l.toArray && Nat.ble ord.depth l.toArray.size)) = true)
    (hS : S w.drew) (h : ∀ w1, S w1 → Keeps (fun _ => False) w w1 → Mix P l.toArray (NoPanic Q) S l.toArray.size ord a w1) : (Code.region id l.toArray true).wp P Q a w := wp_region_mixz S _ ord hm hB hS h
theorem wp_region_mix {id : Nat} {a : Act} {w : World} {l : List Oper} (S : World → Prop) (ord : MO) (hm : P.follows .mixedOrders = true) (hB : ((mixB .any l.toArray l.toArray.size ord (Array.replicate l.toArray.size false) && lastB .any l.toArray l.toArray.size) && (Region.noSelect l.toArray && Nat.ble ord.depth l.toArray.size)) = true)
    (hS : S w.drew) (h : Mix P l.toArray (NoPanic Q) S l.toArray.size ord a w.drew) : (Code.region id l.toArray true).wp P Q a w := by
  simp only [Bool.and_eq_true, Nat.ble_eq] at hB
  obtain ⟨⟨h1, h0⟩, h2, h3⟩ := hB
  exact wp_region_noPanic (wp_region_any hm (wpAny_of_M _ _ _ _ (Mix.sound h2 h0 (fun _ _ _ _ _ hh => (show False from hh).elim) ord _ _ _ _ h3 h1 (.inr hS) h)))
theorem mix_done {z : Nat} {a : Act} {w : World} (h : Q .normal a w) : Mix P ops (NoPanic Q) S z .done a w := h
section
variable {z : Nat} {dst : Option Tmp} {op : Op} {ty : TypeId} {pos : String} {af : Array Edge} {gd : Option (Nat × Bool)} {i : Nat} {r : MO} {v : Value} {a : Act} {w : World}
theorem mix_skip (hi : ops[i]? = some ⟨dst, op, ty, pos, af, gd⟩) (hw : Region.wanted ⟨dst, op, ty, pos, af, gd⟩ (yielded ops a.tmps) = false) (h : Mix P ops Q S z r (a.put dst undef) w) : Mix P ops Q S z (.take i r) a w := ⟨_, undef, hi, .inr ⟨hw, rfl⟩, h⟩
theorem mix_skipm (hi : ops[i]? = some ⟨dst, op, ty, pos, af, gd⟩) (hw : Region.wanted ⟨dst, op, ty, pos, af, gd⟩ (yielded ops a.tmps) = false) (h : Mix P ops Q S z r (a.put dst undef) w) : Mix P ops Q S z (.move i r) a w := .inl ⟨_, undef, hi, .inr ⟨hw, rfl⟩, h⟩
theorem mix_take (hi : ops[i]? = some ⟨dst, op, ty, pos, af, gd⟩) (hw : Region.wanted ⟨dst, op, ty, pos, af, gd⟩ (yielded ops a.tmps) = true)
    (hy : ∀ w, S w → (execOp a.eval ⟨dst, op, ty, pos, af, gd⟩).run P w = .ok (.value v) w) (h : Mix P ops Q S z r (a.put dst v) w) : Mix P ops Q S z (.take i r) a w := ⟨_, v, hi, .inl ⟨hw, fun w hS => .inl (hy w hS)⟩, h⟩
theorem mix_pure (hi : ops[i]? = some ⟨dst, op, ty, pos, af, gd⟩) (hw : Region.wanted ⟨dst, op, ty, pos, af, gd⟩ (yielded ops a.tmps) = true) (f : FuncId) (args : Array Value)
    (hr : ∀ w, S w → (execOp a.eval ⟨dst, op, ty, pos, af, gd⟩).run P w = .ok (.enter f args) w) (hy : ∀ w, S w → Calls P f args w fun e w'' => e = .returned v ∧ w = w'') (h : Mix P ops Q S z r (a.put dst v) w) : Mix P ops Q S z (.take i r) a w :=
  ⟨_, v, hi, .inl ⟨hw, fun w hS => .inr ⟨f, args, hr w hS, (hy w hS).mono fun e w'' ⟨h1, h2⟩ => ⟨h1, h2.symm⟩⟩⟩, h⟩
theorem mix_move (hi : ops[i]? = some ⟨dst, op, ty, pos, af, gd⟩)
    (h : ∀ K : Act → World → Prop, Shut (∀ a' w', S w' → Mix P ops Q S z r a' w' → K a' w') → if Region.wanted ⟨dst, op, ty, pos, af, gd⟩ (yielded ops a.tmps) = true then Oper.wp P ⟨dst, op, ty, pos, af, gd⟩ a w K Q else K (a.put dst undef) w) :
    Mix P ops Q S z (.move i r) a w := .inr (wpOp_step hi fun K hK => h K fun a' w' hS hM => hK a' w' ⟨.inr hS, hM⟩)
/-- The operation that waits for all others: behind it S need not hold. -/
theorem mix_last (hi : ops[i]? = some ⟨dst, op, ty, pos, af, gd⟩)
    (h : ∀ K : Act → World → Prop, Shut (∀ a' w', Mix P ops Q S i r a' w' → K a' w') → if Region.wanted ⟨dst, op, ty, pos, af, gd⟩ (yielded ops a.tmps) = true then Oper.wp P ⟨dst, op, ty, pos, af, gd⟩ a w K Q else K (a.put dst undef) w) :
    Mix P ops Q S i (.move i r) a w := .inr (wpOp_step hi fun K hK => h K fun a' w' hM => hK a' w' ⟨.inl rfl, hM⟩)
theorem mix_to {i : Nat} {r : MO} (h : Mix P ops Q S z (.move i r) a w) (hS : S w) : wpOp P ops Q i (fun a' w' => (i = z ∨ S w') ∧ Mix P ops Q S z r a' w') a w := by
  rcases h with ⟨o, v, hi, hy, h⟩ | h
  · exact hy.wpOp hi hS ⟨.inr hS, h⟩
  · exact h
theorem mix_fork3 {j k : Nat} {s u : MO} (h1 : Mix P ops Q S z (.move i r) a w) (h2 : Mix P ops Q S z (.move j s) a w) (h3 : Mix P ops Q S z (.move k u) a w) (hS : S w) : Mix P ops Q S z (.fork3 i r j s k u) a w := ⟨mix_to h1 hS, mix_to h2 hS, mix_to h3 hS⟩
theorem mix_fork {j : Nat} {s : MO} (h1 : Mix P ops Q S z (.move i r) a w) (h2 : Mix P ops Q S z (.move j s) a w) (hS : S w) : Mix P ops Q S z (.fork i r j s) a w := by
  refine ⟨?_, ?_⟩
  · rcases h1 with ⟨o, v, hi, hy, h⟩ | h
    · exact hy.wpOp hi hS ⟨.inr hS, h⟩
    · exact h
  · rcases h2 with ⟨o, v, hi, hy, h⟩ | h
    · exact hy.wpOp hi hS ⟨.inr hS, h⟩
    · exact h
end
end
end Go.Proofs.YthokcmbgamanbaaDoor
