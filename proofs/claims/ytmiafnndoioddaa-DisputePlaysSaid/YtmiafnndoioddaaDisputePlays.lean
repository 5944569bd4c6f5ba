/- DisputePlays: whatever is opened and ended: each answer, all that there is, and how much is held; a fork goes on by itself. -/
import Derived.Test.YtmiafnndoioddaaDispute6
import Derived.Test.YtmiafnndoioddaaOpen
namespace Go.Proofs.Ytmiafnndoioddaa
open Go.RowKit
/-- Op16, as the program has it. -/
structure Op16 where
  kind : Int
  tranche : Int
  day : Int
  ref : Int
  amount : Int
deriving DecidableEq, Inhabited
def Op16.cells (d : Op16) : List Value := [.int .i64 d.kind, .int .i64 d.tranche, .int .i64 d.day, .int .i64 d.ref, .int .i64 d.amount]
theorem Op16.cells_length (d : Op16) : d.cells.length = 5 := rfl
theorem Op16.one (L : List Op16) : ∀ u ∈ L.flatMap Op16.cells, u.oneCell' = true := by
  intro u hu
  obtain ⟨d, _, hd⟩ := List.mem_flatMap.1 hu
  simp only [Op16.cells, List.mem_cons, List.not_mem_nil, or_false] at hd
  rcases hd with rfl | rfl | rfl | rfl | rfl <;> rfl
def Op16.wf (a : Op16) : Prop := (Lit.int .i64 a.kind).wf = true ∧ (Lit.int .i64 a.tranche).wf = true ∧ (Lit.int .i64 a.day).wf = true ∧ (Lit.int .i64 a.ref).wf = true ∧ (Lit.int .i64 a.amount).wf = true
theorem open_Op16 {H : Type} {enc : TypeId × Value → H} {w : World} {spare : Nat → Bool} {held : Bool} (n : Nat) (cs : List Value) (d : DataW H × List MemPlace) (h : DataW.trod enc Try.prog w 0 spare held n 48 cs = some d) : ∃ a : Op16, cs = a.cells ∧ a.wf := by
  obtain ⟨xs, m, rfl, _, hlen, hxs, hf⟩ := DataW.trod_struct Try.underlying48 h
  have hl : cs.length = 5 := hlen.trans (by kernel_rfl)
  have hx : xs.length = 5 := hxs
  have g0 := hf 0 _ rfl
  rw [show Try.prog.cellsOf _ = 1 from by kernel_rfl, List.getElem?_eq_getElem (show 0 < xs.length by omega)] at g0
  have g1 := hf 1 _ rfl
  rw [show Try.prog.cellsOf _ = 1 from by kernel_rfl, List.getElem?_eq_getElem (show 1 < xs.length by omega)] at g1
  have g2 := hf 2 _ rfl
  rw [show Try.prog.cellsOf _ = 1 from by kernel_rfl, List.getElem?_eq_getElem (show 2 < xs.length by omega)] at g2
  have g3 := hf 3 _ rfl
  rw [show Try.prog.cellsOf _ = 1 from by kernel_rfl, List.getElem?_eq_getElem (show 3 < xs.length by omega)] at g3
  have g4 := hf 4 _ rfl
  rw [show Try.prog.cellsOf _ = 1 from by kernel_rfl, List.getElem?_eq_getElem (show 4 < xs.length by omega)] at g4
  match cs, hl with
  | [c0, c1, c2, c3, c4], _ =>
    obtain ⟨a0, e0, _, w0⟩ := DataW.trod_int Try.underlying3 g0
    simp at e0
    subst e0
    obtain ⟨a1, e1, _, w1⟩ := DataW.trod_int Try.underlying3 g1
    simp at e1
    subst e1
    obtain ⟨a2, e2, _, w2⟩ := DataW.trod_int Try.underlying3 g2
    simp at e2
    subst e2
    obtain ⟨a3, e3, _, w3⟩ := DataW.trod_int Try.underlying3 g3
    simp at e3
    subst e3
    obtain ⟨a4, e4, _, w4⟩ := DataW.trod_int Try.underlying2 g4
    simp at e4
    subst e4
    exact ⟨⟨a0, a1, a2, a3, a4⟩, rfl, w0, w1, w2, w3, w4⟩
/-- The program's book and the reference's, side by side in the call's own memory. -/
structure PI (B : Nat) (w0 w : World) (b : Nat) (v : Value) (L : List Disp) (rb : Nat) (rv : Value) (M : List Disp) : Prop where
  book : BookAt w b v L
  ref : RefAt w rb rv M
  fb : ∀ k, Foot b v k → B ≤ k
  fr : ∀ k, Foot rb rv k → B ≤ k
  ap : ∀ k, Foot b v k → ¬ Foot rb rv k
  bel : Below B w0 w
  le : B ≤ w0.heap.size
section
variable {B : Nat} {w0 w w' : World} {b : Nat} {v : Value} {L L' : List Disp} {rb : Nat} {rv : Value} {M M' : List Disp} {r : Value} {e : Ending}
theorem PI.step (h : PI B w0 w b v L rb rv M) (hk : Keeps (fun _ => False) w w') : PI B w0 w' b v L rb rv M :=
  ⟨h.book.keeps hk (by simp), h.ref.keeps hk (by simp), h.fb, h.fr, h.ap, Below.keeps h.bel hk (by simp) h.le, h.le⟩
theorem PI.size (h : PI B w0 w b v L rb rv M) : B ≤ w.heap.size := Nat.le_trans h.le h.bel.size
theorem PI.onBook (h : PI B w0 w b v L rb rv M) (hp : BookPost w b v L' r e w') : e = .returned r ∧ ∃ v', PI B w0 w' b v' L' rb rv M ∧ Keeps (Foot b v) w w' := by
  obtain ⟨he, v', h1, h2, h3⟩ := hp
  refine ⟨he, v', ⟨h1, h.ref.keeps h2 (fun k hk hf => h.ap k hf hk), fun k hk => ?_, h.fr, fun k hk hr => ?_, Below.keeps h.bel h2 h.fb h.le, h.le⟩, h2⟩
  · rcases h3 k hk with h4 | h4
    · exact h.fb k h4
    · exact Nat.le_trans h.size h4
  · rcases h3 k hk with h4 | h4
    · exact h.ap k h4 hr
    · have := h.ref.lt k hr; omega
theorem PI.onRef (h : PI B w0 w b v L rb rv M) (hp : RefPost w rb rv M' r e w') : e = .returned r ∧ ∃ rv', PI B w0 w' b v L rb rv' M' ∧ Keeps (Foot rb rv) w w' := by
  obtain ⟨he, v', h1, h2, h3⟩ := hp
  refine ⟨he, v', ⟨h.book.keeps h2 (fun k hk hf => h.ap k hk hf), h1, h.fb, fun k hk => ?_, fun k hk hr => ?_, Below.keeps h.bel h2 h.fr h.le, h.le⟩, h2⟩
  · rcases h3 k hk with h4 | h4
    · exact h.fr k h4
    · exact Nat.le_trans h.size h4
  · rcases h3 k hr with h4 | h4
    · exact h.ap k hk h4
    · have := h.book.lt k hk; omega
theorem PI.onFork {b' : Nat} {v' : Value} (h : PI B w0 w b v L rb rv M) (h1 : BookAt w' b' v' L) (h2 : Keeps (fun _ => False) w w') (h3 : ∀ k, Foot b' v' k → w.heap.size ≤ k) : PI B w0 w' b' v' L rb rv M ∧ PI B w0 w' b v L rb rv M ∧ ∀ k, Foot b' v' k → ¬ Foot b v k :=
  ⟨⟨h1, h.ref.keeps h2 (by simp), fun k hk => Nat.le_trans h.size (h3 k hk), h.fr, fun k hk hr => by have := h3 k hk; have := h.ref.lt k hr; omega, Below.keeps h.bel h2 (by simp) h.le, h.le⟩, h.step h2,
    fun k hk hf => by have := h3 k hk; have := h.book.lt k hf; omega⟩
/-- What becomes of the old book behind a fork does not touch the new one. -/
theorem PI.aside {b' : Nat} {v' : Value} (h : PI B w0 w b' v' L rb rv M) (hap : ∀ k, Foot b' v' k → ¬ Foot b v k) (hf : ∀ k, Foot b v k → B ≤ k) (hr : ∀ k, Foot b v k → ¬ Foot rb rv k) (hk : Keeps (Foot b v) w w') : PI B w0 w' b' v' L rb rv M :=
  ⟨h.book.keeps hk hap, h.ref.keeps hk (fun k h1 h2 => hr k h2 h1), h.fb, h.fr, h.ap, Below.keeps h.bel hk hf h.le, h.le⟩
theorem PI.box (h : PI B w0 w b v L rb rv M) {cs : Array Value} {t : TypeId} {x : Nat} (hx : w.heap[x]? = some (.cells cs t (0, 0))) (h1 : x ≠ b) (h2 : t ≠ 32) (hk : Keeps (Foot b v) w w') : w'.heap[x]? = some (.cells cs t (0, 0)) :=
  box_old hx hk fun hf => by
    rcases hf with hf | hf
    · exact h1 hf
    · exact ownsRow_ne h.book.row hx h2 hf
theorem PI.rbox (h : PI B w0 w b v L rb rv M) {cs : Array Value} {t : TypeId} {x : Nat} (hx : w.heap[x]? = some (.cells cs t (0, 0))) (h1 : x ≠ rb) (h2 : t ≠ 32) (hk : Keeps (Foot rb rv) w w') : w'.heap[x]? = some (.cells cs t (0, 0)) :=
  box_old hx hk fun hf => by
    rcases hf with hf | hf
    · exact h1 hf
    · exact ownsRow_ne h.ref.row hx h2 hf
theorem PI.boxNew (h : PI B w0 w b v L rb rv M) {cs : Array Value} {t : TypeId} (hk : Keeps (Foot rb rv) (w.alloc (.cells cs t)) w') : w'.heap[w.heap.size]? = some (.cells cs t (0, 0)) :=
  box_new hk fun hf => by have := h.ref.lt _ hf; omega
theorem PI.boxNewB (h : PI B w0 w b v L rb rv M) {cs : Array Value} {t : TypeId} (hk : Keeps (Foot b v) (w.alloc (.cells cs t)) w') : w'.heap[w.heap.size]? = some (.cells cs t (0, 0)) :=
  box_new hk fun hf => by have := h.book.lt _ hf; omega
theorem PI.boxOld (h : PI B w0 w b v L rb rv M) {o : Obj} {x : Nat} (hx : w.heap[x]? = some o) (h1 : ∀ k, Foot rb rv k → k ≠ x) (hk : Keeps (Foot rb rv) w w') : w'.heap[x]? = some o :=
  box_old hx hk fun hf => h1 x hf rfl
end
theorem plays_start {w w1 w2 : World} (h1 : BookAt w1 w.heap.size (.slice none 0 0) []) (k1 : Keeps (fun _ => False) w w1) (k2 : Keeps (fun _ => False) (w1.alloc (.cells #[.slice none 0 0] 46)) w2) :
    PI w.heap.size w w2 w.heap.size (.slice none 0 0) [] w1.heap.size (.slice none 0 0) [] := by
  have hl := lt_of_block h1.blk
  have hf : ∀ b k, Foot b (.slice none 0 0) k → k = b := fun b k hk => by
    rcases hk with hk | hk
    · exact hk
    · simp [Value.ownBlock] at hk
  refine ⟨(h1.keeps (Keeps.alloc (S := fun _ => False) _ _) (by simp)).keeps k2 (by simp), ⟨box_new k2 (by simp), World.ownsRow_nil _ _ _ _, h1.ok⟩, fun k hk => ?_, fun k hk => ?_, fun k hk hr => ?_, ?_, Nat.le_refl _⟩
  · rw [hf _ _ hk]; exact Nat.le_refl _
  · rw [hf _ _ hk]; exact k1.size
  · have := hf _ _ hk; have := hf _ _ hr; omega
  · exact ((k1.trans (Keeps.alloc _ _)).trans (k2.mono (by simp))).below (by simp) (Nat.le_refl _)
theorem dOpen_length (M : List Disp) (t d a : Int) : (dOpen M t d a).length ≤ M.length + 1 := by unfold dOpen; split <;> simp
theorem PI.asideBook {B : Nat} {w0 w w' : World} {b b' : Nat} {v v' : Value} {L L2 L3 : List Disp} {rb : Nat} {rv : Value} {M : List Disp} {r : Value} {e : Ending} (h' : PI B w0 w b' v' L rb rv M) (h : PI B w0 w b v L2 rb rv M) (hap : ∀ k, Foot b' v' k → ¬ Foot b v k)
    (hp : BookPost w b v L3 r e w') : e = .returned r ∧ ∃ v3, PI B w0 w' b' v' L rb rv M ∧ PI B w0 w' b v3 L3 rb rv M ∧ ∀ k, Foot b' v' k → ¬ Foot b v3 k := by
  have hp' := hp
  obtain ⟨_, v3', h1', h2', h3'⟩ := hp'
  obtain ⟨he, v3, h1, h2, h3⟩ := hp
  have hx : PI B w0 w' b v3 L3 rb rv M := by
    refine ⟨h1, h.ref.keeps h2 (fun k hk hf => h.ap k hf hk), fun k hk => ?_, h.fr, fun k hk hr => ?_, Below.keeps h.bel h2 h.fb h.le, h.le⟩
    · rcases h3 k hk with h4 | h4
      · exact h.fb k h4
      · exact Nat.le_trans h.size h4
    · rcases h3 k hk with h4 | h4
      · exact h.ap k h4 hr
      · have := h.ref.lt k hr; omega
  refine ⟨he, v3, h'.aside hap h.fb h.ap h2, hx, fun k hk hf => ?_⟩
  rcases h3 k hf with h4 | h4
  · exact hap k hk h4
  · have := h'.book.lt k hk; omega
theorem dispGet_at (ref : Int) (h1 : 1 ≤ ref) {d0 d1 d2 d3 d4 : Int} (L : List Disp) (v : Value) (b : Nat) (w : World) (h : BookAt w b v L) (hx : L[(ref - 1).toNat]? = some ⟨d0, d1, d2, d3, d4⟩) : Calls Try.prog 11 #[(.pointer (some ⟨b, 0, none⟩)), .int .i64 ref] w
    fun e w' => e = .returned (.tuple #[.agg #[.int .i64 d0, .int .i64 d1, .int .i64 d2, .int .i64 d3, .int .i64 d4], .bool true]) ∧ Keeps (fun _ => False) w w' := by
  have := dispGet_yes (ref - 1).toNat _ L v b w h hx
  rwa [show (((ref - 1).toNat : Nat) : Int) + 1 = ref from by omega] at this
theorem dispEnd_pi {B : Nat} {w0 w : World} {b : Nat} {v : Value} {L : List Disp} {rb : Nat} {rv : Value} {M : List Disp} (h : PI B w0 w b v L rb rv M) (ref : Int) (lost : Bool) {d0 d1 d2 d3 d4 : Int} (hd : dEnded L ref lost = ⟨d0, d1, d2, d3, d4⟩) :
    Calls Try.prog 10 #[(.pointer (some ⟨b, 0, none⟩)), .int .i64 ref, .bool lost] w fun e w' => e = .returned (.tuple #[.agg #[.int .i64 d0, .int .i64 d1, .int .i64 d2, .int .i64 d3, .int .i64 d4], .int .i64 (dEndErr L ref)]) ∧ ∃ v', PI B w0 w' b v' (dEnd L ref lost) rb rv M ∧ Keeps (Foot b v) w w' := by
  have := dispEnd_any ref lost L v b w h.book
  rw [hd] at this
  exact this.mono fun _ _ hp => h.onBook hp
theorem rdispEnd_pi {B : Nat} {w0 w : World} {b : Nat} {v : Value} {L : List Disp} {rb : Nat} {rv : Value} {M : List Disp} (h : PI B w0 w b v L rb rv M) (ref : Int) (lost : Bool) {d0 d1 d2 d3 d4 : Int} (hd : dEnded M ref lost = ⟨d0, d1, d2, d3, d4⟩) :
    Calls Try.prog 14 #[(.pointer (some ⟨rb, 0, none⟩)), .int .i64 ref, .bool lost] w fun e w' => e = .returned (.tuple #[.agg #[.int .i64 d0, .int .i64 d1, .int .i64 d2, .int .i64 d3, .int .i64 d4], .int .i64 (dEndErr M ref)]) ∧ ∃ rv', PI B w0 w' b v L rb rv' (dEnd M ref lost) ∧ Keeps (Foot rb rv) w w' := by
  have := rdispEnd_any ref lost M rv rb w h.ref
  rw [hd] at this
  exact this.mono fun _ _ hp => h.onRef hp
set_option maxRecDepth 100000 in
set_option maxHeartbeats 1600000 in
theorem disputePlays_walk (w : World) (ad : Option Addr) (cap : Nat) (L : List Op16) (hr : Reads w 5 (.slice ad L.length cap) L.length (L.flatMap Op16.cells)) (hp : ∀ a ∈ L, a.wf) (hm : L.length ≤ maxLen)
    (ask : Int) (hask : (Lit.int .i64 ask).wf = true) :
    Calls Try.prog 5 #[.slice ad L.length cap, .int .i64 ask] w fun e w' => e = .returned (.bool true) ∧ Below w.heap.size w w' := by
  unfold maxLen at hm
  have Hr := Lib.hid hr; clear hr; have Hp := Lib.hid hp; clear hp; have Hask := Lib.hid hask; clear hask
  go_enter Try.func5, Try.ntmps5
  go_wp2_with (go_at_call 7; refine (dispNew_any _).mono ?_; rintro e w1 ⟨rfl, hb1, hk1⟩; have Hb1 := Lib.hid hb1; have Hk1 := Lib.hid hk1; clear hb1 hk1)
  go_wp2_with (go_at_call 8; refine (awake16_any _).mono ?_; rintro e w2 ⟨rfl, hk2⟩; have Hk2 := Lib.hid hk2; clear hk2)
  have h0 : PI w.heap.size w w2 w.heap.size (.slice none 0 0) [] w1.heap.size (.slice none 0 0) [] := plays_start Hb1.out Hk1.out Hk2.out
  have hpos : w.heap.size ≠ w1.heap.size := by have := lt_of_block Hb1.out.blk; omega
  have H0 := Lib.hid h0; clear h0; have Hpos := Lib.hid hpos; clear hpos
  go_loopw [5, 7] (fun bp i wr => ∃ k b v rv M, k ≤ L.length ∧ M.length ≤ k ∧ bp = .pointer (some ⟨b, 0, none⟩) ∧ i = .int .i64 (k : Nat) ∧ PI w.heap.size w wr b v M w1.heap.size rv M) (fun _ i _ => L.length - (intOf i).toNat)
  case atStart => exact ⟨0, _, _, _, [], Nat.zero_le _, Nat.le_refl _, rfl, rfl, H0.out⟩
  case round =>
    obtain ⟨k, b, v, rv, M, hk, hMk, rfl, rfl, hpi⟩ := hrel
    have Hpi := Lib.hid hpi; clear hpi
    by_cases hlt : k < L.length ∧ k < 60
    · obtain ⟨hlt, h60⟩ := hlt
      obtain ⟨x, hx⟩ : ∃ x, L[k]? = some x := ⟨L[k], List.getElem?_eq_getElem hlt⟩
      obtain ⟨g, o, c, he, hc⟩ := (Hr.out.below Hpi.out.bel).elem Op16.cells_length hx (by decide)
      simp only [Value.slice.injEq, true_and] at he
      obtain ⟨rfl, rfl⟩ := he
      obtain ⟨xk, xt, xd, xr, xa⟩ := x
      have x0 : wr.cell? ⟨g, o + k * 5, none⟩ = some (.int .i64 xk) := hc 0 (by decide)
      have x1 : wr.cell? ⟨g, o + k * 5 + 1, none⟩ = some (.int .i64 xt) := hc 1 (by decide)
      have x2 : wr.cell? ⟨g, o + k * 5 + 2, none⟩ = some (.int .i64 xd) := hc 2 (by decide)
      have x3 : wr.cell? ⟨g, o + k * 5 + 3, none⟩ = some (.int .i64 xr) := hc 3 (by decide)
      have x4 : wr.cell? ⟨g, o + k * 5 + 4, none⟩ = some (.int .i64 xa) := hc 4 (by decide)
      clear hc
      have Hx := Lib.hid hx; clear hx
      by_cases hkind : xk = 1 ∨ xk = 2 ∨ xk = 3
      · rcases hkind with rfl | rfl | rfl
        · obtain ⟨d0, d1, d2, d3, d4, hd⟩ : ∃ d0 d1 d2 d3 d4, dEnded M xr true = ⟨d0, d1, d2, d3, d4⟩ := ⟨_, _, _, _, _, rfl⟩
          have Hd := Lib.hid hd; clear hd
          go_wp2_with (first
            | (go_at_call 10; refine (dispEnd_pi (Hpi.out.step (Keeps.alloc _ _)) _ _ Hd.out).mono ?_; rintro e w3 ⟨rfl, v3, hp3, hk3⟩; have Hp3 := Lib.hid hp3; have hbx := Hpi.out.boxNewB hk3; have c0 := cell_of_cells hbx 0; have c3 := cell_of_cells hbx 3; have l3 := lt_of_block hbx; clear hk3 hp3 hbx)
            | (go_at_call 14; refine (rdispEnd_pi (Hp3.out.step (Keeps.alloc _ _)) _ _ Hd.out).mono ?_; rintro e w4 ⟨rfl, rv4, hp4, hk4⟩; have Hp4 := Lib.hid hp4; have hbx := Hp3.out.boxNew hk4; have b0 := cell_of_cells hbx 0; have b1 := cell_of_cells hbx 1; have b2 := cell_of_cells hbx 2; have b3 := cell_of_cells hbx 3; have b4 := cell_of_cells hbx 4; have l4 := lt_of_block hbx; clear hk4 hp4 c0 c3 hbx))
          have hq := Hp4.out.step (Keeps.alloc w4 (.cells #[.int .i64 d0, .int .i64 d1, .int .i64 d2, .int .i64 d3, .int .i64 d4] 32))
          obtain ⟨W, hW⟩ : ∃ W, W = w4.alloc (.cells #[.int .i64 d0, .int .i64 d1, .int .i64 d2, .int .i64 d3, .int .i64 d4] 32) := ⟨_, rfl⟩
          rw [← hW] at hq ⊢
          clear hW
          obtain ⟨N, hN⟩ : ∃ N, N = dEnd M xr true := ⟨_, rfl⟩
          have hNl : N.length ≤ k + 1 := by rw [hN, dEnd_length]; omega
          rw [← hN] at hq
          have Hq := Lib.hid hq; have HN := Lib.hid hNl
          clear hq hN hNl Hp4 b0 b1 b2 b3 b4
          obtain ⟨ad4, cap4, rfl, _, _⟩ := ownsRow_shape Hq.out.ref.row
          have d4 := cell_of_cells Hq.out.ref.blk 0
          have hl : N.length ≤ 2000 := Hq.out.book.ok.1
          go_region_held3 (fun w' => w'.cell? ⟨w1.heap.size, 0, none⟩ = some (.slice ad4 N.length cap4)) (first | go_keep) (first
            | (go_at_call 13; refine (dispAll_any _ _ _ _ (Hq.out.step (Keeps.drew _)).book).mono ?_; rintro e w5 ⟨v5, rfl, hown5, hk5, hf5⟩; obtain ⟨ad5, cap5, rfl, _, _⟩ := ownsRow_shape hown5; have Hp5 := Lib.hid ((Hq.out.step (Keeps.drew _)).step hk5); have Ho5 := Lib.hid hown5; have d5 := cell_of_cells Hp5.out.ref.blk 0; clear hown5 hk5 hf5)
            | (go_at_call 17; refine (plainDisp_same _ _ _ _ (Reads.of_owns Ho5.out) (Reads.of_owns Hp5.out.ref.row) (by omega)).mono ?_; rintro e w6 ⟨rfl, hk6⟩; have Hp6 := Lib.hid (Hp5.out.step hk6); have d6 := cell_of_cells Hp6.out.ref.blk 0; clear hk6)
            | (go_at_call 12; refine (dispHeld_any _ _ _ _ Hp6.out.book).mono ?_; rintro e w7 ⟨rfl, rfl⟩)
            | (go_at_call 18; refine (rdispHeld_any _ _ _ _ Hp6.out.ref).mono ?_; rintro e w8 ⟨rfl, rfl⟩))
          go_wp2
          go_roundw
          case rel => exact ⟨k + 1, _, _, _, N, by omega, HN.out, rfl, by go_num, Hp6.out⟩
          case measure => simp [intOf]; omega
        · obtain ⟨d0, d1, d2, d3, d4, hd⟩ : ∃ d0 d1 d2 d3 d4, dEnded M xr false = ⟨d0, d1, d2, d3, d4⟩ := ⟨_, _, _, _, _, rfl⟩
          have Hd := Lib.hid hd; clear hd
          go_wp2_with (first
            | (go_at_call 10; refine (dispEnd_pi (Hpi.out.step (Keeps.alloc _ _)) _ _ Hd.out).mono ?_; rintro e w3 ⟨rfl, v3, hp3, hk3⟩; have Hp3 := Lib.hid hp3; have hbx := Hpi.out.boxNewB hk3; have c0 := cell_of_cells hbx 0; have c3 := cell_of_cells hbx 3; have l3 := lt_of_block hbx; clear hk3 hp3 hbx)
            | (go_at_call 14; refine (rdispEnd_pi (Hp3.out.step (Keeps.alloc _ _)) _ _ Hd.out).mono ?_; rintro e w4 ⟨rfl, rv4, hp4, hk4⟩; have Hp4 := Lib.hid hp4; have hbx := Hp3.out.boxNew hk4; have b0 := cell_of_cells hbx 0; have b1 := cell_of_cells hbx 1; have b2 := cell_of_cells hbx 2; have b3 := cell_of_cells hbx 3; have b4 := cell_of_cells hbx 4; have l4 := lt_of_block hbx; clear hk4 hp4 c0 c3 hbx))
          have hq := Hp4.out.step (Keeps.alloc w4 (.cells #[.int .i64 d0, .int .i64 d1, .int .i64 d2, .int .i64 d3, .int .i64 d4] 32))
          obtain ⟨W, hW⟩ : ∃ W, W = w4.alloc (.cells #[.int .i64 d0, .int .i64 d1, .int .i64 d2, .int .i64 d3, .int .i64 d4] 32) := ⟨_, rfl⟩
          rw [← hW] at hq ⊢
          clear hW
          obtain ⟨N, hN⟩ : ∃ N, N = dEnd M xr false := ⟨_, rfl⟩
          have hNl : N.length ≤ k + 1 := by rw [hN, dEnd_length]; omega
          rw [← hN] at hq
          have Hq := Lib.hid hq; have HN := Lib.hid hNl
          clear hq hN hNl Hp4 b0 b1 b2 b3 b4
          obtain ⟨ad4, cap4, rfl, _, _⟩ := ownsRow_shape Hq.out.ref.row
          have d4 := cell_of_cells Hq.out.ref.blk 0
          have hl : N.length ≤ 2000 := Hq.out.book.ok.1
          go_region_held3 (fun w' => w'.cell? ⟨w1.heap.size, 0, none⟩ = some (.slice ad4 N.length cap4)) (first | go_keep) (first
            | (go_at_call 13; refine (dispAll_any _ _ _ _ (Hq.out.step (Keeps.drew _)).book).mono ?_; rintro e w5 ⟨v5, rfl, hown5, hk5, hf5⟩; obtain ⟨ad5, cap5, rfl, _, _⟩ := ownsRow_shape hown5; have Hp5 := Lib.hid ((Hq.out.step (Keeps.drew _)).step hk5); have Ho5 := Lib.hid hown5; have d5 := cell_of_cells Hp5.out.ref.blk 0; clear hown5 hk5 hf5)
            | (go_at_call 17; refine (plainDisp_same _ _ _ _ (Reads.of_owns Ho5.out) (Reads.of_owns Hp5.out.ref.row) (by omega)).mono ?_; rintro e w6 ⟨rfl, hk6⟩; have Hp6 := Lib.hid (Hp5.out.step hk6); have d6 := cell_of_cells Hp6.out.ref.blk 0; clear hk6)
            | (go_at_call 12; refine (dispHeld_any _ _ _ _ Hp6.out.book).mono ?_; rintro e w7 ⟨rfl, rfl⟩)
            | (go_at_call 18; refine (rdispHeld_any _ _ _ _ Hp6.out.ref).mono ?_; rintro e w8 ⟨rfl, rfl⟩))
          go_wp2
          go_roundw
          case rel => exact ⟨k + 1, _, _, _, N, by omega, HN.out, rfl, by go_num, Hp6.out⟩
          case measure => simp [intOf]; omega
        · go_wp2_with (first
            | (go_at_call 15; refine (dispFork_any M v b _ (Hpi.out.step (Keeps.alloc _ _)).book).mono ?_; rintro e w3 ⟨b', v', rfl, hb3, hk3, hf3⟩; have Hp3 := Lib.hid ((Hpi.out.step (Keeps.alloc _ _)).onFork hb3 hk3 hf3); clear hk3 hb3 hf3)
            | (go_at_call 9; refine (dispOpen_any _ _ _ M v b _ Hp3.out.2.1.book).mono ?_; rintro e w4 hq4; obtain ⟨rfl, v4, hp4⟩ := PI.asideBook Hp3.out.1 Hp3.out.2.1 Hp3.out.2.2 hq4; have Hp4 := Lib.hid hp4; clear hp4 hq4)
            | (go_at_call 10; refine (dispEnd_any _ _ _ v4 b _ Hp4.out.2.1.book).mono ?_; rintro e w5 hq5; obtain ⟨rfl, v5, hp5⟩ := PI.asideBook Hp4.out.1 Hp4.out.2.1 Hp4.out.2.2 hq5; have Hp5 := Lib.hid hp5; clear hp5 hq5))
          have Hq := Lib.hid Hp5.out.1
          have hNl : M.length ≤ k + 1 := by omega
          have HN := Lib.hid hNl
          obtain ⟨N, hN⟩ : ∃ N, N = M := ⟨_, rfl⟩
          subst hN
          clear Hp5 hNl
          obtain ⟨ad4, cap4, rfl, _, _⟩ := ownsRow_shape Hq.out.ref.row
          have d4 := cell_of_cells Hq.out.ref.blk 0
          have hl : N.length ≤ 2000 := Hq.out.book.ok.1
          go_region_held3 (fun w' => w'.cell? ⟨w1.heap.size, 0, none⟩ = some (.slice ad4 N.length cap4)) (first | go_keep) (first
            | (go_at_call 13; refine (dispAll_any _ _ _ _ (Hq.out.step (Keeps.drew _)).book).mono ?_; rintro e w5 ⟨v5, rfl, hown5, hk5, hf5⟩; obtain ⟨ad5, cap5, rfl, _, _⟩ := ownsRow_shape hown5; have Hp5 := Lib.hid ((Hq.out.step (Keeps.drew _)).step hk5); have Ho5 := Lib.hid hown5; have d5 := cell_of_cells Hp5.out.ref.blk 0; clear hown5 hk5 hf5)
            | (go_at_call 17; refine (plainDisp_same _ _ _ _ (Reads.of_owns Ho5.out) (Reads.of_owns Hp5.out.ref.row) (by omega)).mono ?_; rintro e w6 ⟨rfl, hk6⟩; have Hp6 := Lib.hid (Hp5.out.step hk6); have d6 := cell_of_cells Hp6.out.ref.blk 0; clear hk6)
            | (go_at_call 12; refine (dispHeld_any _ _ _ _ Hp6.out.book).mono ?_; rintro e w7 ⟨rfl, rfl⟩)
            | (go_at_call 18; refine (rdispHeld_any _ _ _ _ Hp6.out.ref).mono ?_; rintro e w8 ⟨rfl, rfl⟩))
          go_wp2
          go_roundw
          case rel => exact ⟨k + 1, _, _, _, N, by omega, HN.out, rfl, by go_num, Hp6.out⟩
          case measure => simp [intOf]; omega
      · have k1 : (xk == 1) = false := beq_eq_false_iff_ne.2 (by omega)
        have k2 : (xk == 2) = false := beq_eq_false_iff_ne.2 (by omega)
        have k3 : (xk == 3) = false := beq_eq_false_iff_ne.2 (by omega)
        clear hkind
        have Hop := Lib.hid (dOpen_ok Hpi.out.book.ok xt xd xa)
        go_wp2_with (first
          | (go_at_call 9; refine (dispOpen_any _ _ _ M v b _ (Hpi.out.step (Keeps.alloc _ _)).book).mono ?_; rintro e w3 hq3; obtain ⟨rfl, v3, hp3, hk3⟩ := (Hpi.out.step (Keeps.alloc _ _)).onBook hq3; have Hp3 := Lib.hid hp3; have hbx := Hpi.out.boxNewB hk3; have c1 := cell_of_cells hbx 1; have c2 := cell_of_cells hbx 2; have c4 := cell_of_cells hbx 4; clear hk3 hp3 hq3 hbx)
          | (go_at_call 16; refine (rdispOpen_any _ _ _ M rv _ _ Hp3.out.ref).mono ?_; rintro e w4 hq4; obtain ⟨rfl, rv4, hp4, hk4⟩ := Hp3.out.onRef hq4; have Hp4 := Lib.hid hp4; clear hk4 hp4 hq4 c1 c2 c4))
        have hq := Hp4.out
        obtain ⟨N, hN⟩ : ∃ N, N = dOpen M xt xd xa := ⟨_, rfl⟩
        have hNl : N.length ≤ k + 1 := by rw [hN]; exact Nat.le_trans (dOpen_length M xt xd xa) (by omega)
        rw [← hN] at hq
        have Hq := Lib.hid hq; have HN := Lib.hid hNl
        clear hq hN hNl Hp4
        obtain ⟨ad4, cap4, rfl, _, _⟩ := ownsRow_shape Hq.out.ref.row
        have d4 := cell_of_cells Hq.out.ref.blk 0
        have hl : N.length ≤ 2000 := Hq.out.book.ok.1
        go_region_held3 (fun w' => w'.cell? ⟨w1.heap.size, 0, none⟩ = some (.slice ad4 N.length cap4)) (first | go_keep) (first
          | (go_at_call 13; refine (dispAll_any _ _ _ _ (Hq.out.step (Keeps.drew _)).book).mono ?_; rintro e w5 ⟨v5, rfl, hown5, hk5, hf5⟩; obtain ⟨ad5, cap5, rfl, _, _⟩ := ownsRow_shape hown5; have Hp5 := Lib.hid ((Hq.out.step (Keeps.drew _)).step hk5); have Ho5 := Lib.hid hown5; have d5 := cell_of_cells Hp5.out.ref.blk 0; clear hown5 hk5 hf5)
          | (go_at_call 17; refine (plainDisp_same _ _ _ _ (Reads.of_owns Ho5.out) (Reads.of_owns Hp5.out.ref.row) (by omega)).mono ?_; rintro e w6 ⟨rfl, hk6⟩; have Hp6 := Lib.hid (Hp5.out.step hk6); have d6 := cell_of_cells Hp6.out.ref.blk 0; clear hk6)
          | (go_at_call 12; refine (dispHeld_any _ _ _ _ Hp6.out.book).mono ?_; rintro e w7 ⟨rfl, rfl⟩)
          | (go_at_call 18; refine (rdispHeld_any _ _ _ _ Hp6.out.ref).mono ?_; rintro e w8 ⟨rfl, rfl⟩))
        go_wp2
        go_roundw
        case rel => exact ⟨k + 1, _, _, _, N, by omega, HN.out, rfl, by go_num, Hp6.out⟩
        case measure => simp [intOf]; omega
    · obtain ⟨ad4, cap4, rfl, _, _⟩ := ownsRow_shape Hpi.out.ref.row
      have d0 := cell_of_cells Hpi.out.ref.blk 0
      have hl : M.length ≤ 2000 := Hpi.out.book.ok.1
      have hrb := lt_of_block Hpi.out.ref.blk
      have hend : L.length ≤ k ∨ (k < L.length ∧ 60 ≤ k) := by omega
      clear hlt
      by_cases hno : ask < 1 ∨ (M.length : Int) < ask
      · rcases hend with he | ⟨he, he'⟩ <;> rcases (show ask < 1 ∨ (1 ≤ ask ∧ (M.length : Int) < ask) from by omega) with ha | ⟨ha1, ha⟩ <;>
        · go_wp2_with (go_at_call 11; refine (dispGet_no _ M v b _ Hpi.out.book hno).mono ?_; rintro e w3 ⟨rfl, hk3⟩; have Hp3 := Lib.hid (Hpi.out.step hk3); have e0 := cell_of_cells Hp3.out.ref.blk 0; have e1 := lt_of_block Hp3.out.ref.blk; clear hk3)
          go_ret
          exact ⟨rfl, (Hp3.out.step (Keeps.alloc _ _)).bel⟩
      · have ha1 : 1 ≤ ask := by omega
        have ha2 : ask ≤ M.length := by omega
        obtain ⟨j, hj⟩ : ∃ j : Nat, (ask - 1).toNat = j := ⟨_, rfl⟩
        have hjl : j < M.length := by omega
        have hj1 : ask - 1 = (j : Int) := by omega
        obtain ⟨x, hx⟩ : ∃ x, M[j]? = some x := ⟨M[j], List.getElem?_eq_getElem hjl⟩
        have hx' : M[(ask - 1).toNat]? = some x := by rw [hj]; exact hx
        clear hj
        obtain ⟨g2, c2, hv2, hg2⟩ := owns_some Hpi.out.ref.row (by omega)
        simp only [Value.slice.injEq, true_and] at hv2
        obtain ⟨rfl, rfl⟩ := hv2
        obtain ⟨xr, xt, xd, xa, xs⟩ := x
        have Hx := Lib.hid hx; clear hx; have Hx' := Lib.hid hx'; clear hx'; have Hj1 := Lib.hid hj1; clear hj1
        clear hno
        rcases hend with he | ⟨he, he'⟩ <;>
        · go_wp2_with (go_at_call 11; refine (dispGet_at _ ha1 M v b _ Hpi.out.book Hx'.out).mono ?_; rintro e w3 ⟨rfl, hk3⟩; have Hp3 := Lib.hid (Hpi.out.step hk3); have e0 := cell_of_cells Hp3.out.ref.blk 0; have e1 := lt_of_block Hp3.out.ref.blk; have e2 : g2 < w3.heap.size := (Hp3.out.ref.row.lt g2 rfl).2; have z0 : w3.cell? ⟨g2, j * 5, none⟩ = some (.int .i64 xr) := owns_elem Disp.cells_length Hp3.out.ref.row Hx.out 0 (by decide); have z1 : w3.cell? ⟨g2, j * 5 + 1, none⟩ = some (.int .i64 xt) := owns_elem Disp.cells_length Hp3.out.ref.row Hx.out 1 (by decide); have z2 : w3.cell? ⟨g2, j * 5 + 2, none⟩ = some (.int .i64 xd) := owns_elem Disp.cells_length Hp3.out.ref.row Hx.out 2 (by decide); have z3 : w3.cell? ⟨g2, j * 5 + 3, none⟩ = some (.int .i64 xa) := owns_elem Disp.cells_length Hp3.out.ref.row Hx.out 3 (by decide); have z4 : w3.cell? ⟨g2, j * 5 + 4, none⟩ = some (.int .i64 xs) := owns_elem Disp.cells_length Hp3.out.ref.row Hx.out 4 (by decide); clear hk3)
          have ew : IntKind.i64.wrap (ask - 1) = (j : Int) := by rw [Hj1.out]; exact IntWalk.i64_in _ (by omega)
          have ew3 : (j : Int) < (M.length : Int) := by omega
          go_quiet (fail)
          go_wp2
          go_ret
          exact ⟨rfl, ((Hp3.out.step (Keeps.alloc _ _)).step (Keeps.drewN _ _)).bel⟩
end Go.Proofs.Ytmiafnndoioddaa
