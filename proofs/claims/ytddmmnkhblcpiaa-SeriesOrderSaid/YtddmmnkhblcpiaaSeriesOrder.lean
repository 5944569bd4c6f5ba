/- SeriesOrder: in whatever order days are set, one by one, it is the same series; the last word of a day counts. -/
import Derived.Test.YtddmmnkhblcpiaaSerTwo
import Derived.Deep.RegionHeld3
import Derived.Test.YtddmmnkhblcpiaaSeriesSplit
import Derived.Test.YtddmmnkhblcpiaaKit3
namespace Go.Proofs.Ytddmmnkhblcpiaa
open Go.RowKit
theorem info_tSet12 : (Try.prog.info? 30).map (fun i => (i.zero, i.size, i.bytes)) = some (some (.agg #[.int .i64 0, .int .i64 0]), 2, 16) := by kernel_rfl
/-- A copy that is made: the old row stays. -/
theorem Fresh.app2 {w0 w w' : World} {v v' : Value} (h : Fresh w0 w v) (hk : Keeps (fun k => (Value.slice none 0 0).ownBlock = some k) w w') (hf : v'.ownBlock = (Value.slice none 0 0).ownBlock ∨ ∃ g, v'.ownBlock = some g ∧ w.heap.size ≤ g) :
    Keeps (fun _ => False) w w' ∧ Keeps (fun _ => False) w0 w' ∧ ∀ g, v'.ownBlock = some g → w0.heap.size ≤ g ∧ w.heap.size ≤ g := by
  have hk' : Keeps (fun _ => False) w w' := hk.mono (fun k _ h => by simp [Value.ownBlock] at h)
  refine ⟨hk', h.1.trans (hk'.mono (fun _ _ h => h.elim)), fun g hg => ?_⟩
  have := h.1.size
  rcases hf with hf | ⟨g', hg', hh⟩
  · rw [hf] at hg; simp [Value.ownBlock] at hg
  · rw [hg'] at hg; simp only [Option.some.injEq] at hg; omega
/-- Distinct days, in their bounds. -/
def OrdOk (S : List Turn) : Prop := (S.Pairwise fun a b => a.day ≠ b.day) ∧ ∀ x ∈ S, 0 ≤ x.day ∧ x.day ≤ 99 ∧ 1 ≤ x.balance ∧ x.balance ≤ 20
def seenT (S : List Turn) (d : Int) : Bool := S.any fun x => x.day == d
theorem seenT_snoc (S : List Turn) (x : Turn) (d : Int) : seenT (S ++ [x]) d = (seenT S d || x.day == d) := by simp [seenT]
theorem OrdOk.snoc {S : List Turn} (h : OrdOk S) {d b : Int} (hs : seenT S d = false) (h0 : 0 ≤ d) (h1 : d ≤ 99) (h2 : 1 ≤ b) (h3 : b ≤ 20) : OrdOk (S ++ [⟨d, b⟩]) := by
  refine ⟨List.pairwise_append.2 ⟨h.1, by simp, fun x hx y hy => ?_⟩, fun x hx => ?_⟩
  · simp at hy; subst hy
    intro e
    have : seenT S d = true := by unfold seenT; rw [List.any_eq_true]; exact ⟨x, hx, by simpa using e⟩
    rw [hs] at this; simp at this
  · rcases List.mem_append.1 hx with hx | hx
    · exact h.2 x hx
    · simp at hx; subst hx; exact ⟨h0, h1, h2, h3⟩
theorem swap_row {wr : World} {gm cap n p q : Nat} {T : List Turn} {pd pb qd qb : Int} (hrm : wr.ownsRow 0 30 2 (.slice (some ⟨gm, 0, none⟩) n cap) n (T.flatMap Turn.cells)) (htp : T[p]? = some ⟨pd, pb⟩) (htq : T[q]? = some ⟨qd, qb⟩) :
    ((((wr.setCell ⟨gm, p * 2, none⟩ (.int .i64 qd)).setCell ⟨gm, p * 2 + 1, none⟩ (.int .i64 qb)).setCell ⟨gm, q * 2, none⟩ (.int .i64 pd)).setCell ⟨gm, q * 2 + 1, none⟩ (.int .i64 pb)).ownsRow 0 30 2 (.slice (some ⟨gm, 0, none⟩) n cap) n (((T.set p ⟨qd, qb⟩).set q ⟨pd, pb⟩).flatMap Turn.cells) := by
  have hpl := lt_of_get htp
  have s0 := (hrm.stored (p * 2) (.int .i64 qd)).1
  have f0 := flat_set Turn.cells_length htp (j := 0) (by decide) (y := ⟨qd, pb⟩) (u := .int .i64 qd) rfl
  rw [Nat.add_zero] at f0
  rw [f0] at s0
  have s1 := (s0.stored (p * 2 + 1) (.int .i64 qb)).1
  have f1 := flat_set Turn.cells_length (L := T.set p ⟨qd, pb⟩) (k := p) (x := ⟨qd, pb⟩) (by rw [List.getElem?_set_self hpl]) (j := 1) (by decide) (y := ⟨qd, qb⟩) (u := .int .i64 qb) rfl
  rw [f1, List.set_set] at s1
  have hq : (T.set p ⟨qd, qb⟩)[q]? = some ⟨qd, qb⟩ := by
    by_cases h : p = q
    · subst h; rw [List.getElem?_set_self hpl]
    · rw [List.getElem?_set_ne h]; exact htq
  have hql : q < (T.set p ⟨qd, qb⟩).length := lt_of_get hq
  have s2 := (s1.stored (q * 2) (.int .i64 pd)).1
  have f2 := flat_set Turn.cells_length hq (j := 0) (by decide) (y := ⟨pd, qb⟩) (u := .int .i64 pd) rfl
  rw [Nat.add_zero] at f2
  rw [f2] at s2
  have s3 := (s2.stored (q * 2 + 1) (.int .i64 pb)).1
  have f3 := flat_set Turn.cells_length (L := (T.set p ⟨qd, qb⟩).set q ⟨pd, qb⟩) (k := q) (x := ⟨pd, qb⟩) (by rw [List.getElem?_set_self hql]) (j := 1) (by decide) (y := ⟨pd, pb⟩) (u := .int .i64 pb) rfl
  rw [f3, List.set_set] at s3
  exact s3
theorem serSet_two1 {w0 w : World} {b1 : Nat} {v1 : Value} {L1 : List Turn} {b2 : Nat} {v2 : Value} {L2 : List Turn} {lv mv : Value} {n : Nat} {S T : List Turn} (h : Two w0 w b1 v1 L1 b2 v2 L2 lv mv n S T) {d a : Int} (hl : L1.length ≤ 99999) (h0 : 0 ≤ d) (h1 : d ≤ 99) (h2 : 1 ≤ a) (h3 : a ≤ 20) :
    Calls Try.prog 9 #[(.pointer (some ⟨b1, 0, none⟩)), .int .i64 d, .int .i64 a] w fun e w' => e = .returned (.int .i64 0) ∧ ∃ v1', Two w0 w' b1 v1' (setT L1 d a) b2 v2 L2 lv mv n S T ∧ Keeps (Foot b1 v1) w w' := by
  have he : setErr (clampT 0) d a = 0 := by unfold setErr clampT; rw [if_neg (by omega), if_neg (by omega)]
  have hL : serSetL (clampT 0) L1 d a = setT L1 d a := by unfold serSetL; rw [if_pos he]
  have := serSet_any d a b1 v1 (clampT 0) L1 w h.s1 hl (by omega)
  rw [he, hL] at this
  exact this.mono fun _ _ hp => h.one hp
theorem serSet_two2 {w0 w : World} {b1 : Nat} {v1 : Value} {L1 : List Turn} {b2 : Nat} {v2 : Value} {L2 : List Turn} {lv mv : Value} {n : Nat} {S T : List Turn} (h : Two w0 w b1 v1 L1 b2 v2 L2 lv mv n S T) {d a : Int} (hl : L2.length ≤ 99999) (h0 : 0 ≤ d) (h1 : d ≤ 99) (h2 : 1 ≤ a) (h3 : a ≤ 20) :
    Calls Try.prog 9 #[(.pointer (some ⟨b2, 0, none⟩)), .int .i64 d, .int .i64 a] w fun e w' => e = .returned (.int .i64 0) ∧ ∃ v2', Two w0 w' b1 v1 L1 b2 v2' (setT L2 d a) lv mv n S T ∧ Keeps (Foot b2 v2) w w' := by
  have he : setErr (clampT 0) d a = 0 := by unfold setErr clampT; rw [if_neg (by omega), if_neg (by omega)]
  have hL : serSetL (clampT 0) L2 d a = setT L2 d a := by unfold serSetL; rw [if_pos he]
  have := serSet_any d a b2 v2 (clampT 0) L2 w h.s2 hl (by omega)
  rw [he, hL] at this
  exact this.mono fun _ _ hp => h.two hp
theorem two_start {w wr : World} {lv mv : Value} {n : Nat} {S T : List Turn} (hk : Keeps (fun _ => False) w wr) (hl : wr.ownsRow 0 30 2 lv n (S.flatMap Turn.cells)) (hm : wr.ownsRow 0 30 2 mv n (T.flatMap Turn.cells)) :
    Two w ((wr.alloc (.cells #[.int .i64 (clampT 0), .slice none 0 0] 52)).alloc (.cells #[.int .i64 (clampT 0), .slice none 0 0] 52)) wr.heap.size (.slice none 0 0) [] (wr.heap.size + 1) (.slice none 0 0) [] lv mv n S T := by
  have hf : ∀ b k, Foot b (.slice none 0 0) k → k = b := fun b k hk => by
    rcases hk with hk | hk
    · exact hk
    · simp [Value.ownBlock] at hk
  have hs := hk.size
  have hok : SerOk (clampT 0) [] := ⟨List.Pairwise.nil, by simp⟩
  have hcl : -1099511627776 ≤ clampT 0 ∧ clampT 0 ≤ 1099511627776 := by unfold clampT; omega
  have b2 := heap_alloc_new (wr.alloc (.cells #[.int .i64 (clampT 0), .slice none 0 0] 52)) (.cells #[.int .i64 (clampT 0), .slice none 0 0] 52)
  have ka : Keeps (fun _ => False) wr ((wr.alloc (.cells #[.int .i64 (clampT 0), .slice none 0 0] 52)).alloc (.cells #[.int .i64 (clampT 0), .slice none 0 0] 52)) := (Keeps.alloc _ _).trans (Keeps.alloc _ _)
  refine ⟨⟨box_alloc (heap_alloc_new wr _) _, World.ownsRow_nil _ _ _ _, hok, hcl⟩, ⟨by simpa using b2, World.ownsRow_nil _ _ _ _, hok, hcl⟩, fun k h1 h2 => ?_, fun k hk => ?_, fun k hk => ?_, hk.trans (ka.mono (by simp)), ka.row hl (by simp), ka.row hm (by simp)⟩
  · have := hf _ _ h1; have := hf _ _ h2; omega
  · rw [hf _ _ hk]; omega
  · rw [hf _ _ hk]; omega
theorem sum99 {L : List Turn} {f : Int} (h : SerOk f L) : sumErr L 0 99 = 0 := by
  obtain ⟨s1, s2, _, _, _, _, h3, _⟩ := split_facts h 0 50 49 (by omega) (by omega) (by omega)
  simpa using h3.1
section
variable {w0 w : World} {b1 : Nat} {v1 : Value} {L1 : List Turn} {b2 : Nat} {v2 : Value} {L2 : List Turn} {lv mv : Value} {n : Nat} {S T : List Turn}
theorem serSum_two1 (h : Two w0 w b1 v1 L1 b2 v2 L2 lv mv n S T) (hl : L1.length ≤ 20) (s : Int) (hs : sumVal L1 0 99 = s) :
    Calls Try.prog 10 #[(.pointer (some ⟨b1, 0, none⟩)), .agg #[.int .i64 0, .int .i64 99]] w fun e w' => e = .returned (.tuple #[.int .i64 s, .int .i64 0]) ∧ Two w0 w' b1 v1 L1 b2 v2 L2 lv mv n S T := by
  have := serSum_any 0 99 b1 v1 (clampT 0) L1 w h.s1 (by omega) (by omega) (by omega)
  rw [hs, sum99 h.s1.ok] at this
  exact this.mono fun _ _ hp => ⟨hp.1, h.keep hp.2⟩
theorem serSum_two2 (h : Two w0 w b1 v1 L1 b2 v2 L2 lv mv n S T) (hl : L2.length ≤ 20) (s : Int) (hs : sumVal L2 0 99 = s) :
    Calls Try.prog 10 #[(.pointer (some ⟨b2, 0, none⟩)), .agg #[.int .i64 0, .int .i64 99]] w fun e w' => e = .returned (.tuple #[.int .i64 s, .int .i64 0]) ∧ Two w0 w' b1 v1 L1 b2 v2 L2 lv mv n S T := by
  have := serSum_any 0 99 b2 v2 (clampT 0) L2 w h.s2 (by omega) (by omega) (by omega)
  rw [hs, sum99 h.s2.ok] at this
  exact this.mono fun _ _ hp => ⟨hp.1, h.keep hp.2⟩
theorem serSet_two1no (h : Two w0 w b1 v1 L1 b2 v2 L2 lv mv n S T) (d a m : Int) (hl : L1.length ≤ 20) (hd : d ≤ 9223372036854775807) (he : setErr (clampT 0) d a = m) (hm : m ≠ 0) :
    Calls Try.prog 9 #[(.pointer (some ⟨b1, 0, none⟩)), .int .i64 d, .int .i64 a] w fun e w' => e = .returned (.int .i64 m) ∧ ∃ v1', Two w0 w' b1 v1' L1 b2 v2 L2 lv mv n S T := by
  have hL : serSetL (clampT 0) L1 d a = L1 := by unfold serSetL; rw [if_neg (by omega)]
  have := serSet_any d a b1 v1 (clampT 0) L1 w h.s1 (by omega) hd
  rw [he, hL] at this
  exact this.mono fun _ _ hp => ⟨(h.one hp).1, (h.one hp).2.elim fun v hv => ⟨v, hv.1⟩⟩
end
set_option maxRecDepth 100000 in
set_option maxHeartbeats 3200000 in
theorem seriesOrder_walk (w : World) (ad : Option Addr) (cap : Nat) (L : List Int) (hr : Reads w 1 (.slice ad L.length cap) L.length (L.flatMap fun z => [Value.int .i64 z])) (hp : ∀ a ∈ L, (Lit.int .i64 a).wf = true) (hm : L.length ≤ maxLen)
    (ad2 : Option Addr) (cap2 : Nat) (M : List Int) (hr2 : Reads w 1 (.slice ad2 M.length cap2) M.length (M.flatMap fun z => [Value.int .i64 z])) (hp2 : ∀ a ∈ M, (Lit.int .i64 a).wf = true) (hm2 : M.length ≤ maxLen) :
    Calls Try.prog 4 #[.slice ad L.length cap, .slice ad2 M.length cap2] w fun e w' => e = .returned (.bool true) ∧ Below w.heap.size w w' := by
  unfold maxLen at hm hm2
  by_cases hl : 20 < L.length
  · have Hr := Lib.hid hr; clear hr; have Hp := Lib.hid hp; clear hp; have Hr2 := Lib.hid hr2; clear hr2; have Hp2 := Lib.hid hp2; clear hp2
    go_enter Try.func4, Try.ntmps4
    go_wp2_with (go_at_call 8; refine (awake12_any _).mono ?_; rintro e w1 ⟨rfl, hk⟩)
    go_ret
    exact ⟨rfl, hk.below (by simp) (Nat.le_refl _)⟩
  have hl' : L.length ≤ 20 := by omega
  obtain ⟨i0, hi, hi0, hi1, hi2⟩ := info_parts info_tSet12
  have Hr := Lib.hid hr; clear hr; have Hp := Lib.hid hp; clear hp; have Hr2 := Lib.hid hr2; clear hr2; have Hp2 := Lib.hid hp2; clear hp2
  go_enter Try.func4, Try.ntmps4
  go_wp2
  go_loopw [5, 6] (fun v i wr => ∃ (k : Nat) (S : List Turn), k ≤ L.length ∧ i = .int .i64 (k : Nat) ∧ S.length ≤ k ∧ wr.ownsRow 0 30 2 v S.length (S.flatMap Turn.cells) ∧ Fresh w wr v ∧ OrdOk S) (fun _ i _ => L.length - (intOf i).toNat)
  case atStart => exact ⟨0, [], Nat.zero_le _, rfl, Nat.le_refl _, World.ownsRow_nil _ _ _ _, Fresh.nil w, List.Pairwise.nil, by simp⟩
  case round =>
    obtain ⟨k, S, hk, rfl, hSk, hrow, hF, hok⟩ := hrel
    obtain ⟨adv, capv, rfl, hcv, _⟩ := ownsRow_shape hrow
    have Hrow := Lib.hid hrow; clear hrow; have HF := Lib.hid hF; clear hF; have Hok := Lib.hid hok; clear hok
    by_cases hkl : k < L.length
    · obtain ⟨x, hx⟩ : ∃ x, L[k]? = some x := ⟨L[k], List.getElem?_eq_getElem hkl⟩
      obtain ⟨g, o, rfl, x0⟩ := (Hr.out.keeps HF.out.1 (by simp)).int hx
      obtain ⟨d1, hd1, ed1⟩ := umod x 100 (by omega) (by omega)
      have hd1' : (d1 : Int) ≤ 99 := by omega
      clear hd1
      have Hx := Lib.hid hx; clear hx
      go_wp2
      rw [ed1]
      have hd0 : (0 : Int) ≤ (d1 : Int) := by omega
      obtain ⟨D, hD⟩ : ∃ D : Int, D = (d1 : Int) := ⟨_, rfl⟩
      rw [← hD] at hd1' hd0 ⊢
      clear ed1 hD
      go_loop [8, 9] (fun s q => ∃ (j : Nat), j ≤ S.length ∧ s = .bool (seenT (S.take j) D) ∧ q = .int .i64 (j : Nat)) (fun _ q => S.length - (intOf q).toNat)
      case atStart => exact ⟨0, Nat.zero_le _, rfl, rfl⟩
      case round =>
        obtain ⟨j, hj, rfl, rfl⟩ := hrel
        by_cases hjl : j < S.length
        · obtain ⟨y, hy⟩ := get_some hjl
          obtain ⟨g', o', c', he, hc⟩ := (Reads.of_owns Hrow.out).elem Turn.cells_length hy (by decide)
          simp only [Value.slice.injEq, true_and] at he
          obtain ⟨rfl, rfl⟩ := he
          obtain ⟨yd, yb⟩ := y
          have y0 : wr.cell? ⟨g', o' + j * 2, none⟩ = some (.int .i64 yd) := hc 0 (by decide)
          have hsn : seenT (S.take (j + 1)) D = (seenT (S.take j) D || yd == D) := by rw [take_snoc' hy, seenT_snoc]
          clear hc
          generalize seenT (S.take j) D = s at hsn ⊢
          have Hy := Lib.hid hy; clear hy
          cases s
          · simp only [Bool.false_or] at hsn
            have Hsn := Lib.hid hsn; clear hsn
            go_wp2
            go_round
            case rel => exact ⟨j + 1, by omega, by rw [Hsn.out], by go_num⟩
            case measure => simp [intOf]; omega
          · simp only [Bool.true_or] at hsn
            have Hsn := Lib.hid hsn; clear hsn
            go_wp2
            go_round
            case rel => exact ⟨j + 1, by omega, by rw [Hsn.out], by go_num⟩
            case measure => simp [intOf]; omega
        · have hje : j = S.length := by omega
          subst hje
          rw [List.take_length]
          rcases hsn : seenT S D with _ | _
          · have hok' := Hok.out.snoc (b := (k : Int) + 1) hsn hd0 hd1' (by omega) (by omega)
            have Hsn := Lib.hid hsn; clear hsn; have Hok' := Lib.hid hok'; clear hok'
            go_wp2_with (at_builtin; refine wpList_append_row rfl (.tmp 56) (.tmp 61) 22 rfl 0 30 i0 _ 2 16 Try.underlying22 hi hi0 hi1 hi2 rfl (by decide) (.slice adv S.length capv) S.length _ rfl (Hrow.out.alloc _) _ 1 [.int .i64 D, .int .i64 ((k : Int) + 1)] rfl (Reads.lit _ _ _ _ _ rfl) (by simp [Value.oneCell']) (by unfold maxLen; omega) (by omega) (by omega) ?_)
            intro v' w4 ho4 hk4 hf4
            have hF4 := (HF.out.keep (Keeps.alloc _ _)).app hk4 (by simpa using hf4)
            have ho5 : w4.ownsRow 0 30 2 v' (S ++ [(⟨D, (k : Int) + 1⟩ : Turn)]).length ((S ++ [(⟨D, (k : Int) + 1⟩ : Turn)]).flatMap Turn.cells) := by simpa [List.flatMap_append, Turn.cells] using ho4
            have HF4 := Lib.hid hF4; clear hF4; have Ho5 := Lib.hid ho5; clear ho5
            clear ho4 hk4 hf4
            go_wp2
            go_roundw
            case rel => exact ⟨k + 1, _, by omega, by go_num, by simp; omega, Ho5.out, HF4.out, Hok'.out⟩
            case measure => simp [intOf]; omega
          · have Hsn := Lib.hid hsn; clear hsn
            go_wp2
            go_roundw
            case rel => exact ⟨k + 1, S, by omega, by go_num, by omega, Hrow.out, HF.out, Hok.out⟩
            case measure => simp [intOf]; omega
    · have hSb : S.length ≤ 20 := by omega
      go_wp2_with (at_builtin; refine wpList_append_row rfl (.const (.slice none 0 0)) (.tmp 63) 22 rfl 0 30 i0 _ 2 16 Try.underlying22 hi hi0 hi1 hi2 rfl (by decide) (.slice none 0 0) 0 [] rfl (World.ownsRow_nil _ _ _ _) (.slice adv S.length capv) S.length _ rfl (Reads.of_owns Hrow.out) (Turn.one S) (by unfold maxLen; omega) (by omega) (by omega) ?_)
      intro v' w4 ho4 hk4 hf4
      have hF4 := (HF.out).app2 hk4 hf4
      have ho5 : w4.ownsRow 0 30 2 v' S.length (S.flatMap Turn.cells) := by simpa using ho4
      obtain ⟨adm, capm, rfl, hcm, _⟩ := ownsRow_shape ho5
      have Hnew4 := Lib.hid hF4.2.2
      have HF4 := Lib.hid hF4; clear hF4; have Ho5 := Lib.hid ho5; clear ho5
      clear ho4 hk4 hf4
      go_wp2
      go_loopw [11] (fun c wr => ∃ (j : Nat) (T : List Turn), j ≤ M.length ∧ j ≤ 30 ∧ c = .int .i64 (j : Nat) ∧ T.Perm S ∧ wr.ownsRow 0 30 2 (.slice adm S.length capm) T.length (T.flatMap Turn.cells) ∧ wr.ownsRow 0 30 2 (.slice adv S.length capv) S.length (S.flatMap Turn.cells) ∧ Keeps (fun _ => False) w wr) (fun c _ => M.length - (intOf c).toNat)
      case atStart => exact ⟨0, S, Nat.zero_le _, by omega, rfl, List.Perm.refl _, Ho5.out, HF4.out.1.row Hrow.out (by simp), HF4.out.2.1⟩
      case round =>
        obtain ⟨j, T, hj, hj30, rfl, hperm, hrm, hrl, hkp⟩ := hrel
        have hTl := hperm.length_eq
        have Hperm := Lib.hid hperm; clear hperm; have Hrm := Lib.hid hrm; clear hrm; have Hrl := Lib.hid hrl; clear hrl; have Hkp := Lib.hid hkp; clear hkp
        by_cases hgo : j < M.length ∧ j < 30 ∧ 0 < S.length
        · obtain ⟨hjm, hj3, hS0⟩ := hgo
          obtain ⟨z, hz⟩ := get_some hjm
          obtain ⟨g2, o2, rfl, z0⟩ := (Hr2.out.keeps Hkp.out (by simp)).int hz
          obtain ⟨q, hq, eq⟩ := umod z S.length (by omega) (by omega)
          have hqS : q < S.length := by omega
          have hpS : j % S.length < S.length := Nat.mod_lt _ hS0
          have Hz := Lib.hid hz; clear hz
          have hnw : IntKind.u64.wrap (S.length : Int) = (S.length : Int) := by simp [IntKind.wrap, IntKind.signed, IntKind.bits]; omega
          go_wp2
          rw [eq]
          obtain ⟨p, hp⟩ : ∃ p, p = j % S.length := ⟨_, rfl⟩
          have hpi : (j : Int) % (S.length : Int) = (p : Int) := by rw [hp]; simp
          rw [← hp] at hpS
          obtain ⟨gm, capm', hvm, hgm⟩ := owns_some Hrm.out (by omega)
          simp only [Value.slice.injEq] at hvm
          obtain ⟨rfl, _, rfl⟩ := hvm
          have hrm' := Hrm.out
          rw [← hTl] at hrm'
          obtain ⟨⟨pd, pb⟩, htp⟩ := get_some (L := T) (k := p) (by omega)
          obtain ⟨⟨qd, qb⟩, htq⟩ := get_some (L := T) (k := q) (by omega)
          have a0 : wr.cell? ⟨gm, p * 2, none⟩ = some (.int .i64 pd) := owns_elem Turn.cells_length hrm' htp 0 (by decide)
          have a1 : wr.cell? ⟨gm, p * 2 + 1, none⟩ = some (.int .i64 pb) := owns_elem Turn.cells_length hrm' htp 1 (by decide)
          have b0 : wr.cell? ⟨gm, q * 2, none⟩ = some (.int .i64 qd) := owns_elem Turn.cells_length hrm' htq 0 (by decide)
          have b1 : wr.cell? ⟨gm, q * 2 + 1, none⟩ = some (.int .i64 qb) := owns_elem Turn.cells_length hrm' htq 1 (by decide)
          have fa0 : wr.frozen? ⟨gm, p * 2, none⟩ = false := hrm'.frozenAt _
          have fa1 : wr.frozen? ⟨gm, p * 2 + 1, none⟩ = false := hrm'.frozenAt _
          have fb0 : wr.frozen? ⟨gm, q * 2, none⟩ = false := hrm'.frozenAt _
          have fb1 : wr.frozen? ⟨gm, q * 2 + 1, none⟩ = false := hrm'.frozenAt _
          have hpi0 : (0 : Int) ≤ (p : Int) := by omega
          have hpi1 : (p : Int) < (S.length : Int) := by omega
          have hqi0 : (0 : Int) ≤ (q : Int) := by omega
          have hpi2 : (p : Int) < (T.length : Int) := by omega
          have hqi2 : (q : Int) < (T.length : Int) := by omega
          have hT0 : ¬ T = [] := fun e => by rw [e] at hTl; simp at hTl; omega
          have htm : (j : Int).tmod (T.length : Int) = (p : Int) := by rw [hTl, Int.tmod_eq_emod_of_nonneg (by omega)]; exact hpi
          clear hpi hpi1
          have hgmw : w.heap.size ≤ gm := (Hnew4.out gm rfl).1
          have hgml : (Value.slice adv S.length capv).ownBlock ≠ some gm := fun e => by have := (Hrow.out.lt _ e).2; have := (Hnew4.out gm rfl).2; omega
          have Hrm' := Lib.hid hrm'; clear hrm'; have Htp := Lib.hid htp; clear htp; have Htq := Lib.hid htq; clear htq; have Hp := Lib.hid hp; clear hp; have Eq := Lib.hid eq; clear eq; have HTl := Lib.hid hTl; clear hTl; have Hnw := Lib.hid hnw; clear hnw; have Hgmw := Lib.hid hgmw; clear hgmw; have Hgml := Lib.hid hgml; clear hgml
          by_cases hpq : p = q
          · subst hpq
            have hsame : pd = qd ∧ pb = qb := by have h1 := Htp.out; have h2 := Htq.out; rw [h1] at h2; simpa using h2
            obtain ⟨rfl, rfl⟩ := hsame
            clear b0 b1 fb0 fb1
            go_region
            have hsw := swap_row (n := T.length) Hrm'.out Htp.out Htq.out
            have hkw : Keeps (fun _ => False) w ((((wr.setCell ⟨gm, p * 2, none⟩ (.int .i64 pd)).setCell ⟨gm, p * 2 + 1, none⟩ (.int .i64 pb)).setCell ⟨gm, p * 2, none⟩ (.int .i64 pd)).setCell ⟨gm, p * 2 + 1, none⟩ (.int .i64 pb)) :=
              (((Hkp.out.trans (Keeps.setCell _ _ _ (.inr Hgmw.out))).trans (Keeps.setCell _ _ _ (.inr Hgmw.out))).trans (Keeps.setCell _ _ _ (.inr Hgmw.out))).trans (Keeps.setCell _ _ _ (.inr Hgmw.out))
            have hrl' := ownsRow_setCell_other (ownsRow_setCell_other (ownsRow_setCell_other (ownsRow_setCell_other Hrl.out (a := ⟨gm, p * 2, none⟩) Hgml.out (.int .i64 pd)) (a := ⟨gm, p * 2 + 1, none⟩) Hgml.out (.int .i64 pb)) (a := ⟨gm, p * 2, none⟩) Hgml.out (.int .i64 pd)) (a := ⟨gm, p * 2 + 1, none⟩) Hgml.out (.int .i64 pb)
            have hpm := (swap_perm Htp.out Htq.out).trans Hperm.out
            have Hsw := Lib.hid hsw; clear hsw; have Hkw := Lib.hid hkw; clear hkw; have Hrl' := Lib.hid hrl'; clear hrl'; have Hpm := Lib.hid hpm; clear hpm
            go_wp2
            go_roundw
            case rel => exact ⟨j + 1, _, by omega, by omega, by go_num, Hpm.out, by have := Hsw.out.drew; rw [show ((T.set p ⟨pd, pb⟩).set p ⟨pd, pb⟩).length = T.length by simp, ← HTl.out]; exact this, Hrl'.out.drew, Hkw.out.trans (Keeps.drew _)⟩
            case measure => simp [intOf]; omega
          · have n2 : ¬ p * 2 = q * 2 + 1 := by omega
            have n3 : ¬ p * 2 + 1 = q * 2 := by omega
            have hqp : ¬ q = p := by omega
            have n6 : ¬ q * 2 = p * 2 + 1 := by omega
            have n7 : ¬ q * 2 + 1 = p * 2 := by omega
            go_region
            have hsw := swap_row (n := T.length) Hrm'.out Htp.out Htq.out
            have hkw : Keeps (fun _ => False) w ((((wr.setCell ⟨gm, p * 2, none⟩ (.int .i64 qd)).setCell ⟨gm, p * 2 + 1, none⟩ (.int .i64 qb)).setCell ⟨gm, q * 2, none⟩ (.int .i64 pd)).setCell ⟨gm, q * 2 + 1, none⟩ (.int .i64 pb)) :=
              (((Hkp.out.trans (Keeps.setCell _ _ _ (.inr Hgmw.out))).trans (Keeps.setCell _ _ _ (.inr Hgmw.out))).trans (Keeps.setCell _ _ _ (.inr Hgmw.out))).trans (Keeps.setCell _ _ _ (.inr Hgmw.out))
            have hrl' := ownsRow_setCell_other (ownsRow_setCell_other (ownsRow_setCell_other (ownsRow_setCell_other Hrl.out (a := ⟨gm, p * 2, none⟩) Hgml.out (.int .i64 qd)) (a := ⟨gm, p * 2 + 1, none⟩) Hgml.out (.int .i64 qb)) (a := ⟨gm, q * 2, none⟩) Hgml.out (.int .i64 pd)) (a := ⟨gm, q * 2 + 1, none⟩) Hgml.out (.int .i64 pb)
            have hpm := (swap_perm Htp.out Htq.out).trans Hperm.out
            have Hsw := Lib.hid hsw; clear hsw; have Hkw := Lib.hid hkw; clear hkw; have Hrl' := Lib.hid hrl'; clear hrl'; have Hpm := Lib.hid hpm; clear hpm
            go_wp2
            go_roundw
            case rel => exact ⟨j + 1, _, by omega, by omega, by go_num, Hpm.out, by have := Hsw.out.drew; rw [show ((T.set p ⟨qd, qb⟩).set q ⟨pd, pb⟩).length = T.length by simp, ← HTl.out]; exact this, Hrl'.out.drew, Hkw.out.trans (Keeps.drew _)⟩
            case measure => simp [intOf]; omega
        · have hkc : M.length ≤ j ∨ (j < M.length ∧ 30 ≤ j) ∨ (j < M.length ∧ j < 30 ∧ S.length ≤ 0) := by omega
          have hrm' := Hrm.out
          rw [hTl] at hrm'
          have htwo := two_start Hkp.out Hrl.out hrm'
          have hTS := hTl
          have Htwo := Lib.hid htwo; clear htwo; have HTS := Lib.hid hTS; clear hTS; have HTl := Lib.hid hTl; clear hTl
          clear hgo hrm'
          rcases hkc with hkc | ⟨hkc, hkc'⟩ | ⟨hkc, hkc', hkc''⟩
          · go_wp2_with (go_at_call 7; refine (serNew_any 0 _).mono ?_; rintro e w5 ⟨rfl, rfl⟩)
            clear hkc
            obtain ⟨wo, rfl⟩ : ∃ wo : World, wo = wr := ⟨_, rfl⟩
            go_loopw [15] (fun c wr => ∃ (i : Nat) (v1 v2 : Value), i ≤ S.length ∧ c = .int .i64 (i : Nat) ∧ Two w wr wo.heap.size v1 (setAll [] (S.take i)) (wo.heap.size + 1) v2 (setAll [] (T.take i)) (.slice adv S.length capv) (.slice adm S.length capm) S.length S T) (fun c _ => S.length - (intOf c).toNat)
            case atStart => exact ⟨0, _, _, Nat.zero_le _, rfl, Htwo.out⟩
            case round =>
              obtain ⟨i, v1, v2, hiS, rfl, htw⟩ := hrel
              have Htw := Lib.hid htw; clear htw
              by_cases his : i < S.length
              · obtain ⟨⟨sd, sb⟩, hs⟩ := get_some his
                obtain ⟨⟨td, tb⟩, ht⟩ := get_some (L := T) (k := i) (by rw [HTS.out]; exact his)
                obtain ⟨gl, ol, cl, hel, hcl⟩ := (Reads.of_owns Htw.out.rl).elem Turn.cells_length hs (by decide)
                obtain ⟨gm, om, cm, hem, hcm'⟩ := (Reads.of_owns Htw.out.rm).elem Turn.cells_length ht (by decide)
                simp only [Value.slice.injEq, true_and] at hel hem
                obtain ⟨rfl, rfl⟩ := hel
                obtain ⟨rfl, rfl⟩ := hem
                have x0 : wr.cell? ⟨gl, ol + i * 2, none⟩ = some (.int .i64 sd) := hcl 0 (by decide)
                have x1 : wr.cell? ⟨gl, ol + i * 2 + 1, none⟩ = some (.int .i64 sb) := hcl 1 (by decide)
                have y0 : wr.cell? ⟨gm, om + i * 2, none⟩ = some (.int .i64 td) := hcm' 0 (by decide)
                have y1 : wr.cell? ⟨gm, om + i * 2 + 1, none⟩ = some (.int .i64 tb) := hcm' 1 (by decide)
                have hso := Hok.out.2 _ (List.mem_of_getElem? hs)
                have hto := Hok.out.2 _ (Hperm.out.mem_iff.1 (List.mem_of_getElem? ht))
                obtain ⟨so1, so2, so3, so4⟩ := hso
                obtain ⟨to1, to2, to3, to4⟩ := hto
                have hgl := cell_lt x0
                have hgm := cell_lt y0
                have hL1 : (setAll [] (S.take i)).length ≤ 20 := Nat.le_trans (setAll_length _ _) (by simp; omega)
                have hL2 : (setAll [] (T.take i)).length ≤ 20 := Nat.le_trans (setAll_length _ _) (by simp; omega)
                have hA : setAll [] (S.take (i + 1)) = setT (setAll [] (S.take i)) sd sb := by rw [take_snoc' hs, setAll_snoc]
                have hB : setAll [] (T.take (i + 1)) = setT (setT (setAll [] (T.take i)) td 7) td tb := by rw [setT_twice, take_snoc' ht, setAll_snoc]
                have hL3 : (setT (setAll [] (T.take i)) td 7).length ≤ 21 := Nat.le_trans (setT_length _ _ _) (by omega)
                clear hcl hcm'
                have Hs := Lib.hid hs; clear hs; have Ht := Lib.hid ht; clear ht; have HL1 := Lib.hid hL1; clear hL1; have HL2 := Lib.hid hL2; clear hL2; have HL3 := Lib.hid hL3; clear hL3; have HA := Lib.hid hA; clear hA; have HB := Lib.hid hB; clear hB
                have Htd := Lib.hid (Htw.out.keep (Keeps.drew _))
                go_wp2
                go_region_held3 (fun w' => w'.cell? ⟨gl, ol + i * 2, none⟩ = some (.int .i64 sd) ∧ w'.cell? ⟨gl, ol + i * 2 + 1, none⟩ = some (.int .i64 sb) ∧ w'.cell? ⟨gm, om + i * 2, none⟩ = some (.int .i64 td) ∧ w'.cell? ⟨gm, om + i * 2 + 1, none⟩ = some (.int .i64 tb)) (first | go_keep) (first
                  | (go_at_call 9; ((with_reducible refine (serSet_two1 Htd.out (by have := HL1.out; omega) so1 so2 so3 so4).mono ?_); rintro e w3 ⟨rfl, v1', h3, hk3⟩; have x0 := hk3.cell (p := ⟨gl, ol + i * 2, none⟩) hgl (ser_row Htd.out.s1 Htd.out.rl _ rfl); have x1 := hk3.cell (p := ⟨gl, ol + i * 2 + 1, none⟩) hgl (ser_row Htd.out.s1 Htd.out.rl _ rfl); have y0 := hk3.cell (p := ⟨gm, om + i * 2, none⟩) hgm (ser_row Htd.out.s1 Htd.out.rm _ rfl); have y1 := hk3.cell (p := ⟨gm, om + i * 2 + 1, none⟩) hgm (ser_row Htd.out.s1 Htd.out.rm _ rfl); have hgl3 := Nat.lt_of_lt_of_le hgl hk3.size; have hgm3 := Nat.lt_of_lt_of_le hgm hk3.size; have H3 := Lib.hid h3; clear h3 hk3))
                  | (go_at_call 9; ((with_reducible refine (serSet_two2 (a := 7) H3.out (by have := HL2.out; omega) to1 to2 (by omega) (by omega)).mono ?_); rintro e w4' ⟨rfl, v2', h4, hk4⟩; have x0 := hk4.cell (p := ⟨gl, ol + i * 2, none⟩) hgl3 (ser_row H3.out.s2 H3.out.rl _ rfl); have x1 := hk4.cell (p := ⟨gl, ol + i * 2 + 1, none⟩) hgl3 (ser_row H3.out.s2 H3.out.rl _ rfl); have y0 := hk4.cell (p := ⟨gm, om + i * 2, none⟩) hgm3 (ser_row H3.out.s2 H3.out.rm _ rfl); have y1 := hk4.cell (p := ⟨gm, om + i * 2 + 1, none⟩) hgm3 (ser_row H3.out.s2 H3.out.rm _ rfl); have hgl4 := Nat.lt_of_lt_of_le hgl3 hk4.size; have hgm4 := Nat.lt_of_lt_of_le hgm3 hk4.size; have H4 := Lib.hid h4; clear h4 hk4))
                  | (go_at_call 9; ((with_reducible refine (serSet_two2 H4.out (by have := HL3.out; omega) to1 to2 to3 to4).mono ?_); rintro e w5' ⟨rfl, v2'', h5, hk5⟩; have x0 := hk5.cell (p := ⟨gl, ol + i * 2, none⟩) hgl4 (ser_row H4.out.s2 H4.out.rl _ rfl); have x1 := hk5.cell (p := ⟨gl, ol + i * 2 + 1, none⟩) hgl4 (ser_row H4.out.s2 H4.out.rl _ rfl); have y0 := hk5.cell (p := ⟨gm, om + i * 2, none⟩) hgm4 (ser_row H4.out.s2 H4.out.rm _ rfl); have y1 := hk5.cell (p := ⟨gm, om + i * 2 + 1, none⟩) hgm4 (ser_row H4.out.s2 H4.out.rm _ rfl); have H5 := Lib.hid h5; clear h5 hk5)))
                go_wp2
                go_roundw
                case rel => exact ⟨i + 1, _, _, by omega, by go_num, by rw [HA.out, HB.out]; exact H5.out⟩
                case measure => simp [intOf]; omega
              · have hie : i = S.length := by omega
                subst hie
                have hX : setAll [] (T.take S.length) = setAll [] (S.take S.length) := by
                  rw [List.take_length, ← HTS.out, List.take_length]
                  exact setAll_perm Hperm.out (Hperm.out.pairwise_iff (fun h => Ne.symm h) |>.2 Hok.out.1) []
                have htw2 := Htw.out
                rw [hX] at htw2
                obtain ⟨X, hXe⟩ : ∃ X, setAll [] (S.take S.length) = X := ⟨_, rfl⟩
                have hXl : X.length ≤ 20 := by rw [← hXe]; exact Nat.le_trans (setAll_length _ _) (by simp; omega)
                rw [hXe] at htw2
                have Htw2 := Lib.hid htw2; clear htw2
                clear hX hXe his
                go_wp2
                go_loop [16] (fun c => ∃ q : Nat, q ≤ 102 ∧ c = .int .i64 ((q : Int) - 1)) (fun c => (101 - intOf c).toNat)
                case atStart => exact ⟨0, by omega, rfl⟩
                case round =>
                  obtain ⟨q, hq, rfl⟩ := hrel
                  by_cases hq1 : q ≤ 101
                  · go_wp2_with (first
                      | (go_at_call 11; ((with_reducible refine (serOn_any _ _ _ _ _ _ Htw2.out.s1 (by omega)).mono ?_); rintro e w6 ⟨rfl, rfl⟩))
                      | (go_at_call 11; ((with_reducible refine (serOn_any _ _ _ _ _ _ Htw2.out.s2 (by omega)).mono ?_); rintro e w7 ⟨rfl, rfl⟩)))
                    go_round
                    case rel => exact ⟨q + 1, by omega, by go_num⟩
                    case measure => simp [intOf]; omega
                  · obtain rfl : q = 102 := by omega
                    obtain ⟨s, hs⟩ : ∃ s, sumVal X 0 99 = s := ⟨_, rfl⟩
                    have Hs := Lib.hid hs; clear hs; have HXl := Lib.hid hXl; clear hXl
                    go_wp2_with fail
                    refine (serSum_two1 Htw2.out HXl.out s Hs.out).mono ?_
                    rintro e w3 ⟨rfl, h3⟩
                    have H3 := Lib.hid h3; clear h3
                    go_wp2_with fail
                    refine (serSum_two2 H3.out HXl.out s Hs.out).mono ?_
                    rintro e w4 ⟨rfl, h4⟩
                    have H4 := Lib.hid h4; clear h4
                    go_wp2_with (go_at_call 8; refine (awake12_any _).mono ?_; rintro e w5 ⟨rfl, hk5⟩; have H5 := Lib.hid (H4.out.keep hk5); clear hk5)
                    go_wp2_with fail
                    refine (serSet_two1no H5.out 1 (-1) 5 HXl.out (by omega) (by decide) (by decide)).mono ?_
                    rintro e w6 ⟨rfl, v6, h6⟩
                    have H6 := Lib.hid h6; clear h6
                    go_wp2_with fail
                    refine (serSet_two1no H6.out (-1) 1 10 HXl.out (by omega) (by decide) (by decide)).mono ?_
                    rintro e w7 ⟨rfl, v7, h7⟩
                    have H7 := Lib.hid h7; clear h7
                    go_wp2_with fail
                    refine (serSet_two1no H7.out 1 1000000000000001 5 HXl.out (by omega) (by decide) (by decide)).mono ?_
                    rintro e w8 ⟨rfl, v8, h8⟩
                    have H8 := Lib.hid h8; clear h8
                    go_wp2
                    go_ret
                    exact ⟨rfl, H8.out.kp.below (by simp) (Nat.le_refl _)⟩
          · go_wp2_with (go_at_call 7; refine (serNew_any 0 _).mono ?_; rintro e w5 ⟨rfl, rfl⟩)
            clear hkc hkc'
            obtain ⟨wo, rfl⟩ : ∃ wo : World, wo = wr := ⟨_, rfl⟩
            go_loopw [15] (fun c wr => ∃ (i : Nat) (v1 v2 : Value), i ≤ S.length ∧ c = .int .i64 (i : Nat) ∧ Two w wr wo.heap.size v1 (setAll [] (S.take i)) (wo.heap.size + 1) v2 (setAll [] (T.take i)) (.slice adv S.length capv) (.slice adm S.length capm) S.length S T) (fun c _ => S.length - (intOf c).toNat)
            case atStart => exact ⟨0, _, _, Nat.zero_le _, rfl, Htwo.out⟩
            case round =>
              obtain ⟨i, v1, v2, hiS, rfl, htw⟩ := hrel
              have Htw := Lib.hid htw; clear htw
              by_cases his : i < S.length
              · obtain ⟨⟨sd, sb⟩, hs⟩ := get_some his
                obtain ⟨⟨td, tb⟩, ht⟩ := get_some (L := T) (k := i) (by rw [HTS.out]; exact his)
                obtain ⟨gl, ol, cl, hel, hcl⟩ := (Reads.of_owns Htw.out.rl).elem Turn.cells_length hs (by decide)
                obtain ⟨gm, om, cm, hem, hcm'⟩ := (Reads.of_owns Htw.out.rm).elem Turn.cells_length ht (by decide)
                simp only [Value.slice.injEq, true_and] at hel hem
                obtain ⟨rfl, rfl⟩ := hel
                obtain ⟨rfl, rfl⟩ := hem
                have x0 : wr.cell? ⟨gl, ol + i * 2, none⟩ = some (.int .i64 sd) := hcl 0 (by decide)
                have x1 : wr.cell? ⟨gl, ol + i * 2 + 1, none⟩ = some (.int .i64 sb) := hcl 1 (by decide)
                have y0 : wr.cell? ⟨gm, om + i * 2, none⟩ = some (.int .i64 td) := hcm' 0 (by decide)
                have y1 : wr.cell? ⟨gm, om + i * 2 + 1, none⟩ = some (.int .i64 tb) := hcm' 1 (by decide)
                have hso := Hok.out.2 _ (List.mem_of_getElem? hs)
                have hto := Hok.out.2 _ (Hperm.out.mem_iff.1 (List.mem_of_getElem? ht))
                obtain ⟨so1, so2, so3, so4⟩ := hso
                obtain ⟨to1, to2, to3, to4⟩ := hto
                have hgl := cell_lt x0
                have hgm := cell_lt y0
                have hL1 : (setAll [] (S.take i)).length ≤ 20 := Nat.le_trans (setAll_length _ _) (by simp; omega)
                have hL2 : (setAll [] (T.take i)).length ≤ 20 := Nat.le_trans (setAll_length _ _) (by simp; omega)
                have hA : setAll [] (S.take (i + 1)) = setT (setAll [] (S.take i)) sd sb := by rw [take_snoc' hs, setAll_snoc]
                have hB : setAll [] (T.take (i + 1)) = setT (setT (setAll [] (T.take i)) td 7) td tb := by rw [setT_twice, take_snoc' ht, setAll_snoc]
                have hL3 : (setT (setAll [] (T.take i)) td 7).length ≤ 21 := Nat.le_trans (setT_length _ _ _) (by omega)
                clear hcl hcm'
                have Hs := Lib.hid hs; clear hs; have Ht := Lib.hid ht; clear ht; have HL1 := Lib.hid hL1; clear hL1; have HL2 := Lib.hid hL2; clear hL2; have HL3 := Lib.hid hL3; clear hL3; have HA := Lib.hid hA; clear hA; have HB := Lib.hid hB; clear hB
                have Htd := Lib.hid (Htw.out.keep (Keeps.drew _))
                go_wp2
                go_region_held3 (fun w' => w'.cell? ⟨gl, ol + i * 2, none⟩ = some (.int .i64 sd) ∧ w'.cell? ⟨gl, ol + i * 2 + 1, none⟩ = some (.int .i64 sb) ∧ w'.cell? ⟨gm, om + i * 2, none⟩ = some (.int .i64 td) ∧ w'.cell? ⟨gm, om + i * 2 + 1, none⟩ = some (.int .i64 tb)) (first | go_keep) (first
                  | (go_at_call 9; ((with_reducible refine (serSet_two1 Htd.out (by have := HL1.out; omega) so1 so2 so3 so4).mono ?_); rintro e w3 ⟨rfl, v1', h3, hk3⟩; have x0 := hk3.cell (p := ⟨gl, ol + i * 2, none⟩) hgl (ser_row Htd.out.s1 Htd.out.rl _ rfl); have x1 := hk3.cell (p := ⟨gl, ol + i * 2 + 1, none⟩) hgl (ser_row Htd.out.s1 Htd.out.rl _ rfl); have y0 := hk3.cell (p := ⟨gm, om + i * 2, none⟩) hgm (ser_row Htd.out.s1 Htd.out.rm _ rfl); have y1 := hk3.cell (p := ⟨gm, om + i * 2 + 1, none⟩) hgm (ser_row Htd.out.s1 Htd.out.rm _ rfl); have hgl3 := Nat.lt_of_lt_of_le hgl hk3.size; have hgm3 := Nat.lt_of_lt_of_le hgm hk3.size; have H3 := Lib.hid h3; clear h3 hk3))
                  | (go_at_call 9; ((with_reducible refine (serSet_two2 (a := 7) H3.out (by have := HL2.out; omega) to1 to2 (by omega) (by omega)).mono ?_); rintro e w4' ⟨rfl, v2', h4, hk4⟩; have x0 := hk4.cell (p := ⟨gl, ol + i * 2, none⟩) hgl3 (ser_row H3.out.s2 H3.out.rl _ rfl); have x1 := hk4.cell (p := ⟨gl, ol + i * 2 + 1, none⟩) hgl3 (ser_row H3.out.s2 H3.out.rl _ rfl); have y0 := hk4.cell (p := ⟨gm, om + i * 2, none⟩) hgm3 (ser_row H3.out.s2 H3.out.rm _ rfl); have y1 := hk4.cell (p := ⟨gm, om + i * 2 + 1, none⟩) hgm3 (ser_row H3.out.s2 H3.out.rm _ rfl); have hgl4 := Nat.lt_of_lt_of_le hgl3 hk4.size; have hgm4 := Nat.lt_of_lt_of_le hgm3 hk4.size; have H4 := Lib.hid h4; clear h4 hk4))
                  | (go_at_call 9; ((with_reducible refine (serSet_two2 H4.out (by have := HL3.out; omega) to1 to2 to3 to4).mono ?_); rintro e w5' ⟨rfl, v2'', h5, hk5⟩; have x0 := hk5.cell (p := ⟨gl, ol + i * 2, none⟩) hgl4 (ser_row H4.out.s2 H4.out.rl _ rfl); have x1 := hk5.cell (p := ⟨gl, ol + i * 2 + 1, none⟩) hgl4 (ser_row H4.out.s2 H4.out.rl _ rfl); have y0 := hk5.cell (p := ⟨gm, om + i * 2, none⟩) hgm4 (ser_row H4.out.s2 H4.out.rm _ rfl); have y1 := hk5.cell (p := ⟨gm, om + i * 2 + 1, none⟩) hgm4 (ser_row H4.out.s2 H4.out.rm _ rfl); have H5 := Lib.hid h5; clear h5 hk5)))
                go_wp2
                go_roundw
                case rel => exact ⟨i + 1, _, _, by omega, by go_num, by rw [HA.out, HB.out]; exact H5.out⟩
                case measure => simp [intOf]; omega
              · have hie : i = S.length := by omega
                subst hie
                have hX : setAll [] (T.take S.length) = setAll [] (S.take S.length) := by
                  rw [List.take_length, ← HTS.out, List.take_length]
                  exact setAll_perm Hperm.out (Hperm.out.pairwise_iff (fun h => Ne.symm h) |>.2 Hok.out.1) []
                have htw2 := Htw.out
                rw [hX] at htw2
                obtain ⟨X, hXe⟩ : ∃ X, setAll [] (S.take S.length) = X := ⟨_, rfl⟩
                have hXl : X.length ≤ 20 := by rw [← hXe]; exact Nat.le_trans (setAll_length _ _) (by simp; omega)
                rw [hXe] at htw2
                have Htw2 := Lib.hid htw2; clear htw2
                clear hX hXe his
                go_wp2
                go_loop [16] (fun c => ∃ q : Nat, q ≤ 102 ∧ c = .int .i64 ((q : Int) - 1)) (fun c => (101 - intOf c).toNat)
                case atStart => exact ⟨0, by omega, rfl⟩
                case round =>
                  obtain ⟨q, hq, rfl⟩ := hrel
                  by_cases hq1 : q ≤ 101
                  · go_wp2_with (first
                      | (go_at_call 11; ((with_reducible refine (serOn_any _ _ _ _ _ _ Htw2.out.s1 (by omega)).mono ?_); rintro e w6 ⟨rfl, rfl⟩))
                      | (go_at_call 11; ((with_reducible refine (serOn_any _ _ _ _ _ _ Htw2.out.s2 (by omega)).mono ?_); rintro e w7 ⟨rfl, rfl⟩)))
                    go_round
                    case rel => exact ⟨q + 1, by omega, by go_num⟩
                    case measure => simp [intOf]; omega
                  · obtain rfl : q = 102 := by omega
                    obtain ⟨s, hs⟩ : ∃ s, sumVal X 0 99 = s := ⟨_, rfl⟩
                    have Hs := Lib.hid hs; clear hs; have HXl := Lib.hid hXl; clear hXl
                    go_wp2_with fail
                    refine (serSum_two1 Htw2.out HXl.out s Hs.out).mono ?_
                    rintro e w3 ⟨rfl, h3⟩
                    have H3 := Lib.hid h3; clear h3
                    go_wp2_with fail
                    refine (serSum_two2 H3.out HXl.out s Hs.out).mono ?_
                    rintro e w4 ⟨rfl, h4⟩
                    have H4 := Lib.hid h4; clear h4
                    go_wp2_with (go_at_call 8; refine (awake12_any _).mono ?_; rintro e w5 ⟨rfl, hk5⟩; have H5 := Lib.hid (H4.out.keep hk5); clear hk5)
                    go_wp2_with fail
                    refine (serSet_two1no H5.out 1 (-1) 5 HXl.out (by omega) (by decide) (by decide)).mono ?_
                    rintro e w6 ⟨rfl, v6, h6⟩
                    have H6 := Lib.hid h6; clear h6
                    go_wp2_with fail
                    refine (serSet_two1no H6.out (-1) 1 10 HXl.out (by omega) (by decide) (by decide)).mono ?_
                    rintro e w7 ⟨rfl, v7, h7⟩
                    have H7 := Lib.hid h7; clear h7
                    go_wp2_with fail
                    refine (serSet_two1no H7.out 1 1000000000000001 5 HXl.out (by omega) (by decide) (by decide)).mono ?_
                    rintro e w8 ⟨rfl, v8, h8⟩
                    have H8 := Lib.hid h8; clear h8
                    go_wp2
                    go_ret
                    exact ⟨rfl, H8.out.kp.below (by simp) (Nat.le_refl _)⟩
          · go_wp2_with (go_at_call 7; refine (serNew_any 0 _).mono ?_; rintro e w5 ⟨rfl, rfl⟩)
            clear hkc hkc' hkc''
            obtain ⟨wo, rfl⟩ : ∃ wo : World, wo = wr := ⟨_, rfl⟩
            go_loopw [15] (fun c wr => ∃ (i : Nat) (v1 v2 : Value), i ≤ S.length ∧ c = .int .i64 (i : Nat) ∧ Two w wr wo.heap.size v1 (setAll [] (S.take i)) (wo.heap.size + 1) v2 (setAll [] (T.take i)) (.slice adv S.length capv) (.slice adm S.length capm) S.length S T) (fun c _ => S.length - (intOf c).toNat)
            case atStart => exact ⟨0, _, _, Nat.zero_le _, rfl, Htwo.out⟩
            case round =>
              obtain ⟨i, v1, v2, hiS, rfl, htw⟩ := hrel
              have Htw := Lib.hid htw; clear htw
              by_cases his : i < S.length
              · obtain ⟨⟨sd, sb⟩, hs⟩ := get_some his
                obtain ⟨⟨td, tb⟩, ht⟩ := get_some (L := T) (k := i) (by rw [HTS.out]; exact his)
                obtain ⟨gl, ol, cl, hel, hcl⟩ := (Reads.of_owns Htw.out.rl).elem Turn.cells_length hs (by decide)
                obtain ⟨gm, om, cm, hem, hcm'⟩ := (Reads.of_owns Htw.out.rm).elem Turn.cells_length ht (by decide)
                simp only [Value.slice.injEq, true_and] at hel hem
                obtain ⟨rfl, rfl⟩ := hel
                obtain ⟨rfl, rfl⟩ := hem
                have x0 : wr.cell? ⟨gl, ol + i * 2, none⟩ = some (.int .i64 sd) := hcl 0 (by decide)
                have x1 : wr.cell? ⟨gl, ol + i * 2 + 1, none⟩ = some (.int .i64 sb) := hcl 1 (by decide)
                have y0 : wr.cell? ⟨gm, om + i * 2, none⟩ = some (.int .i64 td) := hcm' 0 (by decide)
                have y1 : wr.cell? ⟨gm, om + i * 2 + 1, none⟩ = some (.int .i64 tb) := hcm' 1 (by decide)
                have hso := Hok.out.2 _ (List.mem_of_getElem? hs)
                have hto := Hok.out.2 _ (Hperm.out.mem_iff.1 (List.mem_of_getElem? ht))
                obtain ⟨so1, so2, so3, so4⟩ := hso
                obtain ⟨to1, to2, to3, to4⟩ := hto
                have hgl := cell_lt x0
                have hgm := cell_lt y0
                have hL1 : (setAll [] (S.take i)).length ≤ 20 := Nat.le_trans (setAll_length _ _) (by simp; omega)
                have hL2 : (setAll [] (T.take i)).length ≤ 20 := Nat.le_trans (setAll_length _ _) (by simp; omega)
                have hA : setAll [] (S.take (i + 1)) = setT (setAll [] (S.take i)) sd sb := by rw [take_snoc' hs, setAll_snoc]
                have hB : setAll [] (T.take (i + 1)) = setT (setT (setAll [] (T.take i)) td 7) td tb := by rw [setT_twice, take_snoc' ht, setAll_snoc]
                have hL3 : (setT (setAll [] (T.take i)) td 7).length ≤ 21 := Nat.le_trans (setT_length _ _ _) (by omega)
                clear hcl hcm'
                have Hs := Lib.hid hs; clear hs; have Ht := Lib.hid ht; clear ht; have HL1 := Lib.hid hL1; clear hL1; have HL2 := Lib.hid hL2; clear hL2; have HL3 := Lib.hid hL3; clear hL3; have HA := Lib.hid hA; clear hA; have HB := Lib.hid hB; clear hB
                have Htd := Lib.hid (Htw.out.keep (Keeps.drew _))
                go_wp2
                go_region_held3 (fun w' => w'.cell? ⟨gl, ol + i * 2, none⟩ = some (.int .i64 sd) ∧ w'.cell? ⟨gl, ol + i * 2 + 1, none⟩ = some (.int .i64 sb) ∧ w'.cell? ⟨gm, om + i * 2, none⟩ = some (.int .i64 td) ∧ w'.cell? ⟨gm, om + i * 2 + 1, none⟩ = some (.int .i64 tb)) (first | go_keep) (first
                  | (go_at_call 9; ((with_reducible refine (serSet_two1 Htd.out (by have := HL1.out; omega) so1 so2 so3 so4).mono ?_); rintro e w3 ⟨rfl, v1', h3, hk3⟩; have x0 := hk3.cell (p := ⟨gl, ol + i * 2, none⟩) hgl (ser_row Htd.out.s1 Htd.out.rl _ rfl); have x1 := hk3.cell (p := ⟨gl, ol + i * 2 + 1, none⟩) hgl (ser_row Htd.out.s1 Htd.out.rl _ rfl); have y0 := hk3.cell (p := ⟨gm, om + i * 2, none⟩) hgm (ser_row Htd.out.s1 Htd.out.rm _ rfl); have y1 := hk3.cell (p := ⟨gm, om + i * 2 + 1, none⟩) hgm (ser_row Htd.out.s1 Htd.out.rm _ rfl); have hgl3 := Nat.lt_of_lt_of_le hgl hk3.size; have hgm3 := Nat.lt_of_lt_of_le hgm hk3.size; have H3 := Lib.hid h3; clear h3 hk3))
                  | (go_at_call 9; ((with_reducible refine (serSet_two2 (a := 7) H3.out (by have := HL2.out; omega) to1 to2 (by omega) (by omega)).mono ?_); rintro e w4' ⟨rfl, v2', h4, hk4⟩; have x0 := hk4.cell (p := ⟨gl, ol + i * 2, none⟩) hgl3 (ser_row H3.out.s2 H3.out.rl _ rfl); have x1 := hk4.cell (p := ⟨gl, ol + i * 2 + 1, none⟩) hgl3 (ser_row H3.out.s2 H3.out.rl _ rfl); have y0 := hk4.cell (p := ⟨gm, om + i * 2, none⟩) hgm3 (ser_row H3.out.s2 H3.out.rm _ rfl); have y1 := hk4.cell (p := ⟨gm, om + i * 2 + 1, none⟩) hgm3 (ser_row H3.out.s2 H3.out.rm _ rfl); have hgl4 := Nat.lt_of_lt_of_le hgl3 hk4.size; have hgm4 := Nat.lt_of_lt_of_le hgm3 hk4.size; have H4 := Lib.hid h4; clear h4 hk4))
                  | (go_at_call 9; ((with_reducible refine (serSet_two2 H4.out (by have := HL3.out; omega) to1 to2 to3 to4).mono ?_); rintro e w5' ⟨rfl, v2'', h5, hk5⟩; have x0 := hk5.cell (p := ⟨gl, ol + i * 2, none⟩) hgl4 (ser_row H4.out.s2 H4.out.rl _ rfl); have x1 := hk5.cell (p := ⟨gl, ol + i * 2 + 1, none⟩) hgl4 (ser_row H4.out.s2 H4.out.rl _ rfl); have y0 := hk5.cell (p := ⟨gm, om + i * 2, none⟩) hgm4 (ser_row H4.out.s2 H4.out.rm _ rfl); have y1 := hk5.cell (p := ⟨gm, om + i * 2 + 1, none⟩) hgm4 (ser_row H4.out.s2 H4.out.rm _ rfl); have H5 := Lib.hid h5; clear h5 hk5)))
                go_wp2
                go_roundw
                case rel => exact ⟨i + 1, _, _, by omega, by go_num, by rw [HA.out, HB.out]; exact H5.out⟩
                case measure => simp [intOf]; omega
              · have hie : i = S.length := by omega
                subst hie
                have hX : setAll [] (T.take S.length) = setAll [] (S.take S.length) := by
                  rw [List.take_length, ← HTS.out, List.take_length]
                  exact setAll_perm Hperm.out (Hperm.out.pairwise_iff (fun h => Ne.symm h) |>.2 Hok.out.1) []
                have htw2 := Htw.out
                rw [hX] at htw2
                obtain ⟨X, hXe⟩ : ∃ X, setAll [] (S.take S.length) = X := ⟨_, rfl⟩
                have hXl : X.length ≤ 20 := by rw [← hXe]; exact Nat.le_trans (setAll_length _ _) (by simp; omega)
                rw [hXe] at htw2
                have Htw2 := Lib.hid htw2; clear htw2
                clear hX hXe his
                go_wp2
                go_loop [16] (fun c => ∃ q : Nat, q ≤ 102 ∧ c = .int .i64 ((q : Int) - 1)) (fun c => (101 - intOf c).toNat)
                case atStart => exact ⟨0, by omega, rfl⟩
                case round =>
                  obtain ⟨q, hq, rfl⟩ := hrel
                  by_cases hq1 : q ≤ 101
                  · go_wp2_with (first
                      | (go_at_call 11; ((with_reducible refine (serOn_any _ _ _ _ _ _ Htw2.out.s1 (by omega)).mono ?_); rintro e w6 ⟨rfl, rfl⟩))
                      | (go_at_call 11; ((with_reducible refine (serOn_any _ _ _ _ _ _ Htw2.out.s2 (by omega)).mono ?_); rintro e w7 ⟨rfl, rfl⟩)))
                    go_round
                    case rel => exact ⟨q + 1, by omega, by go_num⟩
                    case measure => simp [intOf]; omega
                  · obtain rfl : q = 102 := by omega
                    obtain ⟨s, hs⟩ : ∃ s, sumVal X 0 99 = s := ⟨_, rfl⟩
                    have Hs := Lib.hid hs; clear hs; have HXl := Lib.hid hXl; clear hXl
                    go_wp2_with fail
                    refine (serSum_two1 Htw2.out HXl.out s Hs.out).mono ?_
                    rintro e w3 ⟨rfl, h3⟩
                    have H3 := Lib.hid h3; clear h3
                    go_wp2_with fail
                    refine (serSum_two2 H3.out HXl.out s Hs.out).mono ?_
                    rintro e w4 ⟨rfl, h4⟩
                    have H4 := Lib.hid h4; clear h4
                    go_wp2_with (go_at_call 8; refine (awake12_any _).mono ?_; rintro e w5 ⟨rfl, hk5⟩; have H5 := Lib.hid (H4.out.keep hk5); clear hk5)
                    go_wp2_with fail
                    refine (serSet_two1no H5.out 1 (-1) 5 HXl.out (by omega) (by decide) (by decide)).mono ?_
                    rintro e w6 ⟨rfl, v6, h6⟩
                    have H6 := Lib.hid h6; clear h6
                    go_wp2_with fail
                    refine (serSet_two1no H6.out (-1) 1 10 HXl.out (by omega) (by decide) (by decide)).mono ?_
                    rintro e w7 ⟨rfl, v7, h7⟩
                    have H7 := Lib.hid h7; clear h7
                    go_wp2_with fail
                    refine (serSet_two1no H7.out 1 1000000000000001 5 HXl.out (by omega) (by decide) (by decide)).mono ?_
                    rintro e w8 ⟨rfl, v8, h8⟩
                    have H8 := Lib.hid h8; clear h8
                    go_wp2
                    go_ret
                    exact ⟨rfl, H8.out.kp.below (by simp) (Nat.le_refl _)⟩
end Go.Proofs.Ytddmmnkhblcpiaa
