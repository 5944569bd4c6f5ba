/- The walks of the series layer: Changes. -/
import Derived.Test.YtddmmnkhblcpiaaSeries3
namespace Go.Proofs.Ytddmmnkhblcpiaa
open Go.RowKit
/-- Span, as the program has it. -/
structure Span where
  lo : Int
  hi : Int
deriving DecidableEq, Inhabited
def Span.cells (d : Span) : List Value := [.int .i64 d.lo, .int .i64 d.hi]
theorem Span.cells_length (d : Span) : d.cells.length = 2 := rfl
theorem Span.one (L : List Span) : ∀ u ∈ L.flatMap Span.cells, u.oneCell' = true := by
  intro u hu
  obtain ⟨d, _, hd⟩ := List.mem_flatMap.1 hu
  simp only [Span.cells, List.mem_cons, List.not_mem_nil, or_false] at hd
  rcases hd with rfl | rfl <;> rfl
def toOf (L : List Turn) (k : Nat) (t : Turn) : Int := match L[k + 1]? with
  | some u => u.day - 1
  | none => t.day
def prevB (L : List Turn) (k : Nat) : Option Int := if k = 0 then none else (L[k - 1]?).map (·.balance)
/-- The spans behind k rounds. -/
def chgK (L : List Turn) : Nat → List Span
  | 0 => []
  | k + 1 => match L[k]? with
    | none => chgK L k
    | some t => if prevB L k = some t.balance then (chgK L k).set ((chgK L k).length - 1) ⟨((chgK L k)[(chgK L k).length - 1]?.getD default).lo, toOf L k t⟩ else chgK L k ++ [⟨t.day, toOf L k t⟩]
theorem Reads.lit_at (w : World) (cs : Array Value) (e : TypeId) (size n B : Nat) (hB : B = w.heap.size) (hs : cs.size = n * size) : Reads (w.alloc (.cells cs e)) size (.slice (some ⟨B, 0, none⟩) n n) n cs.toList := by subst hB; exact Reads.lit w cs e size n hs
theorem chgK_succ {L : List Turn} {k : Nat} {t : Turn} (h : L[k]? = some t) : chgK L (k + 1) = if prevB L k = some t.balance then (chgK L k).set ((chgK L k).length - 1) ⟨((chgK L k)[(chgK L k).length - 1]?.getD default).lo, toOf L k t⟩ else chgK L k ++ [⟨t.day, toOf L k t⟩] := by
  rw [chgK, h]
theorem chgK_pos {L : List Turn} {k : Nat} (h : k < L.length) : 0 < (chgK L (k + 1)).length := by
  induction k with
  | zero => rw [chgK_succ (List.getElem?_eq_getElem h)]; simp [prevB]
  | succ k ih =>
    rw [chgK_succ (List.getElem?_eq_getElem h)]
    split
    · simp only [List.length_set]; exact ih (by omega)
    · simp
theorem chgK_le (L : List Turn) (k : Nat) : (chgK L k).length ≤ k := by
  induction k with
  | zero => simp [chgK]
  | succ k ih =>
    rw [chgK]
    split
    · omega
    · split
      · simp; omega
      · simp; omega
theorem info_tSpan : (Try.prog.info? 35).map (fun i => (i.zero, i.size, i.bytes)) = some (some (.agg #[.int .i64 0, .int .i64 0]), 2, 16) := by kernel_rfl
set_option maxRecDepth 100000 in
set_option maxHeartbeats 400000 in
theorem serChanges_nil (w : World) : Calls Try.prog 17 #[.pointer none] w fun e w' => e = .returned (.slice none 0 0) ∧ w = w' := by
  go_enter Try.func17, Try.ntmps17
  go_wp2
  go_ret
  exact ⟨rfl, rfl⟩
/-- What has been gathered lies in a row of the call's own. -/
structure OutAt (w0 w : World) (v : Value) (S : List Span) : Prop where
  row : w.ownsRow 0 35 2 v S.length (S.flatMap Span.cells)
  new : ∀ g, v.ownBlock = some g → w0.heap.size ≤ g
  kp : Keeps (fun _ => False) w0 w
theorem OutAt.keep {w0 w w' : World} {v : Value} {S : List Span} (h : OutAt w0 w v S) (hk : Keeps (fun _ => False) w w') : OutAt w0 w' v S := ⟨hk.row h.row (by simp), h.new, h.kp.trans (hk.mono (by simp))⟩
theorem OutAt.app {w0 wr W w1 : World} {v v' : Value} {S S' : List Span} {a b : Int} (h : OutAt w0 wr v S) (hW : Keeps (fun _ => False) wr W) (ho : w1.ownsRow 0 35 2 v' (S.length + 1) (S.flatMap Span.cells ++ [.int .i64 a, .int .i64 b])) (hk : Keeps (fun k => v.ownBlock = some k) W w1)
    (hf : v'.ownBlock = v.ownBlock ∨ ∃ g, v'.ownBlock = some g ∧ W.heap.size ≤ g) (hS : S' = S ++ [⟨a, b⟩]) : OutAt w0 w1 v' S' := by
  subst hS
  have hs := h.kp.size
  have hs2 := hW.size
  refine ⟨by simpa [List.flatMap_append, Span.cells] using ho, fun g hg => ?_, (h.kp.trans (hW.mono (by simp))).trans (hk.mono fun k _ hk' => .inr (h.new k hk'))⟩
  rcases hf with hf | ⟨g', hg', hh⟩
  · exact h.new g (by rw [← hf]; exact hg)
  · rw [hg'] at hg; simp only [Option.some.injEq] at hg; omega
theorem OutAt.last {w0 wr W : World} {g cap q n : Nat} {S S' : List Span} {a b c : Int} (h : OutAt w0 wr (.slice (some ⟨g, 0, none⟩) n cap) S) (hn : S.length = n) (hW : Keeps (fun _ => False) wr W) (hy : S[q]? = some ⟨a, b⟩) (hS : S' = S.set q ⟨a, c⟩) :
    OutAt w0 (W.setCell ⟨g, q * 2 + 1, none⟩ (.int .i64 c)) (.slice (some ⟨g, 0, none⟩) n cap) S' := by
  subst hn
  subst hS
  have h' := h.keep hW
  have r := owns_store Span.cells_length h'.row hy 1 (by decide) (y := ⟨a, c⟩) (u := .int .i64 c) rfl
  refine ⟨by simpa using r, h.new, h'.kp.trans (Keeps.setCell _ _ _ (.inr (h.new g rfl)))⟩
set_option maxRecDepth 100000 in
set_option maxHeartbeats 1600000 in
theorem serChanges_any (p : Nat) (v : Value) (f : Int) (L : List Turn) (w : World) (h : SerAt w p v f L) (hl : L.length ≤ 100000) :
    Calls Try.prog 17 #[(.pointer (some ⟨p, 0, none⟩))] w fun e w' => ∃ v', e = .returned v' ∧ OutAt w w' v' (chgK L L.length) := by
  obtain ⟨i0, hi, hz0, hz1, hz2⟩ := info_parts info_tSpan
  have hfb := h.fb
  have hok := h.ok
  have hpl := lt_of_block h.blk
  obtain ⟨ad, cap, rfl, hcap, hnone⟩ := ownsRow_shape h.row
  have c1 := cell_of_cells h.blk 1
  have H := Lib.hid h; clear h; have Hfb := Lib.hid hfb; clear hfb; have Hok := Lib.hid hok; clear hok; have Hnone := Lib.hid hnone; clear hnone
  go_enter Try.func17, Try.ntmps17
  go_wp2
  go_loopw [3, 14] (fun o i wr => ∃ (k : Nat), k ≤ L.length ∧ i = .int .i64 k ∧ OutAt w wr o (chgK L k)) (fun _ i _ => L.length - (intOf i).toNat)
  case atStart => exact ⟨0, Nat.zero_le _, rfl, ⟨World.ownsRow_nil _ _ _ _, by simp [Value.ownBlock], Keeps.refl _ _⟩⟩
  case round =>
    obtain ⟨k, hk, rfl, hout⟩ := hrel
    have Hout := Lib.hid hout; clear hout
    by_cases hkl : k < L.length
    · obtain ⟨z, hz⟩ : ∃ z, L[k]? = some z := ⟨L[k], List.getElem?_eq_getElem hkl⟩
      obtain ⟨g, o1, c, he, hc⟩ := ((Reads.of_owns H.out.row).keeps Hout.out.kp (by simp)).elem Turn.cells_length hz (by decide)
      simp only [Value.slice.injEq, true_and] at he
      obtain ⟨rfl, rfl⟩ := he
      obtain ⟨zd, zb⟩ := z
      have z0 : wr.cell? ⟨g, o1 + k * 2, none⟩ = some (.int .i64 zd) := hc 0 (by decide)
      have z1 : wr.cell? ⟨g, o1 + k * 2 + 1, none⟩ = some (.int .i64 zb) := hc 1 (by decide)
      have d1 : wr.cell? ⟨p, 1, none⟩ = some (.slice (some ⟨g, o1, none⟩) L.length cap) := (Hout.out.kp.cell (p := ⟨p, 1, none⟩) hpl (by simp)).trans c1
      have l1 : p < wr.heap.size := Nat.lt_of_lt_of_le hpl Hout.out.kp.size
      have l2 : g < wr.heap.size := cell_lt z0
      have Hz := Lib.hid hz; clear hz
      clear hc c1
      by_cases hnx : k + 1 < L.length
      · obtain ⟨z', hz'⟩ : ∃ z', L[k + 1]? = some z' := ⟨L[k + 1], List.getElem?_eq_getElem hnx⟩
        obtain ⟨g', o', c', he', hc'⟩ := ((Reads.of_owns H.out.row).keeps Hout.out.kp (by simp)).elem Turn.cells_length hz' (by decide)
        simp only [Value.slice.injEq, true_and, Option.some.injEq, Addr.mk.injEq, and_true] at he'
        obtain ⟨⟨rfl, rfl⟩, rfl⟩ := he'
        have hzo' := Hok.out.2 z' (List.mem_of_getElem? hz')
        obtain ⟨nd, nb⟩ := z'
        have z2 : wr.cell? ⟨g, o1 + (k + 1) * 2, none⟩ = some (.int .i64 nd) := hc' 0 (by decide)
        simp only at hzo'
        have nd1 : -1099511627776 ≤ nd := by have := Hfb.out; omega
        have nd2 : nd ≤ 1099511667776 := by have := Hfb.out; omega
        have hto : toOf L k ⟨zd, zb⟩ = nd - 1 := by unfold toOf; rw [hz']
        clear hc' hzo' hz'
        by_cases hk0 : k = 0
        · subst hk0
          simp only [Nat.zero_mul, Nat.add_zero] at z0 z1
          simp only [Nat.zero_add, Nat.one_mul] at z2
          obtain ⟨ad3, cap3, rfl, hcap3, _⟩ := ownsRow_shape Hout.out.row
          have hsp := chgK_succ Hz.out
          rw [if_neg (by simp [prevB]), hto] at hsp
          have Hsp := Lib.hid hsp; clear hsp
          go_wp2
          go_quiet (fail)
          go_wp2_with (at_builtin; refine wpList_append_row rfl (.tmp 62) (.tmp 67) 46 rfl 0 35 i0 _ 2 16 Try.underlying46 hi hz0 hz1 hz2 rfl (by decide) _ _ _ rfl (Hout.out.keep ((Keeps.alloc _ _).trans ((Keeps.drewN _ _).trans (Keeps.alloc _ _)))).row _ 1 [.int .i64 zd, .int .i64 (nd - 1)] rfl (Reads.lit_at _ _ _ _ _ _ (by simp) rfl) (by simp [Value.oneCell']) (by unfold maxLen; have := chgK_le L 0; omega) (by have := chgK_le L 0; omega) (by omega) ?_)
          intro v' w1 ho hk1 hf1
          have hend := Hout.out.app ((Keeps.alloc _ _).trans ((Keeps.drewN _ _).trans (Keeps.alloc _ _))) ho hk1 (by simpa using hf1) Hsp.out
          have Hend := Lib.hid hend; clear hend
          clear ho hk1 hf1
          go_wp2
          go_roundw
          case rel => exact ⟨0 + 1, by omega, by go_num, Hend.out⟩
          case measure => simp [intOf]; omega
        · obtain ⟨m, rfl⟩ : ∃ m, k = m + 1 := ⟨k - 1, by omega⟩
          obtain ⟨pz, hpz⟩ : ∃ pz, L[m]? = some pz := ⟨L[m], List.getElem?_eq_getElem (by omega)⟩
          obtain ⟨g5, o5, c5, he5, hc5⟩ := ((Reads.of_owns H.out.row).keeps Hout.out.kp (by simp)).elem Turn.cells_length hpz (by decide)
          simp only [Value.slice.injEq, true_and, Option.some.injEq, Addr.mk.injEq, and_true] at he5
          obtain ⟨⟨rfl, rfl⟩, rfl⟩ := he5
          obtain ⟨pd, pb⟩ := pz
          have z3 : wr.cell? ⟨g, o1 + m * 2 + 1, none⟩ = some (.int .i64 pb) := hc5 1 (by decide)
          have hpv : prevB L (m + 1) = some pb := by unfold prevB; rw [if_neg (by omega), Nat.add_sub_cancel, hpz]; rfl
          have hw1 : IntKind.i64.wrap ((m : Int) + 1 - 1) = (m : Int) := by rw [show (m : Int) + 1 - 1 = m by omega]; exact IntWalk.i64_in _ (by omega)
          have Hpv := Lib.hid hpv; clear hpv
          clear hc5 hpz hk0
          by_cases hsame : pb = zb
          · subst hsame
            have hpos := chgK_pos (L := L) (k := m) (by omega)
            obtain ⟨q, hq⟩ : ∃ q, (chgK L (m + 1)).length = q + 1 := ⟨(chgK L (m + 1)).length - 1, by omega⟩
            have hqb := chgK_le L (m + 1)
            obtain ⟨y, hy⟩ : ∃ y, (chgK L (m + 1))[q]? = some y := ⟨(chgK L (m + 1))[q]'(by omega), List.getElem?_eq_getElem _⟩
            obtain ⟨ya, yb⟩ := y
            obtain ⟨g3, cap3, rfl, hg3⟩ := owns_some Hout.out.row (by omega)
            have hsp := chgK_succ Hz.out
            rw [if_pos Hpv.out, hto, hq, Nat.add_sub_cancel, hy] at hsp
            have y0 := owns_elem Span.cells_length Hout.out.row hy 1 (by decide)
            have y1 : wr.frozen? ⟨g3, q * 2 + 1, none⟩ = false := Hout.out.row.frozenAt _
            have hout2 := Hout.out
            rw [hq] at hout2
            have hend := fun W hW => OutAt.last hout2 hq (W := W) hW hy hsp
            have hqn : q + 1 ≤ m + 1 := by omega
            rw [hq]
            have Hsp := Lib.hid hsp; clear hsp; have Hend := Lib.hid hend; clear hend; have Hy := Lib.hid hy; clear hy; have Hout2 := Lib.hid hout2; clear hout2
            clear hpos hqb
            go_wp2
            go_quiet (fail)
            go_wp2
            go_roundw
            case rel => exact ⟨m + 1 + 1, by omega, by go_num, Hend.out _ ((Keeps.alloc _ _).trans (Keeps.drewN _ _))⟩
            case measure => simp [intOf]; omega
          · have hs1 : (pb == zb) = false := beq_eq_false_iff_ne.2 hsame
            have hne : ¬ prevB L (m + 1) = some zb := by rw [Hpv.out]; simpa using hsame
            clear hsame
            have Hne := Lib.hid hne; clear hne
            obtain ⟨ad3, cap3, rfl, hcap3, _⟩ := ownsRow_shape Hout.out.row
            have hsp := chgK_succ Hz.out
            rw [if_neg Hne.out, hto] at hsp
            have Hsp := Lib.hid hsp; clear hsp
            go_wp2
            go_quiet (fail)
            go_wp2_with (at_builtin; refine wpList_append_row rfl (.tmp 62) (.tmp 67) 46 rfl 0 35 i0 _ 2 16 Try.underlying46 hi hz0 hz1 hz2 rfl (by decide) _ _ _ rfl (Hout.out.keep ((Keeps.alloc _ _).trans ((Keeps.drewN _ _).trans (Keeps.alloc _ _)))).row _ 1 [.int .i64 zd, .int .i64 (nd - 1)] rfl (Reads.lit_at _ _ _ _ _ _ (by simp) rfl) (by simp [Value.oneCell']) (by unfold maxLen; have := chgK_le L (m + 1); omega) (by have := chgK_le L (m + 1); omega) (by omega) ?_)
            intro v' w1 ho hk1 hf1
            have hend := Hout.out.app ((Keeps.alloc _ _).trans ((Keeps.drewN _ _).trans (Keeps.alloc _ _))) ho hk1 (by simpa using hf1) Hsp.out
            have Hend := Lib.hid hend; clear hend
            clear ho hk1 hf1
            go_wp2
            go_roundw
            case rel => exact ⟨(m + 1) + 1, by omega, by go_num, Hend.out⟩
            case measure => simp [intOf]; omega
      · have hto : toOf L k ⟨zd, zb⟩ = zd := by unfold toOf; rw [List.getElem?_eq_none (by omega)]
        by_cases hk0 : k = 0
        · subst hk0
          simp only [Nat.zero_mul, Nat.add_zero] at z0 z1
          obtain ⟨ad3, cap3, rfl, hcap3, _⟩ := ownsRow_shape Hout.out.row
          have hsp := chgK_succ Hz.out
          rw [if_neg (by simp [prevB]), hto] at hsp
          have Hsp := Lib.hid hsp; clear hsp
          go_wp2
          go_quiet (fail)
          go_wp2_with (at_builtin; refine wpList_append_row rfl (.tmp 62) (.tmp 67) 46 rfl 0 35 i0 _ 2 16 Try.underlying46 hi hz0 hz1 hz2 rfl (by decide) _ _ _ rfl (Hout.out.keep ((Keeps.alloc _ _).trans ((Keeps.drewN _ _).trans (Keeps.alloc _ _)))).row _ 1 [.int .i64 zd, .int .i64 zd] rfl (Reads.lit_at _ _ _ _ _ _ (by simp) rfl) (by simp [Value.oneCell']) (by unfold maxLen; have := chgK_le L 0; omega) (by have := chgK_le L 0; omega) (by omega) ?_)
          intro v' w1 ho hk1 hf1
          have hend := Hout.out.app ((Keeps.alloc _ _).trans ((Keeps.drewN _ _).trans (Keeps.alloc _ _))) ho hk1 (by simpa using hf1) Hsp.out
          have Hend := Lib.hid hend; clear hend
          clear ho hk1 hf1
          go_wp2
          go_roundw
          case rel => exact ⟨0 + 1, by omega, by go_num, Hend.out⟩
          case measure => simp [intOf]; omega
        · obtain ⟨m, rfl⟩ : ∃ m, k = m + 1 := ⟨k - 1, by omega⟩
          obtain ⟨pz, hpz⟩ : ∃ pz, L[m]? = some pz := ⟨L[m], List.getElem?_eq_getElem (by omega)⟩
          obtain ⟨g5, o5, c5, he5, hc5⟩ := ((Reads.of_owns H.out.row).keeps Hout.out.kp (by simp)).elem Turn.cells_length hpz (by decide)
          simp only [Value.slice.injEq, true_and, Option.some.injEq, Addr.mk.injEq, and_true] at he5
          obtain ⟨⟨rfl, rfl⟩, rfl⟩ := he5
          obtain ⟨pd, pb⟩ := pz
          have z3 : wr.cell? ⟨g, o1 + m * 2 + 1, none⟩ = some (.int .i64 pb) := hc5 1 (by decide)
          have hpv : prevB L (m + 1) = some pb := by unfold prevB; rw [if_neg (by omega), Nat.add_sub_cancel, hpz]; rfl
          have hw1 : IntKind.i64.wrap ((m : Int) + 1 - 1) = (m : Int) := by rw [show (m : Int) + 1 - 1 = m by omega]; exact IntWalk.i64_in _ (by omega)
          have Hpv := Lib.hid hpv; clear hpv
          clear hc5 hpz hk0
          by_cases hsame : pb = zb
          · subst hsame
            have hpos := chgK_pos (L := L) (k := m) (by omega)
            obtain ⟨q, hq⟩ : ∃ q, (chgK L (m + 1)).length = q + 1 := ⟨(chgK L (m + 1)).length - 1, by omega⟩
            have hqb := chgK_le L (m + 1)
            obtain ⟨y, hy⟩ : ∃ y, (chgK L (m + 1))[q]? = some y := ⟨(chgK L (m + 1))[q]'(by omega), List.getElem?_eq_getElem _⟩
            obtain ⟨ya, yb⟩ := y
            obtain ⟨g3, cap3, rfl, hg3⟩ := owns_some Hout.out.row (by omega)
            have hsp := chgK_succ Hz.out
            rw [if_pos Hpv.out, hto, hq, Nat.add_sub_cancel, hy] at hsp
            have y0 := owns_elem Span.cells_length Hout.out.row hy 1 (by decide)
            have y1 : wr.frozen? ⟨g3, q * 2 + 1, none⟩ = false := Hout.out.row.frozenAt _
            have hout2 := Hout.out
            rw [hq] at hout2
            have hend := fun W hW => OutAt.last hout2 hq (W := W) hW hy hsp
            have hqn : q + 1 ≤ m + 1 := by omega
            rw [hq]
            have Hsp := Lib.hid hsp; clear hsp; have Hend := Lib.hid hend; clear hend; have Hy := Lib.hid hy; clear hy; have Hout2 := Lib.hid hout2; clear hout2
            clear hpos hqb
            go_wp2
            go_quiet (fail)
            go_wp2
            go_roundw
            case rel => exact ⟨m + 1 + 1, by omega, by go_num, Hend.out _ ((Keeps.alloc _ _).trans (Keeps.drewN _ _))⟩
            case measure => simp [intOf]; omega
          · have hs1 : (pb == zb) = false := beq_eq_false_iff_ne.2 hsame
            have hne : ¬ prevB L (m + 1) = some zb := by rw [Hpv.out]; simpa using hsame
            clear hsame
            have Hne := Lib.hid hne; clear hne
            obtain ⟨ad3, cap3, rfl, hcap3, _⟩ := ownsRow_shape Hout.out.row
            have hsp := chgK_succ Hz.out
            rw [if_neg Hne.out, hto] at hsp
            have Hsp := Lib.hid hsp; clear hsp
            go_wp2
            go_quiet (fail)
            go_wp2_with (at_builtin; refine wpList_append_row rfl (.tmp 62) (.tmp 67) 46 rfl 0 35 i0 _ 2 16 Try.underlying46 hi hz0 hz1 hz2 rfl (by decide) _ _ _ rfl (Hout.out.keep ((Keeps.alloc _ _).trans ((Keeps.drewN _ _).trans (Keeps.alloc _ _)))).row _ 1 [.int .i64 zd, .int .i64 zd] rfl (Reads.lit_at _ _ _ _ _ _ (by simp) rfl) (by simp [Value.oneCell']) (by unfold maxLen; have := chgK_le L (m + 1); omega) (by have := chgK_le L (m + 1); omega) (by omega) ?_)
            intro v' w1 ho hk1 hf1
            have hend := Hout.out.app ((Keeps.alloc _ _).trans ((Keeps.drewN _ _).trans (Keeps.alloc _ _))) ho hk1 (by simpa using hf1) Hsp.out
            have Hend := Lib.hid hend; clear hend
            clear ho hk1 hf1
            go_wp2
            go_roundw
            case rel => exact ⟨(m + 1) + 1, by omega, by go_num, Hend.out⟩
            case measure => simp [intOf]; omega
    · have hke : k = L.length := by omega
      subst hke
      go_wp2
      go_ret
      exact ⟨_, rfl, Hout.out⟩
end Go.Proofs.Ytddmmnkhblcpiaa
