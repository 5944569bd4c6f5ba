/- The reference's series: Changes; a span that is near. -/
import Derived.Test.YtddmmnkhblcpiaaSeries8
namespace Go.Proofs.Ytddmmnkhblcpiaa
open Go.RowKit
set_option maxRecDepth 100000 in
set_option maxHeartbeats 1600000 in
theorem rserChanges_any (p : Nat) (v : Value) (f : Int) (L : List Turn) (w : World) (h : RSerAt w p v f L) (hl : L.length ≤ 100000) :
    Calls Try.prog 18 #[(.pointer (some ⟨p, 0, none⟩))] w fun e w' => ∃ v', e = .returned v' ∧ OutAt w w' v' (chgK L L.length) := by
  obtain ⟨i0, hi, hz0, hz1, hz2⟩ := info_parts info_tSpan
  have hfb := h.fb
  have hok := h.ok
  have hpl := lt_of_block h.blk
  obtain ⟨ad, cap, rfl, hcap, hnone⟩ := ownsRow_shape h.row
  have c1 := cell_of_cells h.blk 1
  have H := Lib.hid h; clear h; have Hfb := Lib.hid hfb; clear hfb; have Hok := Lib.hid hok; clear hok; have Hnone := Lib.hid hnone; clear hnone
  go_enter Try.func18, Try.ntmps18
  go_wp2
  go_loopw [3, 4] (fun o i wr => ∃ (k : Nat), k ≤ L.length ∧ i = .int .i64 k ∧ OutAt w wr o (chgK L k)) (fun _ i _ => L.length - (intOf i).toNat)
  case atStart => exact ⟨0, Nat.zero_le _, rfl, ⟨World.ownsRow_nil _ _ _ _, by simp [Value.ownBlock], Keeps.refl _ _⟩⟩
  case round =>
    obtain ⟨k, hk, rfl, hout⟩ := hrel
    have Hout := Lib.hid hout; clear hout
    have d1 : wr.cell? ⟨p, 1, none⟩ = some (.slice ad L.length cap) := (Hout.out.kp.cell (p := ⟨p, 1, none⟩) hpl (by simp)).trans c1
    have l1 : p < wr.heap.size := Nat.lt_of_lt_of_le hpl Hout.out.kp.size
    by_cases hkl : k < L.length
    · obtain ⟨z, hz⟩ := get_some hkl
      obtain ⟨g, o1, c, he, hc⟩ := ((Reads.of_owns H.out.row).keeps Hout.out.kp (by simp)).elem Turn.cells_length hz (by decide)
      simp only [Value.slice.injEq, true_and] at he
      obtain ⟨rfl, rfl⟩ := he
      obtain ⟨zd, zb⟩ := z
      have z0 : wr.cell? ⟨g, o1 + k * 2, none⟩ = some (.int .i64 zd) := hc 0 (by decide)
      have z1 : wr.cell? ⟨g, o1 + k * 2 + 1, none⟩ = some (.int .i64 zb) := hc 1 (by decide)
      have l2 : g < wr.heap.size := cell_lt z0
      have Hz := Lib.hid hz; clear hz
      clear hc c1
      by_cases hnx : k + 1 < L.length
      · obtain ⟨z', hz'⟩ := get_some hnx
        obtain ⟨g', o', c', he', hc'⟩ := ((Reads.of_owns H.out.row).keeps Hout.out.kp (by simp)).elem Turn.cells_length hz' (by decide)
        simp only [Value.slice.injEq, true_and, Option.some.injEq, Addr.mk.injEq, and_true] at he'
        obtain ⟨⟨rfl, rfl⟩, rfl⟩ := he'
        have hzo' := Hok.out.2 z' (List.mem_of_getElem? hz')
        obtain ⟨nd, nb⟩ := z'
        have z2 : wr.cell? ⟨g, o1 + (k + 1) * 2, none⟩ = some (.int .i64 nd) := hc' 0 (by decide)
        simp only at hzo'
        have nd1 : -1099511627776 ≤ nd := by have := Hfb.out; omega
        have nd2 : nd ≤ 1099511667776 := by have := Hfb.out; omega
        have hto : toOf L k ⟨zd, zb⟩ = nd - 1 := by unfold toOf; rw [hz']
        clear hc' hzo' hz'
        by_cases hk0 : k = 0
        · subst hk0
          simp only [Nat.zero_mul, Nat.add_zero] at z0 z1
          simp only [Nat.zero_add, Nat.one_mul] at z2
          have hne : ¬ prevB L 0 = some zb := by simp [prevB]
          have Hne := Lib.hid hne; clear hne
          obtain ⟨ad3, cap3, rfl, hcap3, _⟩ := ownsRow_shape Hout.out.row
          have hsp := chgK_succ Hz.out
          rw [if_neg Hne.out, hto] at hsp
          have Hsp := Lib.hid hsp; clear hsp
          go_wp2
          go_quiet (fail)
          go_wp2_with (at_builtin; refine wpList_append_row rfl (.tmp 70) (.tmp 81) 46 rfl 0 35 i0 _ 2 16 Try.underlying46 hi hz0 hz1 hz2 rfl (by decide) _ _ _ rfl (Hout.out.keep ((Keeps.drewN _ _).trans (Keeps.alloc _ _))).row _ 1 [.int .i64 zd, .int .i64 (nd - 1)] rfl (Reads.lit_at _ _ _ _ _ _ (by simp) rfl) (by simp [Value.oneCell']) (by unfold maxLen; have := chgK_le L 0; omega) (by have := chgK_le L 0; omega) (by omega) ?_)
          intro v' w1 ho hk1 hf1
          have hend := Hout.out.app ((Keeps.drewN _ _).trans (Keeps.alloc _ _)) ho hk1 (by simpa using hf1) Hsp.out
          have Hend := Lib.hid hend; clear hend
          clear ho hk1 hf1
          go_wp2
          go_roundw
          case rel => exact ⟨0 + 1, by omega, by go_num, Hend.out⟩
          case measure => simp [intOf]; omega
        · obtain ⟨m, rfl⟩ : ∃ m, k = m + 1 := ⟨k - 1, by omega⟩
          obtain ⟨pz, hpz⟩ := get_some (L := L) (k := m) (by omega)
          obtain ⟨g5, o5, c5, he5, hc5⟩ := ((Reads.of_owns H.out.row).keeps Hout.out.kp (by simp)).elem Turn.cells_length hpz (by decide)
          simp only [Value.slice.injEq, true_and, Option.some.injEq, Addr.mk.injEq, and_true] at he5
          obtain ⟨⟨rfl, rfl⟩, rfl⟩ := he5
          obtain ⟨pd, pb⟩ := pz
          have z3 : wr.cell? ⟨g, o1 + m * 2 + 1, none⟩ = some (.int .i64 pb) := hc5 1 (by decide)
          have hpv : prevB L (m + 1) = some pb := by unfold prevB; rw [if_neg (by omega), Nat.add_sub_cancel, hpz]; rfl
          have hw1 : IntKind.i64.wrap ((m : Int) + 1 - 1) = (m : Int) := by rw [show (m : Int) + 1 - 1 = m by omega]; exact IntWalk.i64_in _ (by omega)
          have Hpv := Lib.hid hpv; clear hpv
          clear hc5 hpz hk0
          by_cases hsame : pb = zb
          · subst hsame
            have hpos := chgK_pos (L := L) (k := m) (by omega)
            obtain ⟨q, hq⟩ : ∃ q, (chgK L (m + 1)).length = q + 1 := ⟨(chgK L (m + 1)).length - 1, by omega⟩
            have hqb := chgK_le L (m + 1)
            obtain ⟨y, hy⟩ : ∃ y, (chgK L (m + 1))[q]? = some y := ⟨(chgK L (m + 1))[q]'(by omega), List.getElem?_eq_getElem _⟩
            obtain ⟨ya, yb⟩ := y
            obtain ⟨g3, cap3, rfl, hg3⟩ := owns_some Hout.out.row (by omega)
            have hsp := chgK_succ Hz.out
            rw [if_pos Hpv.out, hto, hq, Nat.add_sub_cancel, hy] at hsp
            have y0 := owns_elem Span.cells_length Hout.out.row hy 1 (by decide)
            have y1 : wr.frozen? ⟨g3, q * 2 + 1, none⟩ = false := Hout.out.row.frozenAt _
            have hout2 := Hout.out
            rw [hq] at hout2
            have hend := fun W hW => OutAt.last hout2 hq (W := W) hW hy hsp
            have hqn : q + 1 ≤ m + 1 := by omega
            rw [hq]
            have Hsp := Lib.hid hsp; clear hsp; have Hend := Lib.hid hend; clear hend; have Hy := Lib.hid hy; clear hy; have Hout2 := Lib.hid hout2; clear hout2
            clear hpos hqb
            go_wp2
            go_quiet (fail)
            go_wp2
            go_roundw
            case rel => exact ⟨m + 1 + 1, by omega, by go_num, Hend.out _ (Keeps.drewN _ _)⟩
            case measure => simp [intOf]; omega
          · have hs1 : (zb == pb) = false := beq_eq_false_iff_ne.2 (Ne.symm hsame)
            have hne : ¬ prevB L (m + 1) = some zb := by rw [Hpv.out]; simpa using hsame
            clear hsame
            have Hne := Lib.hid hne; clear hne
            obtain ⟨ad3, cap3, rfl, hcap3, _⟩ := ownsRow_shape Hout.out.row
            have hsp := chgK_succ Hz.out
            rw [if_neg Hne.out, hto] at hsp
            have Hsp := Lib.hid hsp; clear hsp
            go_wp2
            go_quiet (fail)
            go_wp2_with (at_builtin; refine wpList_append_row rfl (.tmp 70) (.tmp 81) 46 rfl 0 35 i0 _ 2 16 Try.underlying46 hi hz0 hz1 hz2 rfl (by decide) _ _ _ rfl (Hout.out.keep ((Keeps.drewN _ _).trans (Keeps.alloc _ _))).row _ 1 [.int .i64 zd, .int .i64 (nd - 1)] rfl (Reads.lit_at _ _ _ _ _ _ (by simp) rfl) (by simp [Value.oneCell']) (by unfold maxLen; have := chgK_le L (m + 1); omega) (by have := chgK_le L (m + 1); omega) (by omega) ?_)
            intro v' w1 ho hk1 hf1
            have hend := Hout.out.app ((Keeps.drewN _ _).trans (Keeps.alloc _ _)) ho hk1 (by simpa using hf1) Hsp.out
            have Hend := Lib.hid hend; clear hend
            clear ho hk1 hf1
            go_wp2
            go_roundw
            case rel => exact ⟨(m + 1) + 1, by omega, by go_num, Hend.out⟩
            case measure => simp [intOf]; omega
      · have hto : toOf L k ⟨zd, zb⟩ = zd := by unfold toOf; rw [List.getElem?_eq_none (by omega)]
        by_cases hk0 : k = 0
        · subst hk0
          simp only [Nat.zero_mul, Nat.add_zero] at z0 z1
          skip
          have hne : ¬ prevB L 0 = some zb := by simp [prevB]
          have Hne := Lib.hid hne; clear hne
          obtain ⟨ad3, cap3, rfl, hcap3, _⟩ := ownsRow_shape Hout.out.row
          have hsp := chgK_succ Hz.out
          rw [if_neg Hne.out, hto] at hsp
          have Hsp := Lib.hid hsp; clear hsp
          go_wp2
          go_quiet (fail)
          go_wp2_with (at_builtin; refine wpList_append_row rfl (.tmp 70) (.tmp 81) 46 rfl 0 35 i0 _ 2 16 Try.underlying46 hi hz0 hz1 hz2 rfl (by decide) _ _ _ rfl (Hout.out.keep ((Keeps.drewN _ _).trans (Keeps.alloc _ _))).row _ 1 [.int .i64 zd, .int .i64 zd] rfl (Reads.lit_at _ _ _ _ _ _ (by simp) rfl) (by simp [Value.oneCell']) (by unfold maxLen; have := chgK_le L 0; omega) (by have := chgK_le L 0; omega) (by omega) ?_)
          intro v' w1 ho hk1 hf1
          have hend := Hout.out.app ((Keeps.drewN _ _).trans (Keeps.alloc _ _)) ho hk1 (by simpa using hf1) Hsp.out
          have Hend := Lib.hid hend; clear hend
          clear ho hk1 hf1
          go_wp2
          go_roundw
          case rel => exact ⟨0 + 1, by omega, by go_num, Hend.out⟩
          case measure => simp [intOf]; omega
        · obtain ⟨m, rfl⟩ : ∃ m, k = m + 1 := ⟨k - 1, by omega⟩
          obtain ⟨pz, hpz⟩ := get_some (L := L) (k := m) (by omega)
          obtain ⟨g5, o5, c5, he5, hc5⟩ := ((Reads.of_owns H.out.row).keeps Hout.out.kp (by simp)).elem Turn.cells_length hpz (by decide)
          simp only [Value.slice.injEq, true_and, Option.some.injEq, Addr.mk.injEq, and_true] at he5
          obtain ⟨⟨rfl, rfl⟩, rfl⟩ := he5
          obtain ⟨pd, pb⟩ := pz
          have z3 : wr.cell? ⟨g, o1 + m * 2 + 1, none⟩ = some (.int .i64 pb) := hc5 1 (by decide)
          have hpv : prevB L (m + 1) = some pb := by unfold prevB; rw [if_neg (by omega), Nat.add_sub_cancel, hpz]; rfl
          have hw1 : IntKind.i64.wrap ((m : Int) + 1 - 1) = (m : Int) := by rw [show (m : Int) + 1 - 1 = m by omega]; exact IntWalk.i64_in _ (by omega)
          have Hpv := Lib.hid hpv; clear hpv
          clear hc5 hpz hk0
          by_cases hsame : pb = zb
          · subst hsame
            have hpos := chgK_pos (L := L) (k := m) (by omega)
            obtain ⟨q, hq⟩ : ∃ q, (chgK L (m + 1)).length = q + 1 := ⟨(chgK L (m + 1)).length - 1, by omega⟩
            have hqb := chgK_le L (m + 1)
            obtain ⟨y, hy⟩ : ∃ y, (chgK L (m + 1))[q]? = some y := ⟨(chgK L (m + 1))[q]'(by omega), List.getElem?_eq_getElem _⟩
            obtain ⟨ya, yb⟩ := y
            obtain ⟨g3, cap3, rfl, hg3⟩ := owns_some Hout.out.row (by omega)
            have hsp := chgK_succ Hz.out
            rw [if_pos Hpv.out, hto, hq, Nat.add_sub_cancel, hy] at hsp
            have y0 := owns_elem Span.cells_length Hout.out.row hy 1 (by decide)
            have y1 : wr.frozen? ⟨g3, q * 2 + 1, none⟩ = false := Hout.out.row.frozenAt _
            have hout2 := Hout.out
            rw [hq] at hout2
            have hend := fun W hW => OutAt.last hout2 hq (W := W) hW hy hsp
            have hqn : q + 1 ≤ m + 1 := by omega
            rw [hq]
            have Hsp := Lib.hid hsp; clear hsp; have Hend := Lib.hid hend; clear hend; have Hy := Lib.hid hy; clear hy; have Hout2 := Lib.hid hout2; clear hout2
            clear hpos hqb
            go_wp2
            go_quiet (fail)
            go_wp2
            go_roundw
            case rel => exact ⟨m + 1 + 1, by omega, by go_num, Hend.out _ (Keeps.drewN _ _)⟩
            case measure => simp [intOf]; omega
          · have hs1 : (zb == pb) = false := beq_eq_false_iff_ne.2 (Ne.symm hsame)
            have hne : ¬ prevB L (m + 1) = some zb := by rw [Hpv.out]; simpa using hsame
            clear hsame
            have Hne := Lib.hid hne; clear hne
            obtain ⟨ad3, cap3, rfl, hcap3, _⟩ := ownsRow_shape Hout.out.row
            have hsp := chgK_succ Hz.out
            rw [if_neg Hne.out, hto] at hsp
            have Hsp := Lib.hid hsp; clear hsp
            go_wp2
            go_quiet (fail)
            go_wp2_with (at_builtin; refine wpList_append_row rfl (.tmp 70) (.tmp 81) 46 rfl 0 35 i0 _ 2 16 Try.underlying46 hi hz0 hz1 hz2 rfl (by decide) _ _ _ rfl (Hout.out.keep ((Keeps.drewN _ _).trans (Keeps.alloc _ _))).row _ 1 [.int .i64 zd, .int .i64 zd] rfl (Reads.lit_at _ _ _ _ _ _ (by simp) rfl) (by simp [Value.oneCell']) (by unfold maxLen; have := chgK_le L (m + 1); omega) (by have := chgK_le L (m + 1); omega) (by omega) ?_)
            intro v' w1 ho hk1 hf1
            have hend := Hout.out.app ((Keeps.drewN _ _).trans (Keeps.alloc _ _)) ho hk1 (by simpa using hf1) Hsp.out
            have Hend := Lib.hid hend; clear hend
            clear ho hk1 hf1
            go_wp2
            go_roundw
            case rel => exact ⟨(m + 1) + 1, by omega, by go_num, Hend.out⟩
            case measure => simp [intOf]; omega
    · have hke : k = L.length := by omega
      subst hke
      go_wp2
      go_ret
      exact ⟨_, rfl, Hout.out⟩
/-- near gives some span. -/
theorem near_wf (a b : Int) (h : (Lit.int .i64 a).wf = true) (h' : (Lit.int .i64 b).wf = true) (h1 : b - a < 40000) (h2 : 500 < b - a) : (Lit.int .i64 (a + 500)).wf = true := by
  have := wf_i64 h; have := wf_i64 h'
  simp [Lit.wf, IntKind.min, IntKind.max, IntKind.signed, IntKind.bits]; omega
def NearPost (a : Int) (w : World) (e : Ending) (w' : World) : Prop := ∃ y : Int, (Lit.int .i64 y).wf = true ∧ e = .returned (.agg #[.int .i64 a, .int .i64 y]) ∧ Keeps (fun _ => False) w w'
set_option maxRecDepth 100000 in
set_option maxHeartbeats 400000 in
theorem near12_any (a b : Int) (w : World) (h : (Lit.int .i64 a).wf = true) (h' : (Lit.int .i64 b).wf = true) :
    Calls Try.prog 13 #[.agg #[.int .i64 a, .int .i64 b]] w (NearPost a w) := by
  have ha := wf_i64 h
  have hb := wf_i64 h'
  obtain ⟨a1, a2⟩ := ha
  obtain ⟨b1, b2⟩ := hb
  by_cases hin : b - a < 40000 ∧ 500 < b - a
  · obtain ⟨h3, h4⟩ := hin
    have hw := near_wf a b h h' h3 h4
    have hab : a < b := by omega
    have H := Lib.hid h; clear h; have H' := Lib.hid h'; clear h'; have Hw := Lib.hid hw; clear hw
    go_enter Try.func13, Try.ntmps13
    go_wp2
    exact bodyPost_ret (v := .agg #[.int .i64 a, .int .i64 (a + 500)]) (by simp [results, Try.results13, go_sem]) rfl ⟨_, Hw.out, rfl, (Keeps.alloc _ _).trans (Keeps.alloc _ _)⟩
  · by_cases hab : a < b
    · by_cases h3 : 500 < wrap64 (b - a)
      · have h4 : 40000 ≤ wrap64 (b - a) := by
          unfold wrap64 at h3 ⊢; omega
        have H := Lib.hid h; clear h; have H' := Lib.hid h'; clear h'; have Hin := Lib.hid hin; clear hin
        go_enter Try.func13, Try.ntmps13
        go_wp2
        exact bodyPost_ret (v := .agg #[.int .i64 a, .int .i64 b]) (by simp [results, Try.results13, go_sem]) rfl ⟨_, H'.out, rfl, (Keeps.alloc _ _).trans (Keeps.alloc _ _)⟩
      · have H := Lib.hid h; clear h; have H' := Lib.hid h'; clear h'; have Hin := Lib.hid hin; clear hin
        go_enter Try.func13, Try.ntmps13
        go_wp2
        exact bodyPost_ret (v := .agg #[.int .i64 a, .int .i64 b]) (by simp [results, Try.results13, go_sem]) rfl ⟨_, H'.out, rfl, (Keeps.alloc _ _).trans (Keeps.alloc _ _)⟩
    · have H := Lib.hid h; clear h; have H' := Lib.hid h'; clear h'; have Hin := Lib.hid hin; clear hin
      go_enter Try.func13, Try.ntmps13
      go_wp2
      exact bodyPost_ret (v := .agg #[.int .i64 a, .int .i64 b]) (by simp [results, Try.results13, go_sem]) rfl ⟨_, H'.out, rfl, (Keeps.alloc _ _).trans (Keeps.alloc _ _)⟩
end Go.Proofs.Ytddmmnkhblcpiaa
