/- The walks of the rate layer: the rates of days that are there. -/
import Derived.Test.YtelhlbplbkglkaaRate
namespace Go.Proofs.Ytelhlbplbkglkaa
open Go.RowKit
theorem info_tInt64 : (Try.prog.info? 2).map (fun i => (i.zero, i.size, i.bytes)) = some (some (.int .i64 0), 1, 8) := by kernel_rfl
def rdFr (vT vO : Value) (B : Nat) (rate k day : Int) (u : Nat → Value) : Act := { tmps := #[u 0, vT, u 2, u 3, u 4, u 5, u 6, (.pointer (some ⟨B, 0, none⟩)), u 8, vO, .int .i64 rate, .int .i64 k, .int .i64 day, u 13, u 14, u 15, u 16, u 17, u 18, u 19, u 20, u 21, u 22, u 23, u 24, u 25, u 26, u 27, u 28, u 29, u 30, u 31, u 32, u 33, u 34, u 35, u 36, u 37, u 38, u 39, u 40, u 41, u 42, u 43, u 44, u 45, u 46, u 47, u 48, u 49, u 50, u 51, u 52, u 53, u 54, u 55], defers := [] }
structure RdAt (w : World) (r0 st : Int) (L : List Ev) (tr fr te : Int) (B : Nat) (n k : Nat) (vT vO : Value) (W : World) : Prop where
  nN : (n : Int) ≤ te - fr + 1
  kT : k ≤ (turnsL L tr).length
  ahead : ∀ j x, j < k → (turnsL L tr)[j]? = some x → x.day ≤ fr + n
  rowT : W.ownsRow 0 34 5 vT (turnsL L tr).length ((turnsL L tr).flatMap Ev.cells)
  box : W.heap[B]? = some (.cells #[.int .i64 fr, .int .i64 te] 51 (0, 0))
  row : W.ownsRow 0 2 1 vO n ((daysL r0 st L tr fr n).flatMap i64c)
  fresh : Fresh w W vO
def rdJ (w : World) (r0 st : Int) (L : List Ev) (tr fr te : Int) (B : Nat) (a' : Act) (W : World) : Prop :=
  ∃ (n k : Nat) (vT vO : Value) (u : Nat → Value), a' = rdFr vT vO B (rrAt r0 (turnsL L tr) k) k (fr + n) u ∧ RdAt w r0 st L tr fr te B n k vT vO W
theorem rdJ.mk {w : World} {r0 st : Int} {L : List Ev} {tr fr te : Int} {B : Nat} {a' : Act} {W : World} (n k : Nat) (vT vO : Value) (h : a' = rdFr vT vO B (rrAt r0 (turnsL L tr) k) k (fr + n) (fun i => a'.tmps.getD i undef)) (hr : RdAt w r0 st L tr fr te B n k vT vO W) : rdJ w r0 st L tr fr te B a' W := ⟨n, k, vT, vO, _, h, hr⟩
theorem RdAt.app {w : World} {r0 st : Int} {L : List Ev} {tr fr te : Int} {B : Nat} {n k k' : Nat} {vT vO vO' : Value} {W W0 W' : World} (h : RdAt w r0 st L tr fr te B n k vT vO W) (hk0 : Keeps (fun _ => False) W W0)
    (hn : (n : Int) + 1 ≤ te - fr + 1) (hk' : k' ≤ (turnsL L tr).length) (ha : ∀ j x, j < k' → (turnsL L tr)[j]? = some x → x.day ≤ fr + n) (hrate : rateAt r0 st L tr (fr + n) = rrAt r0 (turnsL L tr) k')
    (ho : W'.ownsRow 0 2 1 vO' (n + 1) ((daysL r0 st L tr fr n).flatMap i64c ++ [.int .i64 (rrAt r0 (turnsL L tr) k')])) (hk : Keeps (fun i => vO.ownBlock = some i) W0 W') (hf : vO'.ownBlock = vO.ownBlock ∨ ∃ g, vO'.ownBlock = some g ∧ W0.heap.size ≤ g) : RdAt w r0 st L tr fr te B (n + 1) k' vT vO' W' := by
  have hrow0 := h.row.of_keeps hk0
  have hT0 := h.rowT.of_keeps hk0
  refine ⟨by omega, hk', fun j x hj hx => by have := ha j x hj hx; omega, hk.row hT0 (fun g hg e => rows_ne hT0 hrow0 (by decide) hg e), box_old (box_old h.box hk0 (by simp)) hk (fun e => ownsRow_ne hrow0 (box_old h.box hk0 (by simp)) (by decide) e), ?_, (h.fresh.keep hk0).app hk hf⟩
  rw [daysL_snoc, hrate, List.flatMap_append]
  exact ho
def slotInt (i : Nat) (a' : Act) : Int := match a'.tmps.getD i undef with | .int _ n => n | _ => 0
set_option maxRecDepth 100000 in
set_option maxHeartbeats 1600000 in
theorem rateDays0_any (t : Tm) (adt : Option Addr) (ct : Nat) (L : List Ev) (ad : Option Addr) (cap : Nat) (tr fr te : Int) (w : World) (htr : Reads w 2 (.slice adt t.trs.length ct) t.trs.length (t.trs.flatMap Tn.cells)) (hr : Reads w 5 (.slice ad L.length cap) L.length (L.flatMap Ev.cells)) (hl : L.length ≤ 1000000) (htl : t.trs.length ≤ 1000000)
    (hok : ∀ x ∈ L, dayOk x) (hst : ∀ x ∈ L, t.start ≤ x.day) (ht1 : 1 ≤ tr) (ht2 : tr ≤ t.trs.length) (hf1 : -1000000000 ≤ fr) (hf2 : te ≤ 1000000000) (hf3 : fr ≤ te) (hf4 : te - fr ≤ 40000) :
    Calls Try.prog 52 #[t.val (.slice adt t.trs.length ct), .slice ad L.length cap, .int .i64 tr, .agg #[.int .i64 fr, .int .i64 te]] w fun e w' => ∃ v', e = .returned v' ∧ w'.ownsRow 0 2 1 v' (te - fr + 1).toNat ((daysL (t.rate0 tr) t.start L tr fr (te - fr + 1).toNat).flatMap i64c) ∧ Fresh w w' v' := by
  obtain ⟨i0, hi, hi0, hi1, hi2⟩ := info_parts info_tInt64
  obtain ⟨m, hm⟩ : ∃ m : Nat, (m : Int) = tr - 1 := ⟨(tr - 1).toNat, by omega⟩
  obtain ⟨x, hx⟩ := get_some (L := t.trs) (k := m) (by omega)
  have hr0 : t.rate0 tr = x.rate := by unfold Tm.rate0; rw [show (tr - 1).toNat = m by omega, hx]
  obtain ⟨g, o, c', he, hc⟩ := htr.elem Tn.cells_length hx (by decide)
  simp only [Value.slice.injEq, true_and] at he
  obtain ⟨rfl, rfl⟩ := he
  obtain ⟨r0, xg⟩ := x
  simp only at hr0
  have x0 : w.cell? ⟨g, o + m * 2, none⟩ = some (.int .i64 r0) := hc 0 (by decide)
  have hgl := cell_lt x0
  obtain ⟨nt, hnt⟩ : ∃ n, t.trs.length = n := ⟨_, rfl⟩
  have htn := fun W (hW : Keeps (fun _ => False) w W) => rateTurns_any L ad cap tr W (hr.keeps hW (by simp)) hl hok
  obtain ⟨N, hN⟩ : ∃ N, (te - fr + 1).toNat = N := ⟨_, rfl⟩
  have hNI : (N : Int) = te - fr + 1 := by omega
  rw [hr0, hN]
  obtain ⟨nL, hnL⟩ : ∃ n, L.length = n := ⟨_, rfl⟩
  rw [hnt] at htr ht2 htl ⊢
  rw [hnL] at hr hl htn ⊢
  have p0 : (0 : Int) ≤ tr - 1 := by omega
  have p1 : tr - 1 < (nt : Int) := by omega
  have p2 : (tr - 1).toNat = m := by omega
  have p3 : IntKind.i64.wrap (tr - 1) = tr - 1 := IntWalk.i64_in _ ⟨by omega, by omega⟩
  simp only [Tm.val]
  clear hc
  have Hi := Lib.hid hi; clear hi; have Hi0 := Lib.hid hi0; clear hi0; have Hi1 := Lib.hid hi1; clear hi1; have Hi2 := Lib.hid hi2; clear hi2; have Hr := Lib.hid hr; clear hr; have Htr := Lib.hid htr; clear htr; have Hok := Lib.hid hok; clear hok; have Hst := Lib.hid hst; clear hst; have Hx := Lib.hid hx; clear hx; have Hm := Lib.hid hm; clear hm; have Hr0 := Lib.hid hr0; clear hr0; have Hnt := Lib.hid hnt; clear hnt; have Htn := Lib.hid htn; clear htn; have HN := Lib.hid hN; clear hN; have HnL := Lib.hid hnL; clear hnL
  go_enter Try.func52, Try.ntmps52
  go_wp2_with fail
  refine wp_scope_back 0 (rdJ w r0 t.start L tr fr te (w.heap.size + 1)) (fun a' _ => (te + 1 - slotInt 12 a').toNat) rfl ?_ ?_
  · rintro a' W ⟨n, k, vT, vO, u, rfl, hat⟩
    unfold rdFr
    have hnN := hat.nN
    have hkT := hat.kT
    obtain ⟨nT, hnT⟩ : ∃ n, (turnsL L tr).length = n := ⟨_, rfl⟩
    have hnTl : nT ≤ 1000000 := by
      have h1 : (turnsL L tr).length = (L.filter (rateQ tr)).length := sortL_length _
      have h2 := List.length_filter_le (rateQ tr) L
      have h3 := HnL.out
      omega
    rw [hnT] at hkT
    obtain ⟨adv, cv, hv, _, _⟩ := ownsRow_shape hat.row
    subst hv
    obtain ⟨adT, cT, hvT, _, _⟩ := ownsRow_shape hat.rowT
    subst hvT
    have s0 := cell_of_cells hat.box 0
    have s1 := cell_of_cells hat.box 1
    have sbl := lt_of_block hat.box
    rw [hnT] at hat ⊢
    by_cases hfin : n = N
    · subst hfin
      have hgt : te < fr + (n : Int) := by omega
      have Hat := Lib.hid hat; clear hat; have HnT := Lib.hid hnT; clear hnT
      go_wp2
      refine jump_ret ?_
      go_ret
      exact ⟨_, rfl, Hat.out.row, Hat.out.fresh⟩
    · have hngt : ¬ te < fr + (n : Int) := by omega
      have hah0 := hat.ahead
      have Hat := Lib.hid hat; clear hat; have Hah0 := Lib.hid hah0; clear hah0; have HnT := Lib.hid hnT; clear hnT
      go_wp2_with fail
      go_loopw [10, 11] (fun x y wx => ∃ k : Nat, x = .int .i64 (rrAt r0 (turnsL L tr) k) ∧ y = .int .i64 (k : Nat) ∧ k ≤ nT ∧ (∀ j x, j < k → (turnsL L tr)[j]? = some x → x.day ≤ fr + n) ∧ Keeps (fun _ => False) W wx) (fun _ y _ => nT - (intOf y).toNat)
      case atStart => exact ⟨k, rfl, rfl, hkT, Hah0.out, Keeps.refl _ _⟩
      case round =>
        clear hkT Hah0
        obtain ⟨k, rfl, rfl, hkT, hah, hkk⟩ := hrel
        obtain ⟨wq, hwq⟩ : ∃ x, x = wr := ⟨_, rfl⟩
        subst hwq
        have hbW := box_old Hat.out.box hkk (by simp)
        have s0 := cell_of_cells hbW 0
        have s1 := cell_of_cells hbW 1
        have sbl := lt_of_block hbW
        clear hbW
        by_cases hlt : k < nT
        · obtain ⟨x, hx⟩ := get_some (L := turnsL L tr) (k := k) (by rw [HnT.out]; exact hlt)
          obtain ⟨xk, xd, xt, xa, xf⟩ := x
          have hltI : (k : Int) < (nT : Int) := by omega
          obtain ⟨gT, oT, c', he, hc⟩ := ((Reads.of_owns Hat.out.rowT).keeps hkk (by simp)).elem Ev.cells_length hx (by decide)
          simp only [Value.slice.injEq, true_and] at he
          obtain ⟨rfl, -, rfl⟩ := he
          have x1 : wq.cell? ⟨gT, oT + k * 5 + 1, none⟩ = some (.int .i64 xd) := hc 1 (by decide)
          have x3 : wq.cell? ⟨gT, oT + k * 5 + 3, none⟩ = some (.int .i64 xa) := hc 3 (by decide)
          have hgl := cell_lt x1
          clear hc
          by_cases hd : xd ≤ fr + (n : Int)
          · have hrr := rrAt_succ r0 hx
            have hah2 : ∀ j x, j < k + 1 → (turnsL L tr)[j]? = some x → x.day ≤ fr + n := fun j x hj hx' => by
              rcases Nat.lt_or_ge j k with h | h
              · exact hah j x h hx'
              · obtain rfl : j = k := by omega
                rw [hx] at hx'; cases hx'; exact hd
            have Hah := Lib.hid hah; clear hah; have Hkk := Lib.hid hkk; clear hkk; have Hx := Lib.hid hx; clear hx; have Hrr := Lib.hid hrr; clear hrr; have Hah2 := Lib.hid hah2; clear hah2
            go_wp2
            go_roundw
            case rel => exact ⟨k + 1, by rw [Hrr.out], by go_num, by omega, Hah2.out, Hkk.out⟩
            case measure => simp [intOf]; omega
          · have hstop : ∀ x, (turnsL L tr)[k]? = some x → fr + (n : Int) < x.day := fun y hy => by rw [hx] at hy; cases hy; show fr + (n : Int) < xd; omega
            have Hx := Lib.hid hx; clear hx
            have hrate := rate_walk (r0 := r0) Hst.out hah hstop
            have hw12 : IntKind.i64.wrap (fr + (n : Int) + 1) = fr + (n : Int) + 1 := IntWalk.i64_in _ ⟨by omega, by omega⟩
            have Hrate := Lib.hid hrate; clear hrate; have Hah := Lib.hid hah; clear hah; have Hkk := Lib.hid hkk; clear hkk; have Hstop := Lib.hid hstop; clear hstop
            go_wp2_with (at_builtin; refine wpList_append_row rfl (.tmp 50) (.tmp 52) 54 rfl 0 2 i0 _ 1 8 Try.underlying54 Hi.out Hi0.out Hi1.out Hi2.out rfl (by decide) _ n _ rfl ((Hat.out.row.of_keeps Hkk.out).alloc _) _ 1 _ rfl (Reads.litAt _ _ _ 1 1 _ (by first | rfl | simp) rfl) (by simp [Value.oneCell']) (by unfold maxLen; omega) (by omega) (Nat.zero_le _) ?_; intro v4 w4 hown4 hk4 hf4; have hrd4 := Hat.out.app (k' := k) (Hkk.out.nt (Keeps.alloc _ _)) (by omega) (by rw [HnT.out]; omega) Hah.out Hrate.out hown4 hk4 hf4; obtain ⟨ad4, c4, rfl, _, _⟩ := ownsRow_shape hown4; have Hrd4 := Lib.hid hrd4; clear hown4 hk4 hf4 hrd4)
            go_step3
            go_wp2
            refine jump_goto ⟨rdJ.mk (n + 1) k _ (.slice ad4 (n + 1) c4) (by simp only [rdFr]; rw [show fr + ((n + 1 : Nat) : Int) = fr + (n : Int) + 1 by omega]; rfl) Hrd4.out, ?_⟩
            simp [slotInt, rdFr]; omega
        · have hltI : ¬ (k : Int) < (nT : Int) := by omega
          have hstop : ∀ x, (turnsL L tr)[k]? = some x → fr + (n : Int) < x.day := fun y hy => by rw [List.getElem?_eq_none (by rw [HnT.out]; omega)] at hy; cases hy
          have hrate := rate_walk (r0 := r0) Hst.out hah hstop
          have hw12 : IntKind.i64.wrap (fr + (n : Int) + 1) = fr + (n : Int) + 1 := IntWalk.i64_in _ ⟨by omega, by omega⟩
          have Hrate := Lib.hid hrate; clear hrate; have Hah := Lib.hid hah; clear hah; have Hkk := Lib.hid hkk; clear hkk; have Hstop := Lib.hid hstop; clear hstop
          go_wp2_with (at_builtin; refine wpList_append_row rfl (.tmp 50) (.tmp 52) 54 rfl 0 2 i0 _ 1 8 Try.underlying54 Hi.out Hi0.out Hi1.out Hi2.out rfl (by decide) _ n _ rfl ((Hat.out.row.of_keeps Hkk.out).alloc _) _ 1 _ rfl (Reads.litAt _ _ _ 1 1 _ (by first | rfl | simp) rfl) (by simp [Value.oneCell']) (by unfold maxLen; omega) (by omega) (Nat.zero_le _) ?_; intro v4 w4 hown4 hk4 hf4; have hrd4 := Hat.out.app (k' := k) (Hkk.out.nt (Keeps.alloc _ _)) (by omega) (by rw [HnT.out]; omega) Hah.out Hrate.out hown4 hk4 hf4; obtain ⟨ad4, c4, rfl, _, _⟩ := ownsRow_shape hown4; have Hrd4 := Lib.hid hrd4; clear hown4 hk4 hf4 hrd4)
          go_step3
          go_wp2
          refine jump_goto ⟨rdJ.mk (n + 1) k _ (.slice ad4 (n + 1) c4) (by simp only [rdFr]; rw [show fr + ((n + 1 : Nat) : Int) = fr + (n : Int) + 1 by omega]; rfl) Hrd4.out, ?_⟩
          simp [slotInt, rdFr]; omega
  · intro hfirst
    have Hfirst := Lib.hid hfirst; clear hfirst
    go_wp2_with fail
    refine (Htn.out _ ((Keeps.alloc _ _).nt (Keeps.alloc _ _))).mono ?_
    rintro e w1 ⟨vT, rfl, hrowT, hfrT⟩
    have hk01 : Keeps (fun _ => False) w w1 := ((Keeps.alloc _ _).nt (Keeps.alloc _ _)).nt hfrT.1
    have hbx : w1.heap[w.heap.size + 1]? = some (.cells #[.int .i64 fr, .int .i64 te] 51 (0, 0)) := box_old (halloc_at _ _ (by simp)) hfrT.1 (by simp)
    have s0 := cell_of_cells hbx 0
    have s1 := cell_of_cells hbx 1
    have sbl := lt_of_block hbx
    obtain ⟨adT, cT, hvT, _, _⟩ := ownsRow_shape hrowT
    subst hvT
    have HrowT := Lib.hid hrowT; clear hrowT; have HfrT := Lib.hid hfrT; clear hfrT; have Hk01 := Lib.hid hk01; clear hk01; have Hbx := Lib.hid hbx; clear hbx
    go_wp2
    go_step3
    rename_i hK
    refine hK _ _ ?_
    refine Hfirst.out _ _ ?_
    exact rdJ.mk 0 0 _ (.slice none 0 0) (by simp only [rdFr, rrAt_zero]; simp) ⟨by omega, Nat.zero_le _, fun j x hj => absurd hj (Nat.not_lt_zero _), HrowT.out, Hbx.out, World.ownsRow_nil _ _ _ _, Hk01.out, by simp [Value.ownBlock]⟩
end Go.Proofs.Ytelhlbplbkglkaa
