/- The document's Days. -/
import Derived.Test.YtelhlbplbkglkaaRate6
namespace Go.Proofs.Ytelhlbplbkglkaa
open Go.RowKit
theorem Fresh.up7 {w w' : World} {o : Obj} {v : Value} (h : Fresh (w.alloc o) w' v) : Fresh w w' v := ⟨(Keeps.alloc w o).nt h.1, fun g hg => by have := h.2 g hg; simp at this; omega⟩
set_option maxRecDepth 100000 in
set_option maxHeartbeats 3200000 in
theorem rrateDays_any (t : Tm) (adt : Option Addr) (ct : Nat) (L : List Ev) (ad : Option Addr) (cap : Nat) (tr fr te : Int) (w : World) (htr : Reads w 2 (.slice adt t.trs.length ct) t.trs.length (t.trs.flatMap Tn.cells)) (hr : Reads w 5 (.slice ad L.length cap) L.length (L.flatMap Ev.cells)) (hl : L.length ≤ 1000000) (htl : t.trs.length ≤ 1000000) :
    Calls Try.prog 32 #[t.val (.slice adt t.trs.length ct), .slice ad L.length cap, .int .i64 tr, .agg #[.int .i64 fr, .int .i64 te]] w fun e w' => ∃ v', e = .returned (.tuple #[v', .int .i64 (daysErr t L tr fr te)]) ∧ w'.ownsRow 0 2 1 v' (daysOf t L tr fr te).length ((daysOf t L tr fr te).flatMap i64c) ∧ Fresh w w' v' := by
  obtain ⟨i0, hi, hi0, hi1, hi2⟩ := info_parts info_tInt64
  have hri := fun W (hW : Keeps (fun _ => False) w W) => rrateRight_any t adt ct L ad cap W (htr.keeps hW (by simp)) (hr.keeps hW (by simp)) hl htl
  have hone := fun d W (hW : Keeps (fun _ => False) w W) h1 h2 => rrateOne_any t adt ct L ad cap tr d W (htr.keeps hW (by simp)) (hr.keeps hW (by simp)) hl htl h1 h2
  have htb : ∀ W, Keeps (fun _ => False) (w.alloc (.cells #[.int .i64 t.limit, .slice adt t.trs.length ct, .int .i64 t.cyc, .int .i64 t.due, .int .i64 t.minFixed, .int .i64 t.minPart, .int .i64 t.start] 27)) W → tbS w.heap.size t (.slice adt t.trs.length ct) W := fun W hW => tbS.of (box_old (heap_alloc_new w _) hW (by simp))
  have hsp : ∀ W, Keeps (fun _ => False) ((w.alloc (.cells #[.int .i64 t.limit, .slice adt t.trs.length ct, .int .i64 t.cyc, .int .i64 t.due, .int .i64 t.minFixed, .int .i64 t.minPart, .int .i64 t.start] 27)).alloc (.cells #[.int .i64 fr, .int .i64 te] 51)) W → W.heap[w.heap.size + 1]? = some (.cells #[.int .i64 fr, .int .i64 te] 51 (0, 0)) := fun W hW => box_old (halloc_at _ _ (by simp)) hW (by simp)
  have hnil : ∀ W, Keeps (fun _ => False) w W → daysErr t L tr fr te ≠ 0 → W.ownsRow 0 2 1 (.slice none 0 0) (daysOf t L tr fr te).length ((daysOf t L tr fr te).flatMap i64c) ∧ Fresh w W (.slice none 0 0) := fun W hW hne => by
    unfold daysOf
    rw [if_neg hne]
    exact ⟨World.ownsRow_nil _ _ _ _, hW, by simp [Value.ownBlock]⟩
  have er := daysErr_r (t := t) (L := L) (tr := tr) (fr := fr) (te := te)
  have et := daysErr_t (t := t) (L := L) (tr := tr) (fr := fr) (te := te)
  have e0 := trErr_0 (t := t) (L := L) (tr := tr)
  have ed := daysErr_d (t := t) (L := L) (tr := tr) (fr := fr) (te := te)
  have ea := daysErr_a (t := t) (L := L) (tr := tr) (fr := fr) (te := te)
  have ez := daysErr_0 (t := t) (L := L) (tr := tr) (fr := fr) (te := te)
  obtain ⟨y, hy⟩ : ∃ y, rightErr t L = y := ⟨_, rfl⟩
  obtain ⟨z, hz⟩ : ∃ z, daysErr t L tr fr te = z := ⟨_, rfl⟩
  obtain ⟨nt, hnt⟩ : ∃ n, t.trs.length = n := ⟨_, rfl⟩
  obtain ⟨n, hn⟩ : ∃ n, L.length = n := ⟨_, rfl⟩
  rw [hz] at hnil ⊢
  rw [hy] at hri er et e0
  rw [hz] at er et ed ea ez
  rw [hnt] at htr hri hone htb hsp htl et e0 ⊢
  rw [hn] at hr hri hone hl ⊢
  simp only [Tm.val] at hri hone ⊢
  by_cases hy0 : y = 0
  · subst hy0
    by_cases ht : tr < 1 ∨ (nt : Int) < tr
    · obtain rfl := et rfl ht
      have Htr := Lib.hid htr; clear htr; have Hr := Lib.hid hr; clear hr; have Hri := Lib.hid hri; clear hri; have Hone := Lib.hid hone; clear hone; have Htb := Lib.hid htb; clear htb; have Hsp := Lib.hid hsp; clear hsp; have Hnil := Lib.hid hnil; clear hnil; have Hy := Lib.hid hy; clear hy; have Hz := Lib.hid hz; clear hz; have Hnt := Lib.hid hnt; clear hnt; have Hn := Lib.hid hn; clear hn; have Er := Lib.hid er; clear er; have Et := Lib.hid et; clear et; have E0 := Lib.hid e0; clear e0; have Ed := Lib.hid ed; clear ed; have Ea := Lib.hid ea; clear ea; have Ez := Lib.hid ez; clear ez
      go_enter Try.func32, Try.ntmps32
      go_wp2_with (go_at_call 49; (refine (Hri.out _ ((Keeps.alloc _ _).nt (Keeps.alloc _ _))).mono ?_); rintro e w1 ⟨rfl, hk1⟩; have Hk1 := Lib.hid hk1; clear hk1; refine haltR ?_)
      refine Lib.hid ?_
      obtain ⟨b0, b1, b2, b3, b4, b5, b6⟩ := Htb.out _ ((Keeps.alloc _ _).nt Hk1.out)
      have bbl := cell_lt b0
      have sp := Hsp.out _ Hk1.out
      have s0 := cell_of_cells sp 0
      have s1 := cell_of_cells sp 1
      have sbl := lt_of_block sp
      clear sp
      have hkw := ((Keeps.alloc w _).nt (Keeps.alloc _ _)).nt Hk1.out
      have Hkw := Lib.hid hkw; clear hkw
      go_wp2_with fail
      all_goals first
        | (exfalso; omega)
        | exact bodyPost_ret (v := .tuple #[.slice none 0 0, .int .i64 7]) (by simp [results, Try.results32, go_sem]) rfl ⟨_, rfl, Hnil.out _ Hkw.out (by decide)⟩
    · have q1 : ¬ tr < 1 := by omega
      have q2 : ¬ (nt : Int) < tr := by omega
      have e1 := e0 rfl ht
      clear ht
      by_cases hd : fr < t.start ∨ 2932896 < fr ∨ te < t.start ∨ 2932896 < te
      · obtain rfl := ed e1 hd
        have Htr := Lib.hid htr; clear htr; have Hr := Lib.hid hr; clear hr; have Hri := Lib.hid hri; clear hri; have Hone := Lib.hid hone; clear hone; have Htb := Lib.hid htb; clear htb; have Hsp := Lib.hid hsp; clear hsp; have Hnil := Lib.hid hnil; clear hnil; have Hy := Lib.hid hy; clear hy; have Hz := Lib.hid hz; clear hz; have Hnt := Lib.hid hnt; clear hnt; have Hn := Lib.hid hn; clear hn; have Er := Lib.hid er; clear er; have Et := Lib.hid et; clear et; have E0 := Lib.hid e0; clear e0; have Ed := Lib.hid ed; clear ed; have Ea := Lib.hid ea; clear ea; have Ez := Lib.hid ez; clear ez; have E1 := Lib.hid e1; clear e1
        go_enter Try.func32, Try.ntmps32
        go_wp2_with (go_at_call 49; (refine (Hri.out _ ((Keeps.alloc _ _).nt (Keeps.alloc _ _))).mono ?_); rintro e w1 ⟨rfl, hk1⟩; have Hk1 := Lib.hid hk1; clear hk1; refine haltR ?_)
        refine Lib.hid ?_
        obtain ⟨b0, b1, b2, b3, b4, b5, b6⟩ := Htb.out _ ((Keeps.alloc _ _).nt Hk1.out)
        have bbl := cell_lt b0
        have sp := Hsp.out _ Hk1.out
        have s0 := cell_of_cells sp 0
        have s1 := cell_of_cells sp 1
        have sbl := lt_of_block sp
        clear sp
        have hkw := ((Keeps.alloc w _).nt (Keeps.alloc _ _)).nt Hk1.out
        have Hkw := Lib.hid hkw; clear hkw
        go_wp2_with fail
        all_goals first
          | (exfalso; omega)
          | exact bodyPost_ret (v := .tuple #[.slice none 0 0, .int .i64 10]) (by simp [results, Try.results32, go_sem]) rfl ⟨_, rfl, Hnil.out _ Hkw.out (by decide)⟩
      · have o5 := Tm.ok_start (trErr_ok e1).1
        have r1 : ¬ fr < t.start := by omega
        have r2 : ¬ te < t.start := by omega
        have r3 : ¬ 2932896 < fr := by omega
        have r4 : ¬ 2932896 < te := by omega
        have hw : IntKind.i64.wrap (te - fr) = te - fr := IntWalk.i64_in _ ⟨by omega, by omega⟩
        by_cases hc2 : te < fr ∨ 40000 ≤ te - fr
        · obtain rfl := ea e1 hd hc2
          clear hd
          have Htr := Lib.hid htr; clear htr; have Hr := Lib.hid hr; clear hr; have Hri := Lib.hid hri; clear hri; have Hone := Lib.hid hone; clear hone; have Htb := Lib.hid htb; clear htb; have Hsp := Lib.hid hsp; clear hsp; have Hnil := Lib.hid hnil; clear hnil; have Hy := Lib.hid hy; clear hy; have Hz := Lib.hid hz; clear hz; have Hnt := Lib.hid hnt; clear hnt; have Hn := Lib.hid hn; clear hn; have Er := Lib.hid er; clear er; have Et := Lib.hid et; clear et; have E0 := Lib.hid e0; clear e0; have Ed := Lib.hid ed; clear ed; have Ea := Lib.hid ea; clear ea; have Ez := Lib.hid ez; clear ez; have E1 := Lib.hid e1; clear e1; have O5 := Lib.hid o5; clear o5
          go_enter Try.func32, Try.ntmps32
          go_wp2_with (go_at_call 49; (refine (Hri.out _ ((Keeps.alloc _ _).nt (Keeps.alloc _ _))).mono ?_); rintro e w1 ⟨rfl, hk1⟩; have Hk1 := Lib.hid hk1; clear hk1; refine haltR ?_)
          refine Lib.hid ?_
          obtain ⟨b0, b1, b2, b3, b4, b5, b6⟩ := Htb.out _ ((Keeps.alloc _ _).nt Hk1.out)
          have bbl := cell_lt b0
          have sp := Hsp.out _ Hk1.out
          have s0 := cell_of_cells sp 0
          have s1 := cell_of_cells sp 1
          have sbl := lt_of_block sp
          clear sp
          have hkw := ((Keeps.alloc w _).nt (Keeps.alloc _ _)).nt Hk1.out
          have Hkw := Lib.hid hkw; clear hkw
          go_wp2_with fail
          all_goals first
            | (exfalso; omega)
            | exact bodyPost_ret (v := .tuple #[.slice none 0 0, .int .i64 1]) (by simp [results, Try.results32, go_sem]) rfl ⟨_, rfl, Hnil.out _ Hkw.out (by decide)⟩
        · obtain rfl := ez e1 hd hc2
          have r5 : ¬ te < fr := by omega
          have r6 : ¬ 40000 ≤ te - fr := by omega
          have hcall := fun d W hW => hone d W hW (by omega) (by omega)
          obtain ⟨r0, hr0⟩ : ∃ r0, t.rate0 tr = r0 := ⟨_, rfl⟩
          rw [hr0] at hcall
          have hb1 : -1000000000 ≤ fr := by omega
          have hb2 : te ≤ 1000000000 := by omega
          clear hc2 hd hone
          have Htr := Lib.hid htr; clear htr; have Hr := Lib.hid hr; clear hr; have Hri := Lib.hid hri; clear hri; have Htb := Lib.hid htb; clear htb; have Hsp := Lib.hid hsp; clear hsp; have Hnil := Lib.hid hnil; clear hnil; have Hy := Lib.hid hy; clear hy; have Hz := Lib.hid hz; clear hz; have Hnt := Lib.hid hnt; clear hnt; have Hn := Lib.hid hn; clear hn; have Er := Lib.hid er; clear er; have Et := Lib.hid et; clear et; have E0 := Lib.hid e0; clear e0; have Ed := Lib.hid ed; clear ed; have Ea := Lib.hid ea; clear ea; have Ez := Lib.hid ez; clear ez; have E1 := Lib.hid e1; clear e1; have O5 := Lib.hid o5; clear o5; have Hcall := Lib.hid hcall; clear hcall; have Hr0 := Lib.hid hr0; clear hr0; have Hi := Lib.hid hi; clear hi; have Hi0 := Lib.hid hi0; clear hi0; have Hi1 := Lib.hid hi1; clear hi1; have Hi2 := Lib.hid hi2; clear hi2
          go_enter Try.func32, Try.ntmps32
          go_wp2_with (go_at_call 49; (refine (Hri.out _ ((Keeps.alloc _ _).nt (Keeps.alloc _ _))).mono ?_); rintro e w1 ⟨rfl, hk1⟩; have Hk1 := Lib.hid hk1; clear hk1; refine haltR ?_)
          refine Lib.hid ?_
          obtain ⟨b0, b1, b2, b3, b4, b5, b6⟩ := Htb.out _ ((Keeps.alloc _ _).nt Hk1.out)
          have bbl := cell_lt b0
          have sp := Hsp.out _ Hk1.out
          have s0 := cell_of_cells sp 0
          have s1 := cell_of_cells sp 1
          have sbl := lt_of_block sp
          clear sp
          have hkw := ((Keeps.alloc w _).nt (Keeps.alloc _ _)).nt Hk1.out
          have Hkw := Lib.hid hkw; clear hkw
          go_wp2_with fail
          go_loopw [11, 12] (fun x y wx => ∃ k : Nat, y = .int .i64 (fr + (k : Int)) ∧ (k : Int) ≤ te - fr + 1 ∧ wx.ownsRow 0 2 1 x k ((daysL r0 t.start L tr fr k).flatMap i64c) ∧ Fresh ((w.alloc (.cells #[.int .i64 t.limit, .slice adt nt ct, .int .i64 t.cyc, .int .i64 t.due, .int .i64 t.minFixed, .int .i64 t.minPart, .int .i64 t.start] 27)).alloc (.cells #[.int .i64 fr, .int .i64 te] 51)) wx x) (fun _ y _ => (te + 1 - intOf y).toNat)
          case atStart => exact ⟨0, by simp, by omega, World.ownsRow_nil _ _ _ _, Hk1.out, by simp [Value.ownBlock]⟩
          case round =>
            obtain ⟨k, rfl, hkN, hrow, hfr⟩ := hrel
            clear b0 b1 b2 b3 b4 b5 b6 bbl s0 s1 sbl
            obtain ⟨b0, b1, b2, b3, b4, b5, b6⟩ := Htb.out _ ((Keeps.alloc _ _).nt hfr.1)
            have bbl := cell_lt b0
            have sp := Hsp.out _ hfr.1
            have s0 := cell_of_cells sp 0
            have s1 := cell_of_cells sp 1
            have sbl := lt_of_block sp
            clear sp
            obtain ⟨adv, cv, hv, _, _⟩ := ownsRow_shape hrow
            subst hv
            have hkw2 := ((Keeps.alloc w _).nt (Keeps.alloc _ _)).nt hfr.1
            by_cases hlt : fr + (k : Int) ≤ te
            · have hsn := daysL_snoc r0 t.start L tr fr k
              obtain ⟨q, hq⟩ : ∃ q, rateAt r0 t.start L tr (fr + (k : Int)) = q := ⟨_, rfl⟩
              have hc := Hcall.out (fr + (k : Int))
              rw [hq] at hsn hc
              have hw12 : IntKind.i64.wrap (fr + (k : Int) + 1) = fr + (k : Int) + 1 := IntWalk.i64_in _ ⟨by omega, by omega⟩
              have Hrow := Lib.hid hrow; clear hrow; have Hfr := Lib.hid hfr; clear hfr; have Hkw2 := Lib.hid hkw2; clear hkw2; have Hsn := Lib.hid hsn; clear hsn; have Hc := Lib.hid hc; clear hc; have Hq := Lib.hid hq; clear hq
              go_wp2_with (go_at_call 50; (refine (Hc.out _ Hkw2.out).mono ?_); rintro e w2 ⟨rfl, hk2⟩; have Hk2 := Lib.hid hk2; clear hk2; refine haltR ?_)
              refine Lib.hid ?_
              go_wp2_with (at_builtin; refine wpList_append_row rfl (.tmp 71) (.tmp 77) 54 rfl 0 2 i0 _ 1 8 Try.underlying54 Hi.out Hi0.out Hi1.out Hi2.out rfl (by decide) _ k _ rfl ((Hrow.out.of_keeps Hk2.out).alloc _) _ 1 _ rfl (Reads.litAt _ _ _ 1 1 _ (by first | rfl | simp) rfl) (by simp [Value.oneCell']) (by unfold maxLen; omega) (by omega) (Nat.zero_le _) ?_; intro v4 w4 hown4 hk4 hf4; refine haltR ?_)
              refine Lib.hid ?_
              have hfr4 := ((Hfr.out.keep Hk2.out).keep (Keeps.alloc _ _)).app hk4 hf4
              have hrow4 : w4.ownsRow 0 2 1 v4 (k + 1) ((daysL r0 t.start L tr fr (k + 1)).flatMap i64c) := by (rw [Hsn.out, List.flatMap_append]; exact hown4)
              obtain ⟨ad4, c4, rfl, _, _⟩ := ownsRow_shape hown4
              have Hrow4 := Lib.hid hrow4
              have Hfr4 := Lib.hid hfr4
              clear hown4 hk4 hf4 hfr4 hrow4
              go_wp2
              go_roundw
              case rel => exact ⟨k + 1, by go_num, by omega, Hrow4.out, Hfr4.out⟩
              case measure => simp [intOf]; omega
            · have hkk : (te - fr + 1).toNat = k := by omega
              have hpost : wr.ownsRow 0 2 1 (.slice adv k cv) (daysOf t L tr fr te).length ((daysOf t L tr fr te).flatMap i64c) ∧ Fresh w wr (.slice adv k cv) := by
                unfold daysOf
                rw [if_pos Hz.out, daysL_length, hkk, Hr0.out]
                exact ⟨hrow, hfr.up7.up7⟩
              have Hrow := Lib.hid hrow; clear hrow; have Hfr := Lib.hid hfr; clear hfr; have Hkw2 := Lib.hid hkw2; clear hkw2; have Hpost := Lib.hid hpost; clear hpost
              go_wp2_with fail
              exact bodyPost_ret (v := .tuple #[.slice adv k cv, .int .i64 0]) (by simp [results, Try.results32, go_sem]) rfl ⟨_, rfl, Hpost.out⟩
  · obtain rfl := er hy0
    have hyI : (z != 0) = true := by simp [hy0]
    have Htr := Lib.hid htr; clear htr; have Hr := Lib.hid hr; clear hr; have Hri := Lib.hid hri; clear hri; have Hone := Lib.hid hone; clear hone; have Htb := Lib.hid htb; clear htb; have Hsp := Lib.hid hsp; clear hsp; have Hnil := Lib.hid hnil; clear hnil; have Hy := Lib.hid hy; clear hy; have Hz := Lib.hid hz; clear hz; have Hnt := Lib.hid hnt; clear hnt; have Hn := Lib.hid hn; clear hn; have Er := Lib.hid er; clear er; have Et := Lib.hid et; clear et; have E0 := Lib.hid e0; clear e0; have Ed := Lib.hid ed; clear ed; have Ea := Lib.hid ea; clear ea; have Ez := Lib.hid ez; clear ez
    go_enter Try.func32, Try.ntmps32
    go_wp2_with (go_at_call 49; (refine (Hri.out _ ((Keeps.alloc _ _).nt (Keeps.alloc _ _))).mono ?_); rintro e w1 ⟨rfl, hk1⟩; have Hk1 := Lib.hid hk1; clear hk1; refine haltR ?_)
    refine Lib.hid ?_
    obtain ⟨b0, b1, b2, b3, b4, b5, b6⟩ := Htb.out _ ((Keeps.alloc _ _).nt Hk1.out)
    have bbl := cell_lt b0
    have sp := Hsp.out _ Hk1.out
    have s0 := cell_of_cells sp 0
    have s1 := cell_of_cells sp 1
    have sbl := lt_of_block sp
    clear sp
    have hkw := ((Keeps.alloc w _).nt (Keeps.alloc _ _)).nt Hk1.out
    have Hkw := Lib.hid hkw; clear hkw
    go_wp2_with fail
    exact bodyPost_ret (v := .tuple #[.slice none 0 0, .int .i64 z]) (by simp [results, Try.results32, go_sem]) rfl ⟨_, rfl, Hnil.out _ Hkw.out hy0⟩
end Go.Proofs.Ytelhlbplbkglkaa
