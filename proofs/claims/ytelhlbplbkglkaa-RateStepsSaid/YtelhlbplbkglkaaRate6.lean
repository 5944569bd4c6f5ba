/- The document's On and Days. -/
import Derived.Test.YtelhlbplbkglkaaRate5
namespace Go.Proofs.Ytelhlbplbkglkaa
open Go.RowKit
section
variable {t : Tm} {L : List Ev} {tr fr te : Int}
theorem daysErr_r (h : rightErr t L ≠ 0) : daysErr t L tr fr te = rightErr t L := by unfold daysErr trErr; rw [if_neg h, if_neg h]
theorem daysErr_t (h : rightErr t L = 0) (h2 : tr < 1 ∨ (t.trs.length : Int) < tr) : daysErr t L tr fr te = 7 := by unfold daysErr trErr; rw [if_pos h, if_pos h2, if_neg (by decide)]
theorem trErr_0 (h : rightErr t L = 0) (h2 : ¬ (tr < 1 ∨ (t.trs.length : Int) < tr)) : trErr t L tr = 0 := by unfold trErr; rw [if_pos h, if_neg h2]
theorem daysErr_d (h : trErr t L tr = 0) (h2 : fr < t.start ∨ 2932896 < fr ∨ te < t.start ∨ 2932896 < te) : daysErr t L tr fr te = 10 := by unfold daysErr; rw [if_pos h, if_pos h2]
theorem daysErr_a (h : trErr t L tr = 0) (h2 : ¬ (fr < t.start ∨ 2932896 < fr ∨ te < t.start ∨ 2932896 < te)) (h3 : te < fr ∨ 40000 ≤ te - fr) : daysErr t L tr fr te = 1 := by unfold daysErr; rw [if_pos h, if_neg h2, if_pos h3]
theorem daysErr_0 (h : trErr t L tr = 0) (h2 : ¬ (fr < t.start ∨ 2932896 < fr ∨ te < t.start ∨ 2932896 < te)) (h3 : ¬ (te < fr ∨ 40000 ≤ te - fr)) : daysErr t L tr fr te = 0 := by unfold daysErr; rw [if_pos h, if_neg h2, if_neg h3]
end
set_option maxRecDepth 100000 in
set_option maxHeartbeats 1600000 in
theorem rrateOn_any (t : Tm) (adt : Option Addr) (ct : Nat) (L : List Ev) (ad : Option Addr) (cap : Nat) (tr d : Int) (w : World) (htr : Reads w 2 (.slice adt t.trs.length ct) t.trs.length (t.trs.flatMap Tn.cells)) (hr : Reads w 5 (.slice ad L.length cap) L.length (L.flatMap Ev.cells)) (hl : L.length ≤ 1000000) (htl : t.trs.length ≤ 1000000) :
    Calls Try.prog 30 #[t.val (.slice adt t.trs.length ct), .slice ad L.length cap, .int .i64 tr, .int .i64 d] w fun e w' => e = .returned (.tuple #[.int .i64 (onVal t L tr d), .int .i64 (daysErr t L tr d d)]) ∧ Keeps (fun _ => False) w w' := by
  have hri := fun W (hW : Keeps (fun _ => False) w W) => rrateRight_any t adt ct L ad cap W (htr.keeps hW (by simp)) (hr.keeps hW (by simp)) hl htl
  have hone := fun W (hW : Keeps (fun _ => False) w W) h1 h2 => rrateOne_any t adt ct L ad cap tr d W (htr.keeps hW (by simp)) (hr.keeps hW (by simp)) hl htl h1 h2
  have htb : ∀ W, Keeps (fun _ => False) (w.alloc (.cells #[.int .i64 t.limit, .slice adt t.trs.length ct, .int .i64 t.cyc, .int .i64 t.due, .int .i64 t.minFixed, .int .i64 t.minPart, .int .i64 t.start] 27)) W → tbS w.heap.size t (.slice adt t.trs.length ct) W := fun W hW => tbS.of (box_old (heap_alloc_new w _) hW (by simp))
  have hov : onVal t L tr d = if daysErr t L tr d d = 0 then rateAt (t.rate0 tr) t.start L tr d else 0 := rfl
  have er := daysErr_r (t := t) (L := L) (tr := tr) (fr := d) (te := d)
  have et := daysErr_t (t := t) (L := L) (tr := tr) (fr := d) (te := d)
  have e0 := trErr_0 (t := t) (L := L) (tr := tr)
  have ed := daysErr_d (t := t) (L := L) (tr := tr) (fr := d) (te := d)
  have ez := daysErr_0 (t := t) (L := L) (tr := tr) (fr := d) (te := d)
  obtain ⟨y, hy⟩ : ∃ y, rightErr t L = y := ⟨_, rfl⟩
  obtain ⟨z, hz⟩ : ∃ z, daysErr t L tr d d = z := ⟨_, rfl⟩
  obtain ⟨v, hv⟩ : ∃ v, onVal t L tr d = v := ⟨_, rfl⟩
  obtain ⟨nt, hnt⟩ : ∃ n, t.trs.length = n := ⟨_, rfl⟩
  obtain ⟨n, hn⟩ : ∃ n, L.length = n := ⟨_, rfl⟩
  rw [hv, hz] at hov
  rw [hv, hz]
  rw [hy] at hri er et e0
  rw [hz] at er et ed ez
  rw [hnt] at htr hri hone htb htl et e0 ⊢
  rw [hn] at hr hri hone hl ⊢
  simp only [Tm.val] at hri hone ⊢
  by_cases hy0 : y = 0
  · subst hy0
    by_cases ht : tr < 1 ∨ (nt : Int) < tr
    · obtain rfl := et rfl ht
      rw [if_neg (by decide)] at hov
      subst hov
      have Htr := Lib.hid htr; clear htr; have Hr := Lib.hid hr; clear hr; have Hri := Lib.hid hri; clear hri; have Hone := Lib.hid hone; clear hone; have Htb := Lib.hid htb; clear htb; have Hy := Lib.hid hy; clear hy; have Hz := Lib.hid hz; clear hz; have Hv := Lib.hid hv; clear hv; have Hnt := Lib.hid hnt; clear hnt; have Hn := Lib.hid hn; clear hn; have Er := Lib.hid er; clear er; have Et := Lib.hid et; clear et; have E0 := Lib.hid e0; clear e0; have Ed := Lib.hid ed; clear ed; have Ez := Lib.hid ez; clear ez
      go_enter Try.func30, Try.ntmps30
      go_wp2_with (go_at_call 49; (refine (Hri.out _ (Keeps.alloc _ _)).mono ?_); rintro e w1 ⟨rfl, hk1⟩; have Hk1 := Lib.hid hk1; clear hk1; refine haltR ?_)
      refine Lib.hid ?_
      obtain ⟨b0, b1, b2, b3, b4, b5, b6⟩ := Htb.out _ Hk1.out
      have bbl := cell_lt b0
      have hkw := (Keeps.alloc w _).nt Hk1.out
      have Hkw := Lib.hid hkw; clear hkw
      go_wp2_with fail
      all_goals first
        | (exfalso; omega)
        | exact bodyPost_ret (v := .tuple #[.int .i64 0, .int .i64 7]) (by simp [results, Try.results30, go_sem]) rfl ⟨rfl, Hkw.out⟩
    · have q1 : ¬ tr < 1 := by omega
      have q2 : ¬ (nt : Int) < tr := by omega
      have e1 := e0 rfl ht
      by_cases hd : d < t.start ∨ 2932896 < d
      · obtain rfl := ed e1 (by omega)
        rw [if_neg (by decide)] at hov
        subst hov
        clear ht
        have Htr := Lib.hid htr; clear htr; have Hr := Lib.hid hr; clear hr; have Hri := Lib.hid hri; clear hri; have Hone := Lib.hid hone; clear hone; have Htb := Lib.hid htb; clear htb; have Hy := Lib.hid hy; clear hy; have Hz := Lib.hid hz; clear hz; have Hv := Lib.hid hv; clear hv; have Hnt := Lib.hid hnt; clear hnt; have Hn := Lib.hid hn; clear hn; have Er := Lib.hid er; clear er; have Et := Lib.hid et; clear et; have E0 := Lib.hid e0; clear e0; have Ed := Lib.hid ed; clear ed; have Ez := Lib.hid ez; clear ez; have E1 := Lib.hid e1; clear e1
        go_enter Try.func30, Try.ntmps30
        go_wp2_with (go_at_call 49; (refine (Hri.out _ (Keeps.alloc _ _)).mono ?_); rintro e w1 ⟨rfl, hk1⟩; have Hk1 := Lib.hid hk1; clear hk1; refine haltR ?_)
        refine Lib.hid ?_
        obtain ⟨b0, b1, b2, b3, b4, b5, b6⟩ := Htb.out _ Hk1.out
        have bbl := cell_lt b0
        have hkw := (Keeps.alloc w _).nt Hk1.out
        have Hkw := Lib.hid hkw; clear hkw
        go_wp2_with fail
        all_goals first
          | (exfalso; omega)
          | exact bodyPost_ret (v := .tuple #[.int .i64 0, .int .i64 10]) (by simp [results, Try.results30, go_sem]) rfl ⟨rfl, Hkw.out⟩
      · have q3 : ¬ d < t.start := by omega
        have q4 : ¬ 2932896 < d := by omega
        obtain rfl := ez e1 (by omega) (by omega)
        rw [if_pos rfl] at hov
        have hcall := fun W hW => hone W hW (by omega) (by omega)
        rw [← hov] at hcall
        clear ht hd hone
        have Htr := Lib.hid htr; clear htr; have Hr := Lib.hid hr; clear hr; have Hri := Lib.hid hri; clear hri; have Htb := Lib.hid htb; clear htb; have Hy := Lib.hid hy; clear hy; have Hz := Lib.hid hz; clear hz; have Hv := Lib.hid hv; clear hv; have Hnt := Lib.hid hnt; clear hnt; have Hn := Lib.hid hn; clear hn; have Er := Lib.hid er; clear er; have Et := Lib.hid et; clear et; have E0 := Lib.hid e0; clear e0; have Ed := Lib.hid ed; clear ed; have Ez := Lib.hid ez; clear ez; have E1 := Lib.hid e1; clear e1; have Hov := Lib.hid hov; clear hov; have Hcall := Lib.hid hcall; clear hcall
        go_enter Try.func30, Try.ntmps30
        go_wp2_with (go_at_call 49; (refine (Hri.out _ (Keeps.alloc _ _)).mono ?_); rintro e w1 ⟨rfl, hk1⟩; have Hk1 := Lib.hid hk1; clear hk1; refine haltR ?_)
        refine Lib.hid ?_
        obtain ⟨b0, b1, b2, b3, b4, b5, b6⟩ := Htb.out _ Hk1.out
        have bbl := cell_lt b0
        have hkw := (Keeps.alloc w _).nt Hk1.out
        have Hkw := Lib.hid hkw; clear hkw
        go_wp2_with fail
        refine (Hcall.out _ Hkw.out).mono ?_
        rintro e w2 ⟨rfl, hk2⟩
        have Hk2 := Lib.hid (Hkw.out.nt hk2); clear hk2
        go_wp2_with fail
        exact bodyPost_ret (v := .tuple #[.int .i64 v, .int .i64 0]) (by simp [results, Try.results30, go_sem]) rfl ⟨rfl, Hk2.out⟩
  · obtain rfl := er hy0
    rw [if_neg hy0] at hov
    subst hov
    have hyI : (z != 0) = true := by simp [hy0]
    have Htr := Lib.hid htr; clear htr; have Hr := Lib.hid hr; clear hr; have Hri := Lib.hid hri; clear hri; have Hone := Lib.hid hone; clear hone; have Htb := Lib.hid htb; clear htb; have Hy := Lib.hid hy; clear hy; have Hz := Lib.hid hz; clear hz; have Hv := Lib.hid hv; clear hv; have Hnt := Lib.hid hnt; clear hnt; have Hn := Lib.hid hn; clear hn; have Er := Lib.hid er; clear er; have Et := Lib.hid et; clear et; have E0 := Lib.hid e0; clear e0; have Ed := Lib.hid ed; clear ed; have Ez := Lib.hid ez; clear ez
    go_enter Try.func30, Try.ntmps30
    go_wp2_with (go_at_call 49; (refine (Hri.out _ (Keeps.alloc _ _)).mono ?_); rintro e w1 ⟨rfl, hk1⟩; have Hk1 := Lib.hid hk1; clear hk1; refine haltR ?_)
    refine Lib.hid ?_
    have hkw := (Keeps.alloc w _).nt Hk1.out
    have Hkw := Lib.hid hkw; clear hkw
    go_wp2_with fail
    exact bodyPost_ret (v := .tuple #[.int .i64 0, .int .i64 z]) (by simp [results, Try.results30, go_sem]) rfl ⟨rfl, Hkw.out⟩
end Go.Proofs.Ytelhlbplbkglkaa
