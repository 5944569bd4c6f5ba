/- The walks of the dated layer: place. -/
import Derived.Test.YtelhlbplbkglkaaDated
import Derived.Test.YtelhlbplbkglkaaKit5
namespace Go.Proofs.Ytelhlbplbkglkaa
open Go.RowKit
def plFr (v : Value) (day : Int) (n : Nat) (u : Nat → Value) : Act := { tmps := #[v, .int .i64 day, u 2, u 3, u 4, .int .i64 n, u 6, u 7, u 8, u 9, u 10, u 11, u 12, u 13, u 14, u 15, u 16, u 17, u 18, u 19, u 20, u 21, u 22], defers := [] }
def plJ (w : World) (v : Value) (day : Int) (L : List Ev) (a' : Act) (W : World) : Prop := ∃ (n : Nat) (u : Nat → Value), a' = plFr v day n u ∧ W = w ∧ n ≤ L.length ∧ placeOf day L L.length = placeOf day L n
theorem plJ.mk {w W : World} {v : Value} {day : Int} {L : List Ev} {a' : Act} (n : Nat) (h : a' = plFr v day n (fun i => a'.tmps.getD i undef)) (hw : W = w) (hn : n ≤ L.length) (hp : placeOf day L L.length = placeOf day L n) : plJ w v day L a' W := ⟨n, _, h, hw, hn, hp⟩
def slotNat (i : Nat) (a' : Act) : Nat := match a'.tmps.getD i undef with | .int _ n => n.toNat | _ => 0
set_option maxRecDepth 100000 in
set_option maxHeartbeats 800000 in
theorem datPlace_any (day : Int) (L : List Ev) (ad : Option Addr) (cap : Nat) (w : World) (hr : Reads w 5 (.slice ad L.length cap) L.length (L.flatMap Ev.cells)) (hl : L.length ≤ 1000000) :
    Calls Try.prog 38 #[.slice ad L.length cap, .int .i64 day] w fun e w' => e = .returned (.int .i64 (placeOf day L L.length : Nat)) ∧ w = w' := by
  obtain ⟨m, hm⟩ : ∃ m, L.length = m := ⟨_, rfl⟩
  obtain ⟨r, hrr⟩ : ∃ r, placeOf day L L.length = r := ⟨_, rfl⟩
  rw [hrr]
  rw [hm] at hr hl hrr ⊢
  have Hr := Lib.hid hr; clear hr; have Hm := Lib.hid hm; clear hm; have Hrr := Lib.hid hrr; clear hrr
  go_enter Try.func38, Try.ntmps38
  go_wp2
  refine wp_scope_back 0 (plJ w (.slice ad m cap) day L) (fun a' _ => slotNat 5 a') rfl ?_ ?_
  · rintro a' W ⟨n, u, rfl, rfl, hn, hp⟩
    unfold plFr
    rw [Hm.out] at hn hp
    rw [Hrr.out] at hp
    rcases n with _ | n
    · have h0 : placeOf day L 0 = 0 := by cases L <;> rfl
      have Hp := Lib.hid hp; clear hp; have H0 := Lib.hid h0; clear h0
      go_wp2
      refine jump_ret ?_
      go_ret
      exact ⟨by rw [Hp.out, H0.out]; rfl, rfl⟩
    · obtain ⟨x, hx⟩ := get_some (L := L) (k := n) (by rw [Hm.out]; omega)
      obtain ⟨xk, xd, xt, xa, xf⟩ := x
      obtain ⟨g, o, c, he, hc⟩ := Hr.out.elem Ev.cells_length hx (by decide)
      simp only [Value.slice.injEq, true_and] at he
      obtain ⟨rfl, rfl⟩ := he
      have x1 : W.cell? ⟨g, o + n * 5 + 1, none⟩ = some (.int .i64 xd) := hc 1 (by decide)
      have hp2 : placeOf day L (n + 1) = if day < xd then placeOf day L n else n + 1 := by simp only [placeOf, hx]
      have q1 : IntKind.i64.wrap (((n + 1 : Nat) : Int) - 1) = (n : Int) := by rw [show ((n + 1 : Nat) : Int) - 1 = (n : Int) by omega]; exact IntWalk.i64_in _ ⟨by omega, by omega⟩
      have q2 : (0 : Int) < ((n + 1 : Nat) : Int) := by omega
      have q3 : (n : Int) < (m : Int) := by omega
      have hgl := cell_lt x1
      clear hc
      by_cases hd : day < xd
      · rw [hp2, if_pos hd] at hp
        have q4 : ((n : Int) + 1) - 1 = n := by omega
        have Hp := Lib.hid hp; clear hp; have Hp2 := Lib.hid hp2; clear hp2; have Hx := Lib.hid hx; clear hx
        go_wp2
        go_step3
        go_wp2
        exact jump_goto ⟨plJ.mk n rfl rfl (by rw [Hm.out]; omega) (by rw [Hm.out, Hrr.out]; exact Hp.out), by simp [slotNat]⟩
      · rw [hp2, if_neg hd] at hp
        have Hp := Lib.hid hp; clear hp; have Hp2 := Lib.hid hp2; clear hp2; have Hx := Lib.hid hx; clear hx
        go_wp2
        refine jump_ret ?_
        go_ret
        exact ⟨by rw [Hp.out]; rfl, rfl⟩
  · intro hfirst
    have Hfirst := Lib.hid hfirst; clear hfirst
    go_wp2
    go_step3
    rename_i hK
    refine hK _ _ ?_
    refine Hfirst.out _ _ ?_
    exact plJ.mk m rfl rfl (by rw [Hm.out]; exact Nat.le_refl _) (by rw [Hm.out])
end Go.Proofs.Ytelhlbplbkglkaa
