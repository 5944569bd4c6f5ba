/- The rate laws: their terms; awake; lists of numbers held against each other. -/
import Derived.Test.YtelhlbplbkglkaaRate7
namespace Go.Proofs.Ytelhlbplbkglkaa
open Go.RowKit
set_option maxRecDepth 100000 in
set_option maxHeartbeats 400000 in
theorem plainI641_same (a : Int) (w : World) : Calls Try.prog 54 #[.int .i64 a, .int .i64 a] w
    fun e w' => e = .returned (.bool true) ∧ w = w' := by
  go_enter Try.func54, Try.ntmps54
  go_wp2
  go_ret
  exact ⟨rfl, rfl⟩
set_option maxRecDepth 100000 in
set_option maxHeartbeats 400000 in
theorem sameI64_same (L : List Int) (v1 v2 : Value) (w : World) (h1 : Reads w 1 v1 L.length (L.flatMap i64c)) (h2 : Reads w 1 v2 L.length (L.flatMap i64c)) (hl : L.length ≤ 1000000000000) :
    Calls Try.prog 53 #[v1, v2, .func (.func 54) #[] #[]] w fun e w' => e = .returned (.bool true) ∧ Keeps (fun _ => False) w w' := by
  have g1 := h1
  have g2 := h2
  obtain ⟨ad1, c1, rfl, _, _⟩ := g1
  obtain ⟨ad2, c2, rfl, _, _⟩ := g2
  have H1 := Lib.hid h1; clear h1; have H2 := Lib.hid h2; clear h2
  go_enter Try.func53, Try.ntmps53
  go_wp2
  go_loopw [7] (fun i wr => ∃ k : Nat, k ≤ L.length ∧ i = .int .i64 k ∧ Keeps (fun _ => False) w wr) (fun i _ => L.length - (intOf i).toNat)
  case atStart => exact ⟨0, Nat.zero_le _, rfl, Keeps.refl _ _⟩
  case round =>
    obtain ⟨k, hk, rfl, hkp⟩ := hrel
    have Hkp := Lib.hid hkp; clear hkp
    by_cases hlt : k < L.length
    · obtain ⟨x, hx⟩ : ∃ x, L[k]? = some x := ⟨L[k], List.getElem?_eq_getElem hlt⟩
      obtain ⟨g, o, c, he, hc⟩ := (H1.out.keeps Hkp.out (by simp)).elem i64c_length hx (by decide)
      obtain ⟨g', o', c', he', hc'⟩ := (H2.out.keeps Hkp.out (by simp)).elem i64c_length hx (by decide)
      simp only [Value.slice.injEq, true_and] at he he'
      obtain ⟨rfl, rfl⟩ := he
      obtain ⟨rfl, rfl⟩ := he'
      have x0 : wr.cell? ⟨g, o + k, none⟩ = some (.int .i64 x) := by have := hc 0 (by decide); simpa [i64c] using this
      have y0 : wr.cell? ⟨g', o' + k, none⟩ = some (.int .i64 x) := by have := hc' 0 (by decide); simpa [i64c] using this
      clear hc hc'
      have Hx := Lib.hid hx; clear hx
      go_wp2
      go_still_tail 9, (by kernel_rfl)
      go_wp2_with (go_at_call 54; refine (plainI641_same _ _).mono ?_; rintro e w' ⟨rfl, rfl⟩)
      go_roundw
      case rel => exact ⟨k + 1, by omega, by go_num, (Hkp.out.trans (Keeps.drew _))⟩
      case measure => simp [intOf]; omega
    · go_wp2
      go_ret
      exact ⟨rfl, Hkp.out⟩
set_option maxRecDepth 100000 in
set_option maxHeartbeats 400000 in
theorem plainI64_same (L : List Int) (v1 v2 : Value) (w : World) (h1 : Reads w 1 v1 L.length (L.flatMap i64c)) (h2 : Reads w 1 v2 L.length (L.flatMap i64c)) (hl : L.length ≤ 1000000000000) :
    Calls Try.prog 33 #[v1, v2] w fun e w' => e = .returned (.bool true) ∧ Keeps (fun _ => False) w w' := by
  have H1 := Lib.hid h1; clear h1; have H2 := Lib.hid h2; clear h2
  go_enter Try.func33, Try.ntmps33
  go_wp2_with (go_at_call 53; refine (sameI64_same L _ _ _ H1.out H2.out hl).mono ?_; rintro e w' ⟨rfl, hk2⟩; have Hk2 := Lib.hid hk2; clear hk2)
  go_ret
  exact ⟨rfl, Hk2.out⟩
def t08 (a b : Int) : Tm := ⟨0, 1, 1, 0, 0, 10957, [⟨a, false⟩, ⟨b, false⟩]⟩
theorem i64_and4095 (n : Int) : bits .and .i64 n 4095 = n % 4096 := by
  have h127 : (BitVec.ofInt 64 4095).toNat = 2 ^ 12 - 1 := by decide
  have key : (BitVec.ofInt 64 n &&& BitVec.ofInt 64 4095).toNat = (n % ((2 ^ 64 : Nat) : Int)).toNat % 2 ^ 12 := by
    rw [BitVec.toNat_and, BitVec.toNat_ofInt, h127, Nat.and_two_pow_sub_one_eq_mod]
  show IntKind.i64.wrap ((BitVec.ofInt 64 n &&& BitVec.ofInt 64 4095).toNat : Nat) = n % 4096
  rw [key, IntKind.wrap_i64]
  omega
theorem i64_and1023 (n : Int) : bits .and .i64 n 1023 = n % 1024 := by
  have h127 : (BitVec.ofInt 64 1023).toNat = 2 ^ 10 - 1 := by decide
  have key : (BitVec.ofInt 64 n &&& BitVec.ofInt 64 1023).toNat = (n % ((2 ^ 64 : Nat) : Int)).toNat % 2 ^ 10 := by
    rw [BitVec.toNat_and, BitVec.toNat_ofInt, h127, Nat.and_two_pow_sub_one_eq_mod]
  show IntKind.i64.wrap ((BitVec.ofInt 64 n &&& BitVec.ofInt 64 1023).toNat : Nat) = n % 1024
  rw [key, IntKind.wrap_i64]
  omega
theorem t08_err {x y : Int} (h0 : 0 ≤ x) (h1 : x ≤ 4095) (h2 : 0 ≤ y) (h3 : y ≤ 4095) : (t08 x y).err = 0 := by
  have a1 : x ≤ 10000000 := by omega
  have a2 : y ≤ 10000000 := by omega
  simp [Tm.err, Tm.okB, t08, inB, Tn.okB, h0, h2, a1, a2]
set_option maxRecDepth 100000 in
set_option maxHeartbeats 800000 in
theorem terms08_any (a b : Int) (w : World) : Calls Try.prog 34 #[.int .i64 a, .int .i64 b] w fun e w' => ∃ B, e = .returned (.agg #[.int .i64 0, .slice (some ⟨B, 0, none⟩) 2 2, .int .i64 1, .int .i64 1, .int .i64 0, .int .i64 0, .int .i64 10957]) ∧ Reads w' 2 (.slice (some ⟨B, 0, none⟩) 2 2) 2 ((t08 (a % 4096) (b % 4096)).trs.flatMap Tn.cells) ∧ Keeps (fun _ => False) w w' := by
  have ha := i64_and4095 a
  have hb := i64_and4095 b
  go_enter Try.func34, Try.ntmps34
  go_wp2_with fail
  have hr : Reads ((w.alloc (Obj.cells #[.int .i64 0, .slice (some ⟨w.heap.size + 1, 0, none⟩) 2 2, .int .i64 1, .int .i64 1, .int .i64 0, .int .i64 0, .int .i64 10957] 27)).alloc (Obj.cells #[Value.int IntKind.i64 (a % 4096), Value.bool false, Value.int IntKind.i64 (b % 4096), Value.bool false] 61)) 2 (.slice (some ⟨w.heap.size + 1, 0, none⟩) 2 2) 2 ((t08 (a % 4096) (b % 4096)).trs.flatMap Tn.cells) := Reads.litAt _ _ _ _ _ _ (by simp) rfl
  exact bodyPost_ret (v := .agg #[.int .i64 0, .slice (some ⟨w.heap.size + 1, 0, none⟩) 2 2, .int .i64 1, .int .i64 1, .int .i64 0, .int .i64 0, .int .i64 10957]) (by simp [results, Try.results34, go_sem]) rfl ⟨_, rfl, hr, by (repeat (first | exact Keeps.refl _ _ | exact Keeps.alloc _ _ | exact Keeps.drew _ | exact Keeps.drewN _ _ | refine Keeps.trans_drew ?_ | refine Keeps.trans_drewN ?_ | refine Keeps.trans_alloc ?_))⟩
set_option maxRecDepth 100000 in
set_option maxHeartbeats 800000 in
theorem awake08_any (w : World) : Calls Try.prog 28 #[] w fun e w' => e = .returned (.bool true) ∧ Keeps (fun _ => False) w w' := by
  have hv : onVal (t08 (5 % 4096) (6 % 4096)) [⟨6, 10959, 2, 9, 0⟩] 2 10960 = 9 := by decide
  have he : daysErr (t08 (5 % 4096) (6 % 4096)) [⟨6, 10959, 2, 9, 0⟩] 2 10960 10960 = 0 := by decide
  have Hv := Lib.hid hv; clear hv; have He := Lib.hid he; clear he
  go_enter Try.func28, Try.ntmps28
  go_wp2_with fail
  refine (terms08_any 5 6 _).mono ?_
  rintro e w1 ⟨B, rfl, hr1, hk1⟩
  have hon := fun W (hW : Keeps (fun _ => False) w1 W) hr => rateOn_any (t08 (5 % 4096) (6 % 4096)) (some ⟨B, 0, none⟩) 2 [⟨6, 10959, 2, 9, 0⟩] (some ⟨w1.heap.size, 0, none⟩) 1 2 10960 W (hr1.keeps hW (by simp)) hr (by decide) (by decide)
  rw [Hv.out, He.out] at hon
  have Hon := Lib.hid hon; clear hon; have Hr1 := Lib.hid hr1; clear hr1; have Hk1 := Lib.hid hk1; clear hk1
  go_wp2_with fail
  refine (Hon.out _ (Keeps.alloc _ _) (Reads.litAt _ _ _ 5 1 _ rfl rfl)).mono ?_
  rintro e w2 ⟨rfl, hk2⟩
  have Hk2 := Lib.hid (Hk1.out.nt ((Keeps.alloc _ _).nt hk2)); clear hk2
  go_wp2
  go_ret
  exact ⟨rfl, Hk2.out⟩
end Go.Proofs.Ytelhlbplbkglkaa
