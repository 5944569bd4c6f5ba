/- The walks of the adjust layer: may these be, are they alike, how has grace turned. -/
import Derived.Test.YthokcmbgamanbaaPage3
namespace Go.Proofs.Ythokcmbgamanbaa
open Go.RowKit
set_option maxRecDepth 100000 in
set_option maxHeartbeats 400000 in
theorem adjMayF_any (v : Int) (w : World) : Calls Try.prog 68 #[.int .i64 v] w fun e w' => e = .returned (.bool (!moneyB v)) ∧ w = w' := by
  have hd : moneyB v = decide (0 ≤ v ∧ v ≤ 1000000000000000) := rfl
  by_cases h1 : v < 0
  · have : moneyB v = false := by rw [hd]; simp; omega
    have Hd := Lib.hid hd; clear hd; have This := Lib.hid this; clear this
    go_enter Try.func68, Try.ntmps68
    go_wp2
    go_ret
    exact ⟨by rw [This.out]; rfl, rfl⟩
  · by_cases h2 : 1000000000000000 < v
    · have : moneyB v = false := by rw [hd]; simp; omega
      have Hd := Lib.hid hd; clear hd; have This := Lib.hid this; clear this
      go_enter Try.func68, Try.ntmps68
      go_wp2
      go_ret
      exact ⟨by rw [This.out]; rfl, rfl⟩
    · have : moneyB v = true := by rw [hd]; simp; omega
      have Hd := Lib.hid hd; clear hd; have This := Lib.hid this; clear this
      go_enter Try.func68, Try.ntmps68
      go_wp2
      go_ret
      exact ⟨by rw [This.out]; rfl, rfl⟩
def allMoney (L : List Int) : Bool := L.all moneyB
theorem allMoney_snoc (L : List Int) (x : Int) : allMoney (L ++ [x]) = (allMoney L && moneyB x) := by simp [allMoney]
theorem allMoney_false {L : List Int} {k : Nat} {x : Int} (h : L[k]? = some x) (hx : moneyB x = false) : allMoney L = false := by
  rw [Bool.eq_false_iff]; intro hm
  have := List.all_eq_true.1 hm x (List.mem_of_getElem? h)
  rw [hx] at this; simp at this
set_option maxRecDepth 100000 in
set_option maxHeartbeats 800000 in
theorem indexI64_any (ad : Option Addr) (cap : Nat) (L : List Int) (w : World) (hr : Reads w 1 (.slice ad L.length cap) L.length (L.flatMap i64c)) (hl : L.length ≤ 1000) :
    Calls Try.prog 69 #[.slice ad L.length cap, .func (.func 68) #[] #[]] w fun e w' => ∃ r : Int, e = .returned (.int .i64 r) ∧ decide (0 ≤ r) = !allMoney L ∧ w = w' := by
  have Hr := Lib.hid hr; clear hr
  go_enter Try.func69, Try.ntmps69
  go_wp2_with fail
  go_loop [8] (fun c => ∃ j : Nat, j ≤ L.length ∧ c = .int .i64 (j : Nat) ∧ allMoney (L.take j) = true) (fun c => L.length - (intOf c).toNat)
  case atStart => exact ⟨0, Nat.zero_le _, rfl, rfl⟩
  case round =>
    obtain ⟨j, hj, rfl, hok⟩ := hrel
    by_cases hjl : j < L.length
    · obtain ⟨x, hx⟩ := get_some hjl
      obtain ⟨g, o, rfl, x0⟩ := Hr.out.int hx
      have hsn := allMoney_snoc (L.take j) x
      rw [← take_snoc' hx, hok] at hsn
      rcases m1 : moneyB x with _ | _
      · have hf := allMoney_false hx m1
        have hj0 : decide ((0 : Int) ≤ (j : Int)) = true := by simp
        have Hf := Lib.hid hf; clear hf; have Hsn := Lib.hid hsn; clear hsn; have Hx := Lib.hid hx; clear hx; have Hj0 := Lib.hid hj0; clear hj0
        go_wp2_with (go_at_call 68; ((with_reducible refine (adjMayF_any _ _).mono ?_); rintro e w1 ⟨rfl, rfl⟩))
        go_ret
        exact ⟨_, rfl, by rw [Hf.out, Hj0.out]; rfl, rfl⟩
      · have hok' : allMoney (L.take (j + 1)) = true := by rw [hsn, m1]; rfl
        have Hsn := Lib.hid hsn; clear hsn; have Hx := Lib.hid hx; clear hx; have Hok := Lib.hid hok; clear hok; have Hok' := Lib.hid hok'; clear hok'
        go_wp2_with (go_at_call 68; ((with_reducible refine (adjMayF_any _ _).mono ?_); rintro e w1 ⟨rfl, rfl⟩))
        go_round
        case rel => exact ⟨j + 1, by omega, by go_num, Hok'.out⟩
        case measure => simp [intOf]; omega
    · obtain rfl : j = L.length := by omega
      rw [List.take_length] at hok
      have Hok := Lib.hid hok; clear hok
      go_wp2_with fail
      go_ret
      exact ⟨_, rfl, by rw [Hok.out]; rfl, rfl⟩
set_option maxRecDepth 100000 in
set_option maxHeartbeats 400000 in
theorem containsI64_any (ad : Option Addr) (cap : Nat) (L : List Int) (w : World) (hr : Reads w 1 (.slice ad L.length cap) L.length (L.flatMap i64c)) (hl : L.length ≤ 1000) :
    Calls Try.prog 67 #[.slice ad L.length cap, .func (.func 68) #[] #[]] w fun e w' => e = .returned (.bool (!allMoney L)) ∧ w = w' := by
  have Hr := Lib.hid hr; clear hr
  go_enter Try.func67, Try.ntmps67
  go_wp2_with (go_at_call 69; refine (indexI64_any _ _ L _ Hr.out hl).mono ?_; rintro e w1 ⟨r, rfl, hd, rfl⟩; have Hd := Lib.hid hd; clear hd)
  go_ret
  exact ⟨by rw [← Hd.out]; rfl, rfl⟩
set_option maxRecDepth 100000 in
set_option maxHeartbeats 400000 in
theorem adjMay_any (ad : Option Addr) (cap : Nat) (L : List Int) (w : World) (hr : Reads w 1 (.slice ad L.length cap) L.length (L.flatMap i64c)) (hl : L.length ≤ 1000) :
    Calls Try.prog 64 #[.slice ad L.length cap] w fun e w' => e = .returned (.bool (allMoney L)) ∧ w = w' := by
  have Hr := Lib.hid hr; clear hr
  go_enter Try.func64, Try.ntmps64
  go_wp2_with (go_at_call 67; refine (containsI64_any _ _ L _ Hr.out hl).mono ?_; rintro e w1 ⟨rfl, rfl⟩)
  go_ret
  exact ⟨by simp, rfl⟩
theorem adjMay3 {w : World} {B : Nat} (hB : B = w.heap.size) (t : TypeId) (a b c : Int) : Calls Try.prog 64 #[.slice (some ⟨B, 0, none⟩) 3 3] (w.alloc (.cells #[.int .i64 a, .int .i64 b, .int .i64 c] t)) fun e w' => e = .returned (.bool (allMoney [a, b, c])) ∧ (w.alloc (.cells #[.int .i64 a, .int .i64 b, .int .i64 c] t)) = w' :=
  adjMay_any _ _ [a, b, c] _ (lit3 hB _ a b c) (by simp)
theorem adjMay2 {w : World} {B : Nat} (hB : B = w.heap.size) (t : TypeId) (a b : Int) : Calls Try.prog 64 #[.slice (some ⟨B, 0, none⟩) 2 2] (w.alloc (.cells #[.int .i64 a, .int .i64 b] t)) fun e w' => e = .returned (.bool (allMoney [a, b])) ∧ (w.alloc (.cells #[.int .i64 a, .int .i64 b] t)) = w' :=
  adjMay_any _ _ [a, b] _ (lit2 hB _ a b) (by simp)
theorem adjMay1 {w : World} {B : Nat} (hB : B = w.heap.size) (t : TypeId) (a : Int) : Calls Try.prog 64 #[.slice (some ⟨B, 0, none⟩) 1 1] (w.alloc (.cells #[.int .i64 a] t)) fun e w' => e = .returned (.bool (allMoney [a])) ∧ (w.alloc (.cells #[.int .i64 a] t)) = w' :=
  adjMay_any _ _ [a] _ (lit1 hB _ a) (by simp)
def turnedI (a b : Bool) : Int := if b && !a then 1 else if a && !b then -1 else 0
set_option maxRecDepth 100000 in
set_option maxHeartbeats 400000 in
theorem adjTurned_any (a b : Bool) (w : World) : Calls Try.prog 65 #[.bool a, .bool b] w fun e w' => e = .returned (.int .i64 (turnedI a b)) ∧ w = w' := by
  cases a <;> cases b <;>
  · go_enter Try.func65, Try.ntmps65
    go_wp2
    go_ret
    exact ⟨rfl, rfl⟩
/-- Two statements of the same cycle, span and number of lines. -/
def alikeB (a b : Stm) : Bool := decide (a.cycle = b.cycle) && (decide (a.fr = b.fr) && decide (a.to = b.to)) && decide (a.lines.length = b.lines.length)
set_option maxRecDepth 100000 in
set_option maxHeartbeats 800000 in
theorem adjAlike_any (a b : Stm) (ad1 ad2 : Option Addr) (c1 c2 : Nat) (w : World) :
    Calls Try.prog 50 #[a.val (.slice ad1 a.lines.length c1), b.val (.slice ad2 b.lines.length c2)] w fun e w' => e = .returned (.bool (alikeB a b)) ∧ Keeps (fun _ => False) w w' := by
  obtain ⟨cy, fr, to, du, tot, cr, mi, gr, L⟩ := a
  obtain ⟨cy', fr', to', du', tot', cr', mi', gr', L'⟩ := b
  simp only [Stm.val]
  obtain ⟨n, hn⟩ : ∃ n, L.length = n := ⟨_, rfl⟩
  obtain ⟨n', hn'⟩ : ∃ n', L'.length = n' := ⟨_, rfl⟩
  have hd : alikeB ⟨cy, fr, to, du, tot, cr, mi, gr, L⟩ ⟨cy', fr', to', du', tot', cr', mi', gr', L'⟩ = (decide (cy = cy') && (decide (fr = fr') && decide (to = to')) && decide (n = n')) := by unfold alikeB; simp only [hn, hn']
  rw [hn, hn']
  by_cases h1 : cy = cy'
  · subst h1
    by_cases h2 : fr = fr' ∧ to = to'
    · obtain ⟨rfl, rfl⟩ := h2
      by_cases h3 : n = n'
      · subst h3
        have hf : alikeB ⟨cy, fr, to, du, tot, cr, mi, gr, L⟩ ⟨cy, fr, to, du', tot', cr', mi', gr', L'⟩ = true := by rw [hd]; simp
        have Hd := Lib.hid hd; clear hd; have Hn := Lib.hid hn; clear hn; have Hn' := Lib.hid hn'; clear hn'; have Hf := Lib.hid hf; clear hf
        go_enter Try.func50, Try.ntmps50
        go_wp2
        go_ret
        exact ⟨by rw [Hf.out]; simp, (Keeps.alloc _ _).trans (Keeps.alloc _ _)⟩
      · have hf : alikeB ⟨cy, fr, to, du, tot, cr, mi, gr, L⟩ ⟨cy, fr, to, du', tot', cr', mi', gr', L'⟩ = false := by rw [hd]; simp [h3]
        have h3' : ¬ (n : Int) = (n' : Int) := by omega
        have Hd := Lib.hid hd; clear hd; have Hn := Lib.hid hn; clear hn; have Hn' := Lib.hid hn'; clear hn'; have Hf := Lib.hid hf; clear hf
        go_enter Try.func50, Try.ntmps50
        go_wp2
        go_ret
        exact ⟨by rw [Hf.out]; simp [h3']; try omega, (Keeps.alloc _ _).trans (Keeps.alloc _ _)⟩
    · have hf : alikeB ⟨cy, fr, to, du, tot, cr, mi, gr, L⟩ ⟨cy, fr', to', du', tot', cr', mi', gr', L'⟩ = false := by rw [hd]; simp; intro a b; exact absurd ⟨a, b⟩ h2
      have h2' : (decide (fr = fr') && decide (to = to')) = false := by simp; intro a b; exact absurd ⟨a, b⟩ h2
      have Hd := Lib.hid hd; clear hd; have Hn := Lib.hid hn; clear hn; have Hn' := Lib.hid hn'; clear hn'; have Hf := Lib.hid hf; clear hf
      rcases (show ¬ fr = fr' ∨ (fr = fr' ∧ ¬ to = to') by omega) with h4 | ⟨h4, h5⟩
      · clear h2 h2'
        go_enter Try.func50, Try.ntmps50
        go_wp2
        go_ret
        exact ⟨by rw [Hf.out]; simp [h4], (Keeps.alloc _ _).trans (Keeps.alloc _ _)⟩
      · clear h2 h2'
        subst h4
        go_enter Try.func50, Try.ntmps50
        go_wp2
        go_ret
        exact ⟨by rw [Hf.out]; simp [h5], (Keeps.alloc _ _).trans (Keeps.alloc _ _)⟩
  · have hf : alikeB ⟨cy, fr, to, du, tot, cr, mi, gr, L⟩ ⟨cy', fr', to', du', tot', cr', mi', gr', L'⟩ = false := by rw [hd]; simp [h1]
    have Hd := Lib.hid hd; clear hd; have Hn := Lib.hid hn; clear hn; have Hn' := Lib.hid hn'; clear hn'; have Hf := Lib.hid hf; clear hf
    go_enter Try.func50, Try.ntmps50
    go_wp2
    go_ret
    exact ⟨by rw [Hf.out]; simp [h1], (Keeps.alloc _ _).trans (Keeps.alloc _ _)⟩
end Go.Proofs.Ythokcmbgamanbaa
