/-
  ReplayGrace: for every input the law returns true, and each argument reads behind the call as it read before. No condition.
-/
import Derived.Test.YthcmpcekmkioaaaB10
namespace Go.Proofs.Ythcmpcekmkioaaa
open Go.RowKit
def dbl : Nat → Int
 | 0 => 1
 | n + 1 => 2 * dbl n
theorem dbl_pos : ∀ n, 1 ≤ dbl n
 | 0 => by decide
 | n + 1 => by have := dbl_pos n; simp only [dbl]; omega
def hdT (A : Int) : List Ev := [⟨1, 10957, 1, A, 0⟩]
def hbT (A H D : Int) : List Ev := [⟨1, 10957, 1, A, 0⟩, ⟨4, 10957 + D, 1, H, 1⟩, ⟨5, 10957 + D, 1, H, 1⟩]
theorem free_hold (out : List Stm) (fr A H D : Int) : freeB out fr (hbT A H D) = freeB out fr (hdT A) := by
 unfold freeB
 split
 ·rfl
 ·unfold hasB
  simp [paidS, hbT, hdT, payQ]
def hSt (i : Nat) (day a du : Int) (k : Nat) (out : List Stm) : St := st2 i day a 0 0 du 1000000 2000000 (List.replicate k a) (List.replicate k 0) (List.replicate k 1000000) (List.replicate k 2000000) out
def HGo (A H D : Int) (d : Nat) (S : List (Int × Int)) (day a du : Int) (k : Nat) (out : List Stm) (j : Nat) : Prop :=
 ∃ s1 s2, walkD tF (hdT A) 2 d S (hSt 1 day a du k out) = (s1, 0) ∧ walkD tF (hbT A H D) 2 d S (hSt j day a du k out) = (s2, 0) ∧ s1.p = s2.p ∧ s1.out = s2.out ∧ s1.p.bal.length = 2
theorem rep_in {n : Nat} {a x : Int} (h : x ∈ List.replicate n a) : x = a := (List.mem_replicate.1 h).2
theorem rep_snoc (n : Nat) (a : Int) : List.replicate n a ++ [a] = List.replicate (n + 1) a := List.replicate_succ'.symm
theorem hold_back {A H D a du : Int} {day : Int} {k : Nat} {out : List Stm} {d : Nat} {S : List (Int × Int)} (hH : 1 ≤ H ∧ H ≤ a) (ha : a ≤ 1000000000) (hdu : 0 ≤ du ∧ du ≤ 1000000000) (hday : day = 10957 + D) (h : HGo A H D d S day a du k out 3) : HGo A H D d S day a du k out 1 := by
 obtain ⟨s1, s2, h1, h2, h3, h4, h5⟩ := h
 have p0 : Ps.rightB ⟨[a, 0], 0, du⟩ = true := right2 (by omega) (by omega) (by omega) (by omega) (by omega) (.inl rfl)
 have p1 : Ps.rightB ⟨[a - H, 0], 0, du⟩ = true := right2 (by omega) (by omega) (by omega) (by omega) (by omega) (.inl rfl)
 have m0 : minI H 0 = 0 := by unfold minI; rw [if_neg (by omega)]
 refine ⟨s1, s2, h1, ?_, h3, h4, h5⟩
 refine walkD_ev1 (e := ⟨4, 10957 + D, 1, H, 1⟩) rfl hday.symm (give2 (a' := a - H) (b' := 0) p0 (by omega) (by omega) (by omega) (by omega) (.inr rfl) (by omega) (.inl ⟨rfl, hH.2, rfl, rfl⟩) p1) ?_ rfl
 refine walkD_ev1 (e := ⟨5, 10957 + D, 1, H, 1⟩) rfl hday.symm (charge2 (a' := a) (b' := 0) (c' := 0) p1 (by omega) (by omega) (.inr rfl) (by omega) (.inl ⟨rfl, by rw [m0]; omega, rfl⟩) (by rw [m0]; rfl) p0) ?_ rfl
 exact h2
theorem holds_go {A H D : Int} (hH : 1 ≤ H) : ∀ (d : Nat) (fr te : Int) (S : List (Int × Int)) (day a du : Int) (k : Nat) (out : List Stm) (j : Nat), SpanC (day + d) fr ((fr, te) :: S) → fr + k = day → day ≤ te → H ≤ a → a * dbl S.length ≤ 1000000000 → 0 ≤ du → du ≤ 1000000000 → (j = 1 ∧ day ≤ 10957 + D) ∨ j = 3 → HGo A H D d ((fr, te) :: S) day a du k out j := by
 intro d
 induction d with
 | zero =>
  intro fr te S day a du k out j hS hk hte hHa hb hd0 hd1 hj
  have hdp := dbl_pos S.length
  have ha : a ≤ 1000000000 := by
   have : a * 1 ≤ a * dbl S.length := Int.mul_le_mul_of_nonneg_left hdp (by omega)
   omega
  have key : ∀ j, (∀ x, (hbT A H D)[j]? = some x → ¬ x.day = day) → HGo A H D 0 ((fr, te) :: S) day a du k out j := fun j hq => ⟨_, _, walkD_stop (by intro x hx; simp [hSt, st2, hdT] at hx), walkD_stop hq, rfl, rfl, rfl⟩
  by_cases hq : j = 1 ∧ day = 10957 + D
  ·obtain ⟨rfl, hday⟩ := hq
   exact hold_back ⟨hH, hHa⟩ ha ⟨hd0, hd1⟩ hday (key 3 (by intro x hx; simp [hbT] at hx))
  ·refine key j (fun x hx => ?_)
   rcases hj with ⟨rfl, hj⟩ | rfl
   ·simp only [hbT, List.getElem?_cons_succ, List.getElem?_cons_zero, Option.some.injEq] at hx
    subst hx
    show ¬ 10957 + D = day
    omega
   ·simp [hbT] at hx
 | succ d ih =>
  intro fr te S day a du k out j hS hk hte hHa hb hd0 hd1 hj
  have hdp := dbl_pos S.length
  have ha : a ≤ 1000000000 := by
   have : a * 1 ≤ a * dbl S.length := Int.mul_le_mul_of_nonneg_left hdp (by omega)
   omega
  have key : ∀ j, (j = 1 ∧ day < 10957 + D) ∨ j = 3 → HGo A H D (d + 1) ((fr, te) :: S) day a du k out j := fun j hq => by
   have hq1 : ∀ x, (hdT A)[1]? = some x → ¬ x.day = day := by intro x hx; simp [hdT] at hx
   have hq2 : ∀ x, (hbT A H D)[j]? = some x → day + (1 : Nat) ≤ x.day := by
    intro x hx
    rcases hq with ⟨rfl, hj⟩ | rfl
    ·simp only [hbT, List.getElem?_cons_succ, List.getElem?_cons_zero, Option.some.injEq] at hx
     subst hx
     show day + ((1 : Nat) : Int) ≤ 10957 + D
     omega
    ·simp [hbT] at hx
   have hjn : (j = 1 ∧ day + 1 ≤ 10957 + D) ∨ j = 3 := by omega
   by_cases hcl : te = day
   ·-- the cycle is closed
    cases hS with
    | last h1 h2 h3 => omega
    | more h1 h2 h3 =>
     obtain ⟨te', S', rfl, ok', lo', _⟩ := h3.head
     have hsh := h1.sh
     obtain ⟨g, hg⟩ : ∃ g, freeB out fr (hdT A) = g := ⟨_, rfl⟩
     have hg2 : freeB out fr (hbT A H D) = g := by rw [free_hold]; exact hg
     obtain ⟨e1, e2, e3, e4⟩ := ofR_ok (X := List.replicate (k + 1) a) (Y := List.replicate (k + 1) (1000000 : Int)) (A := a) (by omega) (by omega) (by rw [List.length_replicate]; omega) (fun x hx => by rw [rep_in hx]; omega) (fun y hy => by rw [rep_in hy]; omega)
     obtain ⟨v, hv⟩ : ∃ v, ofR (List.replicate (k + 1) a) (List.replicate (k + 1) 1000000) = (v, 0) := ⟨_, by rw [← e1]⟩
     rw [hv] at e2 e3
     simp only at e2 e3
     obtain ⟨v1, hv1, hv1b⟩ : ∃ v1, ((g = true ∧ v1 = 0) ∨ (g = false ∧ ofR (List.replicate k a ++ [a]) (List.replicate k 1000000 ++ [1000000]) = (v1, 0))) ∧ 0 ≤ v1 ∧ v1 ≤ a := by
      rcases g with _ | _
      ·exact ⟨v, .inr ⟨rfl, by rw [rep_snoc, rep_snoc]; exact hv⟩, e2, e3⟩
      ·exact ⟨0, .inl ⟨rfl, rfl⟩, by omega, by omega⟩
     have hv2 : ofR (List.replicate k 0 ++ [0]) (List.replicate k 2000000 ++ [2000000]) = (0, 0) := by
      rw [rep_snoc]
      exact ofR_zero (fun x hx => rep_in hx)
     have hsum : a + v1 + (0 + 0) ≤ 1000000000000000 := by omega
     have hlb := leastI_bd (mf := 25) (mp := 20) (total := a + v1 + (0 + 0)) (by omega) (by omega)
     have hb' : (a + v1) * dbl S'.length ≤ 1000000000 := by
      have h5 : (a + v1) * dbl S'.length ≤ (2 * a) * dbl S'.length := Int.mul_le_mul_of_nonneg_right (by omega) (by have := dbl_pos S'.length; omega)
      have h6 : a * dbl ((te + 1, te') :: S').length = 2 * a * dbl S'.length := by simp only [List.length_cons, dbl]; rw [← Int.mul_assoc, Int.mul_comm a 2]
      omega
     have hdp' := dbl_pos S'.length
     have ha' : a + v1 ≤ 1000000000 := by
      have : (a + v1) * 1 ≤ (a + v1) * dbl S'.length := Int.mul_le_mul_of_nonneg_left hdp' (by omega)
      omega
     obtain ⟨s1, s2, i1, i2, i3, i4, i5⟩ := ih (te + 1) te' S' (day + 1) (a + v1) (leastI 25 20 (a + v1 + (0 + 0))) 0 (out ++ [⟨(out.length : Int) + 1, fr, te, te + 20, a + v1 + (0 + 0), 0, leastI 25 20 (a + v1 + (0 + 0)), g, [⟨a + v1, v1, 1000000⟩, ⟨0 + 0, 0, 2000000⟩]⟩]) j (by rw [show day + 1 + (d : Int) = day + ((d + 1 : Nat) : Int) by omega]; exact h3) (by omega) (by have := ok'.le; omega) (by omega) hb' hlb.1 (by omega) hjn
     refine ⟨s1, s2, ?_, ?_, i3, i4, i5⟩
     ·exact walkD_close hcl hq1 (closeF hg hv1 hv2 hv1b.1 (by omega) (by omega) (by omega) hsum (by omega)) i1
     ·exact walkD_close hcl (fun x hx => by have := hq2 x hx; omega) (closeF hg2 hv1 hv2 hv1b.1 (by omega) (by omega) (by omega) hsum (by omega)) i2
   ·-- a day more
    obtain ⟨s1, s2, i1, i2, i3, i4, i5⟩ := ih fr te S (day + 1) a du (k + 1) out j (by rw [show day + 1 + (d : Int) = day + ((d + 1 : Nat) : Int) by omega]; exact hS) (by omega) (by omega) hHa hb hd0 hd1 hjn
    refine ⟨s1, s2, ?_, ?_, i3, i4, i5⟩
    ·unfold hSt
     rw [walkD_quiet d 1 day _ _ _ _ (by intro x hx; simp [hdT] at hx) (by omega)]
     simp only [List.replicate_one, rep_snoc]
     exact i1
    ·unfold hSt
     rw [walkD_quiet d 1 day _ _ _ _ hq2 (by omega)]
     simp only [List.replicate_one, rep_snoc]
     exact i2
  by_cases hq : j = 1 ∧ day = 10957 + D
  ·obtain ⟨rfl, hday⟩ := hq
   exact hold_back ⟨hH, hHa⟩ ha ⟨hd0, hd1⟩ hday (key 3 (.inr rfl))
  ·exact key j (by omega)
theorem holds_days : ∀ K : Fin 60, ofE 10957 1 (11017 + (K.val : Int)) = 0 ∧ (allL 10957 1 (11017 + (K.val : Int))).length ≤ 5 ∧ (findW 1 (11017 + (K.val : Int)) 300 10957).2 = true := by decide +kernel
theorem holds_both {A H D K : Int} (hA : 1 ≤ A ∧ A ≤ 1000000) (hH : 1 ≤ H ∧ H ≤ A) (hD : 0 ≤ D ∧ D ≤ 59) (hK : 0 ≤ K ∧ K ≤ 59) : ∃ s1 s2, walkR tF (hdT A) (11017 + K) = (s1, 0) ∧ walkR tF (hbT A H D) (11017 + K) = (s2, 0) ∧ s1.p = s2.p ∧ s1.out = s2.out ∧ s1.p.bal.length = 2 := by
 obtain ⟨q, hq⟩ : ∃ q : Nat, K = q := ⟨K.toNat, by omega⟩
 subst hq
 obtain ⟨o1, o2, o3⟩ := holds_days ⟨q, by omega⟩
 simp only at o1 o2 o3
 obtain ⟨hS, _⟩ := find_spans 1 (11017 + (q : Int)) 300 10957 o3
 have hall : allL 10957 1 (11017 + (q : Int)) = (findW 1 (11017 + (q : Int)) 300 10957).1 := by unfold allL; rw [if_pos o3]
 rw [← hall] at hS
 obtain ⟨te, S', hS', ok, lo, _⟩ := hS.head
 rw [hS'] at hS o2
 simp only [List.length_cons] at o2
 have hb : A * dbl S'.length ≤ 1000000000 := by
  have h1 : dbl S'.length ≤ 16 := by
   have : S'.length = 0 ∨ S'.length = 1 ∨ S'.length = 2 ∨ S'.length = 3 ∨ S'.length = 4 := by omega
   rcases this with h | h | h | h | h <;> rw [h] <;> decide
  have : A * dbl S'.length ≤ A * 16 := Int.mul_le_mul_of_nonneg_left h1 (by omega)
  omega
 have hgo := holds_go (A := A) (H := H) (D := D) hH.1 (60 + q) 10957 te S' 10957 A 0 0 [] 1 (by rw [show (10957 : Int) + ((60 + q : Nat) : Int) = 11017 + (q : Int) by omega]; exact hS) (by omega) (by have := ok.le; omega) hH.2 hb (by omega) (by omega) (.inl ⟨rfl, by omega⟩)
 obtain ⟨s1, s2, h1, h2, h3, h4, h5⟩ := hgo
 have ev0 : evErr tF ⟨1, 10957, 1, A, 0⟩ = 0 := evErrF (by omega) (by omega) (by omega) (by omega) (by omega)
 have ev1 : evErr tF ⟨4, 10957 + D, 1, H, 1⟩ = 0 := evErrF (by omega) (by omega) (by omega) (by omega) (by omega)
 have ev2 : evErr tF ⟨5, 10957 + D, 1, H, 1⟩ = 0 := evErrF (by omega) (by omega) (by omega) (by omega) (by omega)
 have p0 : Ps.rightB ⟨[0, 0], 0, 0⟩ = true := by decide +kernel
 have p1 : Ps.rightB ⟨[A, 0], 0, 0⟩ = true := right2 (by omega) (by omega) (by omega) (by omega) (by omega) (.inl rfl)
 have m0 : minI A 0 = 0 := by unfold minI; rw [if_neg (by omega)]
 have hn : (11017 + (q : Int) - 10957).toNat = 60 + q := by omega
 refine ⟨s1, s2, walkF ?_ (by simp [hdT]) (by omega) o1 ?_ ?_, walkF ?_ (by simp [hbT]) (by omega) o1 ?_ ?_, h3, h4, h5⟩
 ·intro x hx
  simp only [hdT, List.mem_singleton] at hx
  subst hx
  exact ⟨ev0, by show (10957 : Int) ≤ _; omega⟩
 ·simp [hdT, Sorted]
 ·rw [hn, hS']
  exact walkD_ev1 (e := ⟨1, 10957, 1, A, 0⟩) rfl rfl (charge2 (a' := A) (b' := 0) (c' := 0) p0 (by omega) (by omega) (.inl rfl) (by omega) (.inl ⟨rfl, by rw [m0]; omega, rfl⟩) (by rw [m0]; rfl) p1) h1 rfl
 ·intro x hx
  simp only [hbT, List.mem_cons, List.not_mem_nil, or_false] at hx
  rcases hx with rfl | rfl | rfl
  ·exact ⟨ev0, by show (10957 : Int) ≤ _; omega⟩
  ·exact ⟨ev1, by show 10957 + D ≤ _; omega⟩
  ·exact ⟨ev2, by show 10957 + D ≤ _; omega⟩
 ·simp [hbT, Sorted]
  omega
 ·rw [hn, hS']
  exact walkD_ev1 (e := ⟨1, 10957, 1, A, 0⟩) rfl rfl (charge2 (a' := A) (b' := 0) (c' := 0) p0 (by omega) (by omega) (.inl rfl) (by omega) (.inl ⟨rfl, by rw [m0]; omega, rfl⟩) (by rw [m0]; rfl) p1) h2 rfl
end Go.Proofs.Ythcmpcekmkioaaa
namespace Go.Proofs.Ythcmpcekmkioaaa
open Go.RowKit
def crT (F P S : Int) (D : Nat) : List Ev := [⟨1, 10957, 1, F, 0⟩, ⟨2, 10957, 0, P, 0⟩, ⟨1, 10957 + D, 1, S, 0⟩]
theorem mem_app3 {x : Int} {A B C : List Int} {P : Int → Prop} (h1 : ∀ x ∈ A, P x) (h2 : ∀ x ∈ B, P x) (h3 : ∀ x ∈ C, P x) (h : x ∈ A ++ B ++ C) : P x := by
 rcases List.mem_append.1 h with h | h
 ·rcases List.mem_append.1 h with h | h
  ·exact h1 _ h
  ·exact h2 _ h
 ·exact h3 _ h
theorem all_of {P : Int → Prop} {k : Nat} {a : Int} (h : P a) : ∀ x ∈ List.replicate k a, P x := fun x hx => by rw [rep_in hx]; exact h
theorem all_one {P : Int → Prop} {a : Int} (h : P a) : ∀ x ∈ [a], P x := fun x hx => by rw [List.mem_singleton.1 hx]; exact h
theorem all_app {P : Int → Prop} {A B : List Int} (h1 : ∀ x ∈ A, P x) (h2 : ∀ x ∈ B, P x) : ∀ x ∈ A ++ B, P x := fun x hx => (List.mem_append.1 hx).elim (h1 x) (h2 x)
theorem credit_walk {F P S : Int} {D : Nat} (hF : 1 ≤ F ∧ F ≤ 1000) (hP : 1 ≤ P ∧ P ≤ 3000) (hS : 1 ≤ S ∧ S ≤ 3000) (hD : D ≤ 29) :
  ∃ s X l1 l2 B C du, walkR tF (crT F P S D) 10988 = (s, 0) ∧ s.p = ⟨[B, 0], C, du⟩ ∧ s.out = [X] ∧ X.total = B ∧ X.credit = C ∧ X.lines = [l1, l2] ∧ l1.interest = 0 ∧ (0 ≤ F + S - P → B = F + S - P ∧ C = 0) ∧ (F + S - P ≤ 0 → B = 0 ∧ C = -(F + S - P)) := by
 obtain ⟨B1, hB1⟩ : ∃ B1, F - minI P F = B1 := ⟨_, rfl⟩
 obtain ⟨C1, hC1⟩ : ∃ C1, P - minI P F = C1 := ⟨_, rfl⟩
 obtain ⟨B2, hB2⟩ : ∃ B2, B1 + (S - minI S C1) = B2 := ⟨_, rfl⟩
 obtain ⟨C2, hC2⟩ : ∃ C2, C1 - minI S C1 = C2 := ⟨_, rfl⟩
 have hm1 : 0 ≤ B1 ∧ 0 ≤ C1 ∧ (B1 = 0 ∨ C1 = 0) ∧ B1 - C1 = F - P ∧ B1 ≤ F ∧ C1 ≤ P := by
  rw [← hB1, ← hC1]
  unfold minI
  split <;> omega
 have hm2 : 0 ≤ B2 ∧ 0 ≤ C2 ∧ (B2 = 0 ∨ C2 = 0) ∧ B2 - C2 = F + S - P ∧ B2 ≤ 10000 ∧ C2 ≤ P := by
  rw [← hB2, ← hC2]
  unfold minI
  split <;> omega
 have p0 : Ps.rightB ⟨[0, 0], 0, 0⟩ = true := by decide +kernel
 have p1 : Ps.rightB ⟨[F, 0], 0, 0⟩ = true := right2 (by omega) (by omega) (by omega) (by omega) (by omega) (.inl rfl)
 have p2 : Ps.rightB ⟨[B1, 0], C1, 0⟩ = true := right2 (by omega) (by omega) (by omega) (by omega) (by omega) (by omega)
 have p3 : Ps.rightB ⟨[B2, 0], C2, 0⟩ = true := right2 (by omega) (by omega) (by omega) (by omega) (by omega) (by omega)
 have m0 : minI F 0 = 0 := by unfold minI; rw [if_neg (by omega)]
 have z0 : (0 : Int) - minI P 0 = 0 := by unfold minI; rw [if_neg (by omega)]; rfl
 have hpay := pay2 (day := 10957) (tr := 0) (re := 0) (m := P) p1 (by omega) (by omega) (by omega) (by rw [hB1, hC1, z0]; exact p2)
 rw [hB1, hC1, z0] at hpay
 have hcl : ∃ X l1 l2 du, closeS tF (crT F P S D) 2 (st2 3 10987 B2 0 C2 0 1000000 2000000 (([] ++ List.replicate D B1 ++ List.replicate (30 - D) B2) ++ [B2]) (([] ++ List.replicate D 0 ++ List.replicate (30 - D) 0) ++ [0]) (([] ++ List.replicate D 1000000 ++ List.replicate (30 - D) 1000000) ++ [1000000]) (([] ++ List.replicate D 2000000 ++ List.replicate (30 - D) 2000000) ++ [2000000]) []) 10957 10987
   = some (st2 3 10987 B2 0 C2 du 1000000 2000000 [] [] [] [] ([] ++ [X])) ∧ X.total = B2 ∧ X.credit = C2 ∧ X.lines = [l1, l2] ∧ l1.interest = 0 := by
  have hz : ofR (([] ++ List.replicate D 0 ++ List.replicate (30 - D) 0) ++ [0]) (([] ++ List.replicate D 2000000 ++ List.replicate (30 - D) 2000000) ++ [2000000]) = (0, 0) :=
   ofR_zero (all_app (all_app (all_app (by simp) (all_of rfl)) (all_of rfl)) (all_one rfl))
  rcases hm2.2.2.1 with h0 | h0
  ·subst h0
   exact ⟨_, _, _, _, closeC (g := true) rfl (.inl rfl) hz (by omega) (by omega), rfl, rfl, rfl, rfl⟩
  ·subst h0
   have := closeF (T := crT F P S D) (i := 3) (day := 10987) (a := B2) (b := 0) (du := 0) (r1 := 1000000) (r2 := 2000000) (fr := 10957) (te := 10987) (x1 := ([] ++ List.replicate D B1 ++ List.replicate (30 - D) B2) ++ [B2]) (y1 := ([] ++ List.replicate D 1000000 ++ List.replicate (30 - D) 1000000) ++ [1000000]) (out := []) (g := true) (v1 := 0) rfl (.inl ⟨rfl, rfl⟩) hz (by omega) (by omega) (by omega) (by omega) (by omega) (by omega)
   simp only [Int.add_zero] at this
   exact ⟨_, _, _, _, this, rfl, rfl, rfl, rfl⟩
 obtain ⟨X, l1, l2, du, hc, x1, x2, x3, x4⟩ := hcl
 refine ⟨st2 3 10988 B2 0 C2 du 1000000 2000000 [] [] [] [] [X], X, l1, l2, B2, C2, du, walkF ?_ (by simp [crT]) (by omega) (by decide +kernel) (by simp [crT, Sorted]; omega) ?_, rfl, rfl, x1, x2, x3, x4, fun h => by omega, fun h => by omega⟩
 ·intro x hx
  simp only [crT, List.mem_cons, List.not_mem_nil, or_false] at hx
  rcases hx with rfl | rfl | rfl
  ·exact ⟨evErrF (by omega) (by omega) (by omega) (by omega) (by omega), by show (10957 : Int) ≤ _; omega⟩
  ·exact ⟨evErrF (by omega) (by omega) (by omega) (by omega) (by omega), by show (10957 : Int) ≤ _; omega⟩
  ·exact ⟨evErrF (by omega) (by omega) (by omega) (by omega) (by omega), by show 10957 + (D : Int) ≤ _; omega⟩
 ·rw [show allL 10957 1 10988 = [(10957, 10987), (10988, 11016)] by decide +kernel, show (10988 - 10957 : Int).toNat = (31 - D) + D by omega]
  refine walkD_ev1 (e := ⟨1, 10957, 1, F, 0⟩) rfl rfl (charge2 (a' := F) (b' := 0) (c' := 0) p0 (by omega) (by omega) (.inl rfl) (by omega) (.inl ⟨rfl, by rw [m0]; omega, rfl⟩) (by rw [m0]; rfl) p1) ?_ rfl
  refine walkD_ev1 (e := ⟨2, 10957, 0, P, 0⟩) rfl rfl hpay ?_ rfl
  show walkD tF (crT F P S D) 2 (31 - D + D) [(10957, 10987), (10988, 11016)] (st2 2 10957 B1 0 C1 0 1000000 2000000 [] [] [] [] []) = _
  rw [walkD_quiet (31 - D) D 10957 _ _ _ _ (by intro x hx; simp only [crT, List.getElem?_cons_succ, List.getElem?_cons_zero, Option.some.injEq] at hx; subst hx; show (10957 : Int) + D ≤ 10957 + D; omega) (by omega)]
  refine walkD_ev1 (e := ⟨1, 10957 + D, 1, S, 0⟩) rfl rfl (charge2 (a' := B2) (b' := 0) (c' := C2) p2 (by omega) (by omega) (.inl rfl) (by omega) (.inl ⟨rfl, hB2.symm, rfl⟩) hC2.symm p3) ?_ rfl
  show walkD tF (crT F P S D) 2 (31 - D) [(10957, 10987), (10988, 11016)] (st2 3 (10957 + D) B2 0 C2 0 1000000 2000000 ([] ++ List.replicate D B1) ([] ++ List.replicate D 0) ([] ++ List.replicate D 1000000) ([] ++ List.replicate D 2000000) []) = _
  rw [show 31 - D = 1 + (30 - D) by omega, walkD_quiet 1 (30 - D) (10957 + D) _ _ _ _ (by intro x hx; simp [crT] at hx) (by omega), show (10957 : Int) + D + ((30 - D : Nat) : Int) = 10987 by omega]
  exact walkD_close rfl (by intro x hx; simp [crT] at hx) hc (walkD_stop (by intro x hx; simp [st2, crT] at hx))
def grT (A P : Int) (D : Nat) : List Ev := [⟨1, 10957, 1, A, 0⟩, ⟨2, 10988 + D, 0, P, 0⟩]
theorem grace_walk {A P : Int} {D : Nat} (hA : 1000 ≤ A ∧ A ≤ 100999) (hP : P = A ∨ P = A - 1) (hD : D ≤ 27) :
  ∃ s X1 X2 l1 l2, walkR tF (grT A P D) 11020 = (s, 0) ∧ s.p.bal.length = 2 ∧ s.out = [X1, X2] ∧ X1.total = A ∧ X1.due = 11007 ∧ X2.grace = (decide (P = A) && decide ((D : Int) ≤ 19)) ∧ X2.lines = [l1, l2] ∧ ((decide (P = A) && decide ((D : Int) ≤ 19)) = true → l1.interest = 0 ∧ X2.total = 0) := by
 obtain ⟨g, hg⟩ : ∃ g, (decide (P = A) && decide ((D : Int) ≤ 19)) = g := ⟨_, rfl⟩
 obtain ⟨du, hdu⟩ : ∃ du, leastI 25 20 A = du := ⟨_, rfl⟩
 have hdu2 : 0 ≤ du ∧ du ≤ A := by rw [← hdu]; exact leastI_bd (by omega) (by omega)
 obtain ⟨du2, hdu3⟩ : ∃ z, du - minI P du = z := ⟨_, rfl⟩
 have hdu4 : 0 ≤ du2 ∧ du2 ≤ A := by rw [← hdu3]; unfold minI; split <;> omega
 have p0 : Ps.rightB ⟨[0, 0], 0, 0⟩ = true := by decide +kernel
 have p1 : Ps.rightB ⟨[A, 0], 0, 0⟩ = true := right2 (by omega) (by omega) (by omega) (by omega) (by omega) (.inl rfl)
 have p2 : Ps.rightB ⟨[A, 0], 0, du⟩ = true := right2 (by omega) (by omega) (by omega) (by omega) (by omega) (.inl rfl)
 have p3 : Ps.rightB ⟨[A - P, 0], 0, du2⟩ = true := right2 (by omega) (by omega) (by omega) (by omega) (by omega) (.inl rfl)
 have m0 : minI A 0 = 0 := by unfold minI; rw [if_neg (by omega)]
 have mP : minI P A = P := by unfold minI; rw [if_pos (by omega)]
 have hpay := pay2 (day := 10988 + D) (tr := 0) (re := 0) (m := P) p2 (by omega) (by omega) (by omega) (by rw [mP, hdu3, show P - P = 0 by omega]; exact p3)
 rw [mP, hdu3, show P - P = 0 by omega] at hpay
 obtain ⟨X1, hX1⟩ : ∃ X : Stm, (⟨1, 10957, 10987, 11007, A, 0, du, true, [⟨A, 0, 1000000⟩, ⟨0, 0, 2000000⟩]⟩ : Stm) = X := ⟨_, rfl⟩
 have hc1 : closeS tF (grT A P D) 2 (st2 1 10987 A 0 0 0 1000000 2000000 (([] ++ List.replicate 30 A) ++ [A]) (([] ++ List.replicate 30 0) ++ [0]) (([] ++ List.replicate 30 1000000) ++ [1000000]) (([] ++ List.replicate 30 2000000) ++ [2000000]) []) 10957 10987 = some (st2 1 10987 A 0 0 du 1000000 2000000 [] [] [] [] ([] ++ [X1])) := by
  have hz : ofR (([] ++ List.replicate 30 0) ++ [0]) (([] ++ List.replicate 30 2000000) ++ [2000000]) = (0, 0) := ofR_zero (all_app (all_app (by simp) (all_of rfl)) (all_one rfl))
  have := closeF (T := grT A P D) (i := 1) (day := 10987) (a := A) (b := 0) (du := 0) (r1 := 1000000) (r2 := 2000000) (fr := 10957) (te := 10987) (x1 := ([] ++ List.replicate 30 A) ++ [A]) (y1 := ([] ++ List.replicate 30 1000000) ++ [1000000]) (out := []) (g := true) (v1 := 0) rfl (.inl ⟨rfl, rfl⟩) hz (by omega) (by omega) (by omega) (by omega) (by omega) (by omega)
  simp only [Int.add_zero, hdu] at this
  rw [this, ← hX1]
  rfl
 have hfree : freeB ([] ++ [X1]) 10988 (grT A P D) = g := by
  rw [← hX1, ← hg]
  have h1 : ¬ A ≤ 0 := by omega
  by_cases hd : (D : Int) ≤ 19
  ·have q : payQ 10988 11007 ⟨2, 10988 + D, 0, P, 0⟩ = true := by simp [payQ]; omega
   have q0 : payQ 10988 11007 ⟨1, 10957, 1, A, 0⟩ = false := rfl
   have hm : minI P 1000000000000000 = P := by unfold minI; rw [if_pos (by omega)]
   have : paidS 10988 11007 (grT A P D) 0 = P := by simp [grT, paidS, q0, q, hm]
   show hasB A 10988 11007 (grT A P D) = _
   unfold hasB
   rw [this]
   rcases hP with h | h
   ·subst h; simp [h1, hd]
   ·have k1 : decide (A ≤ P) = false := by simp; omega
    have k2 : decide (P = A) = false := by simp; omega
    simp [h1, k1, k2]
  ·have q : payQ 10988 11007 ⟨2, 10988 + D, 0, P, 0⟩ = false := by simp [payQ]; omega
   have q0 : payQ 10988 11007 ⟨1, 10957, 1, A, 0⟩ = false := rfl
   have : paidS 10988 11007 (grT A P D) 0 = 0 := by simp [grT, paidS, q0, q]
   show hasB A 10988 11007 (grT A P D) = _
   unfold hasB
   rw [this]
   simp [h1, hd]
 have hc2 : ∃ X2 l1 l2 a d, closeS tF (grT A P D) 2 (st2 2 11016 (A - P) 0 0 du2 1000000 2000000 (([] ++ List.replicate D A ++ List.replicate (28 - D) (A - P)) ++ [A - P]) (([] ++ List.replicate D 0 ++ List.replicate (28 - D) 0) ++ [0]) (([] ++ List.replicate D 1000000 ++ List.replicate (28 - D) 1000000) ++ [1000000]) (([] ++ List.replicate D 2000000 ++ List.replicate (28 - D) 2000000) ++ [2000000]) ([] ++ [X1])) 10988 11016
   = some (st2 2 11016 a 0 0 d 1000000 2000000 [] [] [] [] ([] ++ [X1] ++ [X2])) ∧ X2.grace = g ∧ X2.lines = [l1, l2] ∧ (g = true → l1.interest = 0 ∧ X2.total = 0) := by
  have hz : ofR (([] ++ List.replicate D 0 ++ List.replicate (28 - D) 0) ++ [0]) (([] ++ List.replicate D 2000000 ++ List.replicate (28 - D) 2000000) ++ [2000000]) = (0, 0) :=
   ofR_zero (all_app (all_app (all_app (by simp) (all_of rfl)) (all_of rfl)) (all_one rfl))
  obtain ⟨e1, e2, e3, e4⟩ := ofR_ok (X := ([] ++ List.replicate D A ++ List.replicate (28 - D) (A - P)) ++ [A - P]) (Y := ([] ++ List.replicate D 1000000 ++ List.replicate (28 - D) (1000000 : Int)) ++ [1000000]) (A := A) (by omega) (by omega) (by simp; omega)
   (all_app (all_app (all_app (by simp) (all_of (by omega))) (all_of (by omega))) (all_one (by omega))) (all_app (all_app (all_app (by simp) (all_of (by omega))) (all_of (by omega))) (all_one (by omega)))
  obtain ⟨v, hv⟩ : ∃ v, ofR (([] ++ List.replicate D A ++ List.replicate (28 - D) (A - P)) ++ [A - P]) (([] ++ List.replicate D 1000000 ++ List.replicate (28 - D) (1000000 : Int)) ++ [1000000]) = (v, 0) := ⟨_, by rw [← e1]⟩
  rw [hv] at e2 e3
  simp only at e2 e3
  obtain ⟨v1, hv1, hv1b, hv0⟩ : ∃ v1, ((g = true ∧ v1 = 0) ∨ (g = false ∧ ofR (([] ++ List.replicate D A ++ List.replicate (28 - D) (A - P)) ++ [A - P]) (([] ++ List.replicate D 1000000 ++ List.replicate (28 - D) (1000000 : Int)) ++ [1000000]) = (v1, 0))) ∧ (0 ≤ v1 ∧ v1 ≤ A) ∧ (g = true → v1 = 0) := by
   rcases g with _ | _
   ·exact ⟨v, .inr ⟨rfl, hv⟩, ⟨e2, e3⟩, fun h => by cases h⟩
   ·exact ⟨0, .inl ⟨rfl, rfl⟩, by omega, fun _ => rfl⟩
  refine ⟨_, _, _, _, _, closeF hfree hv1 hz hv1b.1 (by omega) (by omega) (by omega) (by omega) (by omega), rfl, rfl, fun h => ⟨hv0 h, ?_⟩⟩
  have hPA : P = A := by rw [h] at hg; simp at hg; exact hg.1
  show A - P + v1 + (0 + 0) = 0
  rw [hv0 h]
  omega
 obtain ⟨X2, l1, l2, a, d, hc2, x1, x2, x3⟩ := hc2
 refine ⟨st2 2 11020 a 0 0 d 1000000 2000000 ([] ++ List.replicate 3 a) ([] ++ List.replicate 3 0) ([] ++ List.replicate 3 1000000) ([] ++ List.replicate 3 2000000) [X1, X2], X1, X2, l1, l2, walkF ?_ (by simp [grT]) (by omega) (by decide +kernel) (by simp [grT, Sorted]; omega) ?_, rfl, rfl, by rw [← hX1], by rw [← hX1], by rw [hg]; exact x1, x2, by rw [hg]; exact x3⟩
 ·intro x hx
  simp only [grT, List.mem_cons, List.not_mem_nil, or_false] at hx
  rcases hx with rfl | rfl
  ·exact ⟨evErrF (by omega) (by omega) (by omega) (by omega) (by omega), by show (10957 : Int) ≤ _; omega⟩
  ·exact ⟨evErrF (by omega) (by omega) (by omega) (by omega) (by omega), by show 10988 + (D : Int) ≤ _; omega⟩
 ·rw [show allL 10957 1 11020 = [(10957, 10987), (10988, 11016), (11017, 11047)] by decide +kernel, show (11020 - 10957 : Int).toNat = 33 + 30 by omega]
  refine walkD_ev1 (e := ⟨1, 10957, 1, A, 0⟩) rfl rfl (charge2 (a' := A) (b' := 0) (c' := 0) p0 (by omega) (by omega) (.inl rfl) (by omega) (.inl ⟨rfl, by rw [m0]; omega, rfl⟩) (by rw [m0]; rfl) p1) ?_ rfl
  show walkD tF (grT A P D) 2 (33 + 30) [(10957, 10987), (10988, 11016), (11017, 11047)] (st2 1 10957 A 0 0 0 1000000 2000000 [] [] [] [] []) = _
  rw [walkD_quiet 33 30 10957 _ _ _ _ (by intro x hx; simp only [grT, List.getElem?_cons_succ, List.getElem?_cons_zero, Option.some.injEq] at hx; subst hx; show (10957 : Int) + (30 : Nat) ≤ 10988 + D; omega) (by omega), show (10957 : Int) + ((30 : Nat) : Int) = 10987 by omega, show 33 = 32 + 1 by omega]
  refine walkD_close rfl (by intro x hx; simp only [grT, List.getElem?_cons_succ, List.getElem?_cons_zero, Option.some.injEq] at hx; subst hx; show ¬ 10988 + (D : Int) = 10987; omega) hc1 ?_
  rw [show 32 = (32 - D) + D by omega, show (10987 : Int) + 1 = 10988 by omega]
  rw [walkD_quiet (32 - D) D 10988 _ _ _ _ (by intro x hx; simp only [grT, List.getElem?_cons_succ, List.getElem?_cons_zero, Option.some.injEq] at hx; subst hx; show (10988 : Int) + D ≤ 10988 + D; omega) (by omega)]
  refine walkD_ev1 (e := ⟨2, 10988 + D, 0, P, 0⟩) rfl rfl hpay ?_ rfl
  show walkD tF (grT A P D) 2 (32 - D) [(10988, 11016), (11017, 11047)] (st2 2 (10988 + D) (A - P) 0 0 du2 1000000 2000000 ([] ++ List.replicate D A) ([] ++ List.replicate D 0) ([] ++ List.replicate D 1000000) ([] ++ List.replicate D 2000000) ([] ++ [X1])) = _
  rw [show 32 - D = 4 + (28 - D) by omega, walkD_quiet 4 (28 - D) (10988 + D) _ _ _ _ (by intro x hx; simp [grT] at hx) (by omega), show (10988 : Int) + D + ((28 - D : Nat) : Int) = 11016 by omega, show 4 = 3 + 1 by omega]
  refine walkD_close rfl (by intro x hx; simp [grT] at hx) hc2 ?_
  rw [show 3 = 0 + 3 by omega, show (11016 : Int) + 1 = 11017 by omega, walkD_quiet 0 3 11017 _ _ _ _ (by intro x hx; simp [grT] at hx) (by omega)]
  exact walkD_stop (by intro x hx; simp [st2, grT] at hx)
end Go.Proofs.Ythcmpcekmkioaaa
namespace Go.Proofs.Ythcmpcekmkioaaa
open Go.RowKit
set_option maxRecDepth 100000 in
set_option maxHeartbeats 3200000 in
theorem replayGrace_walk (w : World) (a : Int) (_ : (Lit.int .i64 a).wf = true) (d : Int) (_ : (Lit.int .i64 d).wf = true) (le : Bool) : Calls Try.prog 5 #[.int .i64 a, .int .i64 d, .bool le] w fun e w' => e = .returned (.bool true) ∧ Below w.heap.size w w' := by
 obtain ⟨f0, hf0⟩ : ∃ r, (IntKind.u64.wrap a).tmod 100000 = r := ⟨_, rfl⟩
 obtain ⟨dd, hd0⟩ : ∃ r, (IntKind.u64.wrap d).tmod 28 = r := ⟨_, rfl⟩
 have hu : ∀ x, 0 ≤ IntKind.u64.wrap x := fun x => by rw [IntKind.wrap_u64]; omega
 have f1 : 0 ≤ f0 := by rw [← hf0]; exact Int.tmod_nonneg _ (hu a)
 have f2 : f0 < 100000 := by rw [← hf0]; exact Int.tmod_lt_of_pos _ (by decide)
 have d1 : 0 ≤ dd := by rw [← hd0]; exact Int.tmod_nonneg _ (hu d)
 have d2 : dd < 28 := by rw [← hd0]; exact Int.tmod_lt_of_pos _ (by decide)
 obtain ⟨D, hD⟩ : ∃ D : Nat, dd = D := ⟨dd.toNat, by omega⟩
 subst hD
 rcases le with _ | _
 ·by_cases hd19 : (D : Int) ≤ 19
  ·skip
   obtain ⟨s, X1, X2, l1, l2, hw, hn, ho, hX1, hX2, hX3, hX4, hX5⟩ := grace_walk (A := 1000 + f0) (P := 1000 + f0) (D := D) (by omega) (by omega) (by omega)
   rw [show (decide (1000 + f0 = 1000 + f0) && decide ((D : Int) ≤ 19)) = true by simp; try omega] at hX3 hX5
   have hrun := fun ad1 ad2 W h1 h2 => repRun_any tF ad1 2 2 (grT (1000 + f0) (1000 + f0) D) ad2 2 2 11020 W rfl h1 rfl h2 (by decide) (by decide)
   rw [hw] at hrun
   obtain ⟨si, sd, ⟨sb, sc, su⟩, sR, se0, se1, so⟩ := s
   obtain ⟨ya0, ya1, ya2, ya3, ya5, ya6, ya7, ya8, ya4⟩ := X1
   obtain ⟨yb0, yb1, yb2, yb3, yb5, yb6, yb7, yb8, yb4⟩ := X2
   obtain ⟨lb, li, lr⟩ := l1
   simp only at hn ho hX1 hX2 hX3 hX4 hX5
   subst ho hX1 hX2 hX3 hX4
   simp only [tF] at hrun
   clear hw
   obtain ⟨h1, h2⟩ := hX5 trivial
   subst h1 h2
   obtain ⟨Hrun, Hu⟩ := hid2 hrun hu; clear hu hrun
   go_enter Try.func5, Try.ntmps5
   go_wp2_with (go_at_call 21; (with_reducible refine (flat19_any _).mono ?_); rintro e w1 ⟨TB, rfl, hr1, hk1⟩; have Hr1 := Lib.hid hr1; have Hk1 := Lib.hid hk1; clear hr1 hk1; refine haltW ?_)
   refine Lib.hid ?_
   go_wp2_with fail
   refine (Hrun.out (some ⟨TB, 0, none⟩) (some ⟨w1.heap.size + 1, 0, none⟩) _ ((Hr1.out.alloc _).alloc _) (Reads.litAt _ _ _ _ _ _ (by simp) rfl)).mono ?_
   rintro e w2 (⟨hz, vb, vr, vo, Q, rfl, hres⟩ | ⟨hz, _⟩)
   rotate_left
   ·exact absurd rfl hz
   obtain ⟨xa, xc, xa', xc', rfl⟩ := map_two hres.lp
   obtain ⟨ab, cb, rfl, _⟩ := ownsRow_shape hres.bal
   have hs : w2.ownsRow 0 49 9 vo 2 _ := hres.out
   have hl : w2.ownsRow 0 56 3 (.slice xa' 2 xc') 2 ([⟨lb, 0, lr⟩, l2].flatMap Ln.cells) := hres.ln ⟨_, xa', xc'⟩ (List.mem_cons_of_mem _ (List.mem_cons_self ..))
   obtain ⟨gs, cs, rfl, _⟩ := owns_some hs (by decide)
   obtain ⟨gl, cl, hle, _⟩ := owns_some hl (by decide)
   simp only [Value.slice.injEq, true_and] at hle
   obtain ⟨rfl, rfl⟩ := hle
   have hkr : Keeps (fun _ => False) w w2 := (Hk1.out.nt (Keeps.alloc _ _).trans_alloc).nt hres.kp
   obtain ⟨Hs, Hl, Hres, Hkr⟩ := hid4 hs hl hres hkr; clear hkr hres hl hs
   go_wp2_with (go_at_call 11; (with_reducible refine (awake19_any _).mono ?_); rintro e w3 ⟨rfl, hk3⟩; have Hk3 := Lib.hid hk3; clear hk3; refine haltW ?_)
   refine Lib.hid ?_
   have hk23 : Keeps (fun _ => False) w2 w3 := (Keeps.alloc w2 _).nt Hk3.out
   have hs3 := Hs.out.of_keeps hk23
   have hl3 := Hl.out.of_keeps hk23
   have m0 : (w3).cell? ⟨gs, 0 * 9 + 0, none⟩ = _ := owns_elem SV.cells_length hs3 (k := 0) rfl 0 (by decide)
   have m1 : (w3).cell? ⟨gs, 0 * 9 + 1, none⟩ = _ := owns_elem SV.cells_length hs3 (k := 0) rfl 1 (by decide)
   have m2 : (w3).cell? ⟨gs, 0 * 9 + 2, none⟩ = _ := owns_elem SV.cells_length hs3 (k := 0) rfl 2 (by decide)
   have m3 : (w3).cell? ⟨gs, 0 * 9 + 3, none⟩ = _ := owns_elem SV.cells_length hs3 (k := 0) rfl 3 (by decide)
   have m4 : (w3).cell? ⟨gs, 0 * 9 + 4, none⟩ = _ := owns_elem SV.cells_length hs3 (k := 0) rfl 4 (by decide)
   have m5 : (w3).cell? ⟨gs, 0 * 9 + 5, none⟩ = _ := owns_elem SV.cells_length hs3 (k := 0) rfl 5 (by decide)
   have m6 : (w3).cell? ⟨gs, 0 * 9 + 6, none⟩ = _ := owns_elem SV.cells_length hs3 (k := 0) rfl 6 (by decide)
   have m7 : (w3).cell? ⟨gs, 0 * 9 + 7, none⟩ = _ := owns_elem SV.cells_length hs3 (k := 0) rfl 7 (by decide)
   have m8 : (w3).cell? ⟨gs, 0 * 9 + 8, none⟩ = _ := owns_elem SV.cells_length hs3 (k := 0) rfl 8 (by decide)
   simp only [SV.cells, SV.v, Nat.reduceMul, Nat.reduceAdd, List.getElem?_cons_zero, List.getElem?_cons_succ, List.length_cons, List.length_nil] at m0 m1 m2 m3 m4 m5 m6 m7 m8
   have k0 : (w3).cell? ⟨gs, 1 * 9 + 0, none⟩ = _ := owns_elem SV.cells_length hs3 (k := 1) rfl 0 (by decide)
   have k1 : (w3).cell? ⟨gs, 1 * 9 + 1, none⟩ = _ := owns_elem SV.cells_length hs3 (k := 1) rfl 1 (by decide)
   have k2 : (w3).cell? ⟨gs, 1 * 9 + 2, none⟩ = _ := owns_elem SV.cells_length hs3 (k := 1) rfl 2 (by decide)
   have k3 : (w3).cell? ⟨gs, 1 * 9 + 3, none⟩ = _ := owns_elem SV.cells_length hs3 (k := 1) rfl 3 (by decide)
   have k4 : (w3).cell? ⟨gs, 1 * 9 + 4, none⟩ = _ := owns_elem SV.cells_length hs3 (k := 1) rfl 4 (by decide)
   have k5 : (w3).cell? ⟨gs, 1 * 9 + 5, none⟩ = _ := owns_elem SV.cells_length hs3 (k := 1) rfl 5 (by decide)
   have k6 : (w3).cell? ⟨gs, 1 * 9 + 6, none⟩ = _ := owns_elem SV.cells_length hs3 (k := 1) rfl 6 (by decide)
   have k7 : (w3).cell? ⟨gs, 1 * 9 + 7, none⟩ = _ := owns_elem SV.cells_length hs3 (k := 1) rfl 7 (by decide)
   have k8 : (w3).cell? ⟨gs, 1 * 9 + 8, none⟩ = _ := owns_elem SV.cells_length hs3 (k := 1) rfl 8 (by decide)
   simp only [SV.cells, SV.v, Nat.reduceMul, Nat.reduceAdd, List.getElem?_cons_zero, List.getElem?_cons_succ, List.length_cons, List.length_nil] at k0 k1 k2 k3 k4 k5 k6 k7 k8
   have n1 : w3.cell? ⟨gl, 1, none⟩ = some (.int .i64 0) := owns_elem Ln.cells_length hl3 (k := 0) (x := ⟨lb, 0, lr⟩) rfl 1 (by decide)
   have ml := cell_lt m0
   have nl := cell_lt n1
   have hkf := Hkr.out.nt hk23
   obtain ⟨Hk23, Hs3, Hl3, Hkf⟩ := hid4 hk23 hs3 hl3 hkf; clear hkf hl3 hs3 hk23
   go_wp2
   go_ret
   exact ⟨rfl, Hkf.out.below (by simp) (Nat.le_refl _)⟩
  ·skip
   obtain ⟨s, X1, X2, l1, l2, hw, hn, ho, hX1, hX2, hX3, hX4, hX5⟩ := grace_walk (A := 1000 + f0) (P := 1000 + f0) (D := D) (by omega) (by omega) (by omega)
   rw [show (decide (1000 + f0 = 1000 + f0) && decide ((D : Int) ≤ 19)) = false by simp; try omega] at hX3 hX5
   have hrun := fun ad1 ad2 W h1 h2 => repRun_any tF ad1 2 2 (grT (1000 + f0) (1000 + f0) D) ad2 2 2 11020 W rfl h1 rfl h2 (by decide) (by decide)
   rw [hw] at hrun
   obtain ⟨si, sd, ⟨sb, sc, su⟩, sR, se0, se1, so⟩ := s
   obtain ⟨ya0, ya1, ya2, ya3, ya5, ya6, ya7, ya8, ya4⟩ := X1
   obtain ⟨yb0, yb1, yb2, yb3, yb5, yb6, yb7, yb8, yb4⟩ := X2
   obtain ⟨lb, li, lr⟩ := l1
   simp only at hn ho hX1 hX2 hX3 hX4 hX5
   subst ho hX1 hX2 hX3 hX4
   simp only [tF] at hrun
   clear hw
   clear hX5
   obtain ⟨Hrun, Hu⟩ := hid2 hrun hu; clear hu hrun
   go_enter Try.func5, Try.ntmps5
   go_wp2_with (go_at_call 21; (with_reducible refine (flat19_any _).mono ?_); rintro e w1 ⟨TB, rfl, hr1, hk1⟩; have Hr1 := Lib.hid hr1; have Hk1 := Lib.hid hk1; clear hr1 hk1; refine haltW ?_)
   refine Lib.hid ?_
   go_wp2_with fail
   refine (Hrun.out (some ⟨TB, 0, none⟩) (some ⟨w1.heap.size + 1, 0, none⟩) _ ((Hr1.out.alloc _).alloc _) (Reads.litAt _ _ _ _ _ _ (by simp) rfl)).mono ?_
   rintro e w2 (⟨hz, vb, vr, vo, Q, rfl, hres⟩ | ⟨hz, _⟩)
   rotate_left
   ·exact absurd rfl hz
   obtain ⟨xa, xc, xa', xc', rfl⟩ := map_two hres.lp
   obtain ⟨ab, cb, rfl, _⟩ := ownsRow_shape hres.bal
   have hs : w2.ownsRow 0 49 9 vo 2 _ := hres.out
   have hl : w2.ownsRow 0 56 3 (.slice xa' 2 xc') 2 ([⟨lb, li, lr⟩, l2].flatMap Ln.cells) := hres.ln ⟨_, xa', xc'⟩ (List.mem_cons_of_mem _ (List.mem_cons_self ..))
   obtain ⟨gs, cs, rfl, _⟩ := owns_some hs (by decide)
   obtain ⟨gl, cl, hle, _⟩ := owns_some hl (by decide)
   simp only [Value.slice.injEq, true_and] at hle
   obtain ⟨rfl, rfl⟩ := hle
   have hkr : Keeps (fun _ => False) w w2 := (Hk1.out.nt (Keeps.alloc _ _).trans_alloc).nt hres.kp
   obtain ⟨Hs, Hl, Hres, Hkr⟩ := hid4 hs hl hres hkr; clear hkr hres hl hs
   go_wp2_with (go_at_call 11; (with_reducible refine (awake19_any _).mono ?_); rintro e w3 ⟨rfl, hk3⟩; have Hk3 := Lib.hid hk3; clear hk3; refine haltW ?_)
   refine Lib.hid ?_
   have hk23 : Keeps (fun _ => False) w2 w3 := (Keeps.alloc w2 _).nt Hk3.out
   have hs3 := Hs.out.of_keeps hk23
   have hl3 := Hl.out.of_keeps hk23
   have m0 : (w3).cell? ⟨gs, 0 * 9 + 0, none⟩ = _ := owns_elem SV.cells_length hs3 (k := 0) rfl 0 (by decide)
   have m1 : (w3).cell? ⟨gs, 0 * 9 + 1, none⟩ = _ := owns_elem SV.cells_length hs3 (k := 0) rfl 1 (by decide)
   have m2 : (w3).cell? ⟨gs, 0 * 9 + 2, none⟩ = _ := owns_elem SV.cells_length hs3 (k := 0) rfl 2 (by decide)
   have m3 : (w3).cell? ⟨gs, 0 * 9 + 3, none⟩ = _ := owns_elem SV.cells_length hs3 (k := 0) rfl 3 (by decide)
   have m4 : (w3).cell? ⟨gs, 0 * 9 + 4, none⟩ = _ := owns_elem SV.cells_length hs3 (k := 0) rfl 4 (by decide)
   have m5 : (w3).cell? ⟨gs, 0 * 9 + 5, none⟩ = _ := owns_elem SV.cells_length hs3 (k := 0) rfl 5 (by decide)
   have m6 : (w3).cell? ⟨gs, 0 * 9 + 6, none⟩ = _ := owns_elem SV.cells_length hs3 (k := 0) rfl 6 (by decide)
   have m7 : (w3).cell? ⟨gs, 0 * 9 + 7, none⟩ = _ := owns_elem SV.cells_length hs3 (k := 0) rfl 7 (by decide)
   have m8 : (w3).cell? ⟨gs, 0 * 9 + 8, none⟩ = _ := owns_elem SV.cells_length hs3 (k := 0) rfl 8 (by decide)
   simp only [SV.cells, SV.v, Nat.reduceMul, Nat.reduceAdd, List.getElem?_cons_zero, List.getElem?_cons_succ, List.length_cons, List.length_nil] at m0 m1 m2 m3 m4 m5 m6 m7 m8
   have k0 : (w3).cell? ⟨gs, 1 * 9 + 0, none⟩ = _ := owns_elem SV.cells_length hs3 (k := 1) rfl 0 (by decide)
   have k1 : (w3).cell? ⟨gs, 1 * 9 + 1, none⟩ = _ := owns_elem SV.cells_length hs3 (k := 1) rfl 1 (by decide)
   have k2 : (w3).cell? ⟨gs, 1 * 9 + 2, none⟩ = _ := owns_elem SV.cells_length hs3 (k := 1) rfl 2 (by decide)
   have k3 : (w3).cell? ⟨gs, 1 * 9 + 3, none⟩ = _ := owns_elem SV.cells_length hs3 (k := 1) rfl 3 (by decide)
   have k4 : (w3).cell? ⟨gs, 1 * 9 + 4, none⟩ = _ := owns_elem SV.cells_length hs3 (k := 1) rfl 4 (by decide)
   have k5 : (w3).cell? ⟨gs, 1 * 9 + 5, none⟩ = _ := owns_elem SV.cells_length hs3 (k := 1) rfl 5 (by decide)
   have k6 : (w3).cell? ⟨gs, 1 * 9 + 6, none⟩ = _ := owns_elem SV.cells_length hs3 (k := 1) rfl 6 (by decide)
   have k7 : (w3).cell? ⟨gs, 1 * 9 + 7, none⟩ = _ := owns_elem SV.cells_length hs3 (k := 1) rfl 7 (by decide)
   have k8 : (w3).cell? ⟨gs, 1 * 9 + 8, none⟩ = _ := owns_elem SV.cells_length hs3 (k := 1) rfl 8 (by decide)
   simp only [SV.cells, SV.v, Nat.reduceMul, Nat.reduceAdd, List.getElem?_cons_zero, List.getElem?_cons_succ, List.length_cons, List.length_nil] at k0 k1 k2 k3 k4 k5 k6 k7 k8
   have n1 : w3.cell? ⟨gl, 1, none⟩ = some (.int .i64 li) := owns_elem Ln.cells_length hl3 (k := 0) (x := ⟨lb, li, lr⟩) rfl 1 (by decide)
   have ml := cell_lt m0
   have nl := cell_lt n1
   have hkf := Hkr.out.nt hk23
   obtain ⟨Hk23, Hs3, Hl3, Hkf⟩ := hid4 hk23 hs3 hl3 hkf; clear hkf hl3 hs3 hk23
   go_wp2
   go_ret
   exact ⟨rfl, Hkf.out.below (by simp) (Nat.le_refl _)⟩
 ·skip
  obtain ⟨s, X1, X2, l1, l2, hw, hn, ho, hX1, hX2, hX3, hX4, hX5⟩ := grace_walk (A := 1000 + f0) (P := 1000 + f0 - 1) (D := D) (by omega) (by omega) (by omega)
  rw [show (decide (1000 + f0 - 1 = 1000 + f0) && decide ((D : Int) ≤ 19)) = false by simp; try omega] at hX3 hX5
  have hrun := fun ad1 ad2 W h1 h2 => repRun_any tF ad1 2 2 (grT (1000 + f0) (1000 + f0 - 1) D) ad2 2 2 11020 W rfl h1 rfl h2 (by decide) (by decide)
  rw [hw] at hrun
  obtain ⟨si, sd, ⟨sb, sc, su⟩, sR, se0, se1, so⟩ := s
  obtain ⟨ya0, ya1, ya2, ya3, ya5, ya6, ya7, ya8, ya4⟩ := X1
  obtain ⟨yb0, yb1, yb2, yb3, yb5, yb6, yb7, yb8, yb4⟩ := X2
  obtain ⟨lb, li, lr⟩ := l1
  simp only at hn ho hX1 hX2 hX3 hX4 hX5
  subst ho hX1 hX2 hX3 hX4
  simp only [tF] at hrun
  clear hw
  clear hX5
  obtain ⟨Hrun, Hu⟩ := hid2 hrun hu; clear hu hrun
  go_enter Try.func5, Try.ntmps5
  go_wp2_with (go_at_call 21; (with_reducible refine (flat19_any _).mono ?_); rintro e w1 ⟨TB, rfl, hr1, hk1⟩; have Hr1 := Lib.hid hr1; have Hk1 := Lib.hid hk1; clear hr1 hk1; refine haltW ?_)
  refine Lib.hid ?_
  go_wp2_with fail
  refine (Hrun.out (some ⟨TB, 0, none⟩) (some ⟨w1.heap.size + 1, 0, none⟩) _ ((Hr1.out.alloc _).alloc _) (Reads.litAt _ _ _ _ _ _ (by simp) rfl)).mono ?_
  rintro e w2 (⟨hz, vb, vr, vo, Q, rfl, hres⟩ | ⟨hz, _⟩)
  rotate_left
  ·exact absurd rfl hz
  obtain ⟨xa, xc, xa', xc', rfl⟩ := map_two hres.lp
  obtain ⟨ab, cb, rfl, _⟩ := ownsRow_shape hres.bal
  have hs : w2.ownsRow 0 49 9 vo 2 _ := hres.out
  have hl : w2.ownsRow 0 56 3 (.slice xa' 2 xc') 2 ([⟨lb, li, lr⟩, l2].flatMap Ln.cells) := hres.ln ⟨_, xa', xc'⟩ (List.mem_cons_of_mem _ (List.mem_cons_self ..))
  obtain ⟨gs, cs, rfl, _⟩ := owns_some hs (by decide)
  obtain ⟨gl, cl, hle, _⟩ := owns_some hl (by decide)
  simp only [Value.slice.injEq, true_and] at hle
  obtain ⟨rfl, rfl⟩ := hle
  have hkr : Keeps (fun _ => False) w w2 := (Hk1.out.nt (Keeps.alloc _ _).trans_alloc).nt hres.kp
  obtain ⟨Hs, Hl, Hres, Hkr⟩ := hid4 hs hl hres hkr; clear hkr hres hl hs
  go_wp2_with (go_at_call 11; (with_reducible refine (awake19_any _).mono ?_); rintro e w3 ⟨rfl, hk3⟩; have Hk3 := Lib.hid hk3; clear hk3; refine haltW ?_)
  refine Lib.hid ?_
  have hk23 : Keeps (fun _ => False) w2 w3 := (Keeps.alloc w2 _).nt Hk3.out
  have hs3 := Hs.out.of_keeps hk23
  have hl3 := Hl.out.of_keeps hk23
  have m0 : (w3).cell? ⟨gs, 0 * 9 + 0, none⟩ = _ := owns_elem SV.cells_length hs3 (k := 0) rfl 0 (by decide)
  have m1 : (w3).cell? ⟨gs, 0 * 9 + 1, none⟩ = _ := owns_elem SV.cells_length hs3 (k := 0) rfl 1 (by decide)
  have m2 : (w3).cell? ⟨gs, 0 * 9 + 2, none⟩ = _ := owns_elem SV.cells_length hs3 (k := 0) rfl 2 (by decide)
  have m3 : (w3).cell? ⟨gs, 0 * 9 + 3, none⟩ = _ := owns_elem SV.cells_length hs3 (k := 0) rfl 3 (by decide)
  have m4 : (w3).cell? ⟨gs, 0 * 9 + 4, none⟩ = _ := owns_elem SV.cells_length hs3 (k := 0) rfl 4 (by decide)
  have m5 : (w3).cell? ⟨gs, 0 * 9 + 5, none⟩ = _ := owns_elem SV.cells_length hs3 (k := 0) rfl 5 (by decide)
  have m6 : (w3).cell? ⟨gs, 0 * 9 + 6, none⟩ = _ := owns_elem SV.cells_length hs3 (k := 0) rfl 6 (by decide)
  have m7 : (w3).cell? ⟨gs, 0 * 9 + 7, none⟩ = _ := owns_elem SV.cells_length hs3 (k := 0) rfl 7 (by decide)
  have m8 : (w3).cell? ⟨gs, 0 * 9 + 8, none⟩ = _ := owns_elem SV.cells_length hs3 (k := 0) rfl 8 (by decide)
  simp only [SV.cells, SV.v, Nat.reduceMul, Nat.reduceAdd, List.getElem?_cons_zero, List.getElem?_cons_succ, List.length_cons, List.length_nil] at m0 m1 m2 m3 m4 m5 m6 m7 m8
  have k0 : (w3).cell? ⟨gs, 1 * 9 + 0, none⟩ = _ := owns_elem SV.cells_length hs3 (k := 1) rfl 0 (by decide)
  have k1 : (w3).cell? ⟨gs, 1 * 9 + 1, none⟩ = _ := owns_elem SV.cells_length hs3 (k := 1) rfl 1 (by decide)
  have k2 : (w3).cell? ⟨gs, 1 * 9 + 2, none⟩ = _ := owns_elem SV.cells_length hs3 (k := 1) rfl 2 (by decide)
  have k3 : (w3).cell? ⟨gs, 1 * 9 + 3, none⟩ = _ := owns_elem SV.cells_length hs3 (k := 1) rfl 3 (by decide)
  have k4 : (w3).cell? ⟨gs, 1 * 9 + 4, none⟩ = _ := owns_elem SV.cells_length hs3 (k := 1) rfl 4 (by decide)
  have k5 : (w3).cell? ⟨gs, 1 * 9 + 5, none⟩ = _ := owns_elem SV.cells_length hs3 (k := 1) rfl 5 (by decide)
  have k6 : (w3).cell? ⟨gs, 1 * 9 + 6, none⟩ = _ := owns_elem SV.cells_length hs3 (k := 1) rfl 6 (by decide)
  have k7 : (w3).cell? ⟨gs, 1 * 9 + 7, none⟩ = _ := owns_elem SV.cells_length hs3 (k := 1) rfl 7 (by decide)
  have k8 : (w3).cell? ⟨gs, 1 * 9 + 8, none⟩ = _ := owns_elem SV.cells_length hs3 (k := 1) rfl 8 (by decide)
  simp only [SV.cells, SV.v, Nat.reduceMul, Nat.reduceAdd, List.getElem?_cons_zero, List.getElem?_cons_succ, List.length_cons, List.length_nil] at k0 k1 k2 k3 k4 k5 k6 k7 k8
  have n1 : w3.cell? ⟨gl, 1, none⟩ = some (.int .i64 li) := owns_elem Ln.cells_length hl3 (k := 0) (x := ⟨lb, li, lr⟩) rfl 1 (by decide)
  have ml := cell_lt m0
  have nl := cell_lt n1
  have hkf := Hkr.out.nt hk23
  obtain ⟨Hk23, Hs3, Hl3, Hkf⟩ := hid4 hk23 hs3 hl3 hkf; clear hkf hl3 hs3 hk23
  go_wp2
  go_ret
  exact ⟨rfl, Hkf.out.below (by simp) (Nat.le_refl _)⟩
end Go.Proofs.Ythcmpcekmkioaaa
namespace Go.Proofs.Ythcmpcekmkioaaa.replayGrace
open Go.ChangeShapes Go.WideShapes Go.ChangeAt Go.RowKit Go.Deep
set_option maxRecDepth 100000 in
theorem lifted (os : Os) (started : os.Started) (H : Type) (enc : TypeId × Value → H) :
  ReturnsInHanded {} Try.checked os 5 .any (Rows.replayGraceSpec.pre6 enc Try.prog Try.f5 Rows.replayGraceRow.domain false) (Rows.replayGraceSpec.post enc Try.prog Try.f5 false true false false) := by
 refine returnsInHanded_of_change (C := Try.checked) own started (by kernel_rfl) Try.func5
  (ChangeSpec.witness6 (enc := enc) (C := Try.checked) false ⟨#[], #[.int .i64 0, .int .i64 0, .bool false], []⟩ 8 (by kernel_rfl) (by kernel_rfl) (by kernel_rfl) (by kernel_rfl)) ?_
 intro W base args ds gs before hval0 hW hcnd _
 have hval : ∀ (j : Nat) t v, Try.f5.params[j]? = some t → args[j]? = some v → Value.okWide Try.prog W .any base t v := hval0
 have hW' := hW
 obtain ⟨p, q, hA0, hV, rfl, hfz, hnd⟩ := hW
 have hA : DataW.TrodAll enc Try.prog W 0 (fun _ => true) true Try.f5.params.toList args.toList ds p := hA0
 rw [Try.params5] at hA hval
 obtain ⟨v0, vs0, d0, ds0, p0, q0, hargs, rfl, rfl, h0, r0⟩ := trodAll_cons hA
 obtain ⟨v1, vs1, d1, ds1, p1, q1, rfl, rfl, rfl, h1, r1⟩ := trodAll_cons r0
 obtain ⟨v2, vs2, d2, ds2, p2, q2, rfl, rfl, rfl, h2, r2⟩ := trodAll_cons r1
 obtain ⟨rfl, rfl, rfl⟩ := trodAll_nil r2
 obtain rfl : args = #[v0, v1, v2] := by cases args; simp_all
 obtain ⟨rfl, rfl⟩ := trodVars_none hV
 obtain ⟨a0, rfl, rfl, rfl, w0⟩ := open_int Try.underlying2 (hval 0 2 v0 rfl rfl) h0
 obtain ⟨a1, rfl, rfl, rfl, w1⟩ := open_int Try.underlying3 (hval 1 3 v1 rfl rfl) h1
 obtain ⟨a2, rfl, rfl, rfl⟩ := open_bool Try.underlying4 (hval 2 4 v2 rfl rfl) h2
 clear hA0 hval0
 refine (replayGrace_walk W a0 w0 a1 w1 a2).mono fun e W' ⟨he, bel⟩ => ?_
 subst he
 exact ⟨_, rfl, _, _, _, [], _, [], hW', trodAll_mk1 (shut_bool Try.underlying4 _), (trodAll_cons_mk (shut_int Try.underlying2 w0) (trodAll_cons_mk (shut_int Try.underlying3 w1) (trodAll_cons_mk (shut_bool Try.underlying4 _) trodAll_mk0))), rfl, bel.frame _, fun h => by cases h⟩
theorem over : Rows.replayGraceRow.holds Try.pinned (OpenSpec.ofChange Rows.replayGraceSpec) :=
 OpenClaim.holds_of_wide 5 Try.f5 rfl rfl rfl rfl rfl rfl rfl ⟨rfl, rfl, rfl, rfl, rfl⟩ rfl rfl rfl rfl rfl (by kernel_rfl) Try.func5 (by kernel_rfl)
  (of_decide_eq_true (by kernel_rfl)) (by unfold Func.isWrapper; first | (rw [if_pos (by decide +kernel)]; kernel_rfl) | (rw [if_neg (by decide +kernel)]; exact ⟨rfl, rfl⟩))
  (fun os started H enc _ => lifted os started H enc)
theorem proved : Rows.ReplayGraceSaid := over
#print axioms proved
end Go.Proofs.Ythcmpcekmkioaaa.replayGrace
