/-
  ReplayHolds: for every input the law returns true, and each argument reads behind the call as it read before. No condition.
-/
import Derived.Test.YthcmpcekmkioaaaB10
namespace Go.Proofs.Ythcmpcekmkioaaa
open Go.RowKit
def dbl : Nat → Int
 | 0 => 1
 | n + 1 => 2 * dbl n
theorem dbl_pos : ∀ n, 1 ≤ dbl n
 | 0 => by decide
 | n + 1 => by have := dbl_pos n; simp only [dbl]; omega
def hdT (A : Int) : List Ev := [⟨1, 10957, 1, A, 0⟩]
def hbT (A H D : Int) : List Ev := [⟨1, 10957, 1, A, 0⟩, ⟨4, 10957 + D, 1, H, 1⟩, ⟨5, 10957 + D, 1, H, 1⟩]
theorem free_hold (out : List Stm) (fr A H D : Int) : freeB out fr (hbT A H D) = freeB out fr (hdT A) := by
 unfold freeB
 split
 ·rfl
 ·unfold hasB
  simp [paidS, hbT, hdT, payQ]
def hSt (i : Nat) (day a du : Int) (k : Nat) (out : List Stm) : St := st2 i day a 0 0 du 1000000 2000000 (List.replicate k a) (List.replicate k 0) (List.replicate k 1000000) (List.replicate k 2000000) out
def HGo (A H D : Int) (d : Nat) (S : List (Int × Int)) (day a du : Int) (k : Nat) (out : List Stm) (j : Nat) : Prop :=
 ∃ s1 s2, walkD tF (hdT A) 2 d S (hSt 1 day a du k out) = (s1, 0) ∧ walkD tF (hbT A H D) 2 d S (hSt j day a du k out) = (s2, 0) ∧ s1.p = s2.p ∧ s1.out = s2.out ∧ s1.p.bal.length = 2
theorem rep_in {n : Nat} {a x : Int} (h : x ∈ List.replicate n a) : x = a := (List.mem_replicate.1 h).2
theorem rep_snoc (n : Nat) (a : Int) : List.replicate n a ++ [a] = List.replicate (n + 1) a := List.replicate_succ'.symm
theorem hold_back {A H D a du : Int} {day : Int} {k : Nat} {out : List Stm} {d : Nat} {S : List (Int × Int)} (hH : 1 ≤ H ∧ H ≤ a) (ha : a ≤ 1000000000) (hdu : 0 ≤ du ∧ du ≤ 1000000000) (hday : day = 10957 + D) (h : HGo A H D d S day a du k out 3) : HGo A H D d S day a du k out 1 := by
 obtain ⟨s1, s2, h1, h2, h3, h4, h5⟩ := h
 have p0 : Ps.rightB ⟨[a, 0], 0, du⟩ = true := right2 (by omega) (by omega) (by omega) (by omega) (by omega) (.inl rfl)
 have p1 : Ps.rightB ⟨[a - H, 0], 0, du⟩ = true := right2 (by omega) (by omega) (by omega) (by omega) (by omega) (.inl rfl)
 have m0 : minI H 0 = 0 := by unfold minI; rw [if_neg (by omega)]
 refine ⟨s1, s2, h1, ?_, h3, h4, h5⟩
 refine walkD_ev1 (e := ⟨4, 10957 + D, 1, H, 1⟩) rfl hday.symm (give2 (a' := a - H) (b' := 0) p0 (by omega) (by omega) (by omega) (by omega) (.inr rfl) (by omega) (.inl ⟨rfl, hH.2, rfl, rfl⟩) p1) ?_ rfl
 refine walkD_ev1 (e := ⟨5, 10957 + D, 1, H, 1⟩) rfl hday.symm (charge2 (a' := a) (b' := 0) (c' := 0) p1 (by omega) (by omega) (.inr rfl) (by omega) (.inl ⟨rfl, by rw [m0]; omega, rfl⟩) (by rw [m0]; rfl) p0) ?_ rfl
 exact h2
theorem holds_go {A H D : Int} (hH : 1 ≤ H) : ∀ (d : Nat) (fr te : Int) (S : List (Int × Int)) (day a du : Int) (k : Nat) (out : List Stm) (j : Nat), SpanC (day + d) fr ((fr, te) :: S) → fr + k = day → day ≤ te → H ≤ a → a * dbl S.length ≤ 1000000000 → 0 ≤ du → du ≤ 1000000000 → (j = 1 ∧ day ≤ 10957 + D) ∨ j = 3 → HGo A H D d ((fr, te) :: S) day a du k out j := by
 intro d
 induction d with
 | zero =>
  intro fr te S day a du k out j hS hk hte hHa hb hd0 hd1 hj
  have hdp := dbl_pos S.length
  have ha : a ≤ 1000000000 := by
   have : a * 1 ≤ a * dbl S.length := Int.mul_le_mul_of_nonneg_left hdp (by omega)
   omega
  have key : ∀ j, (∀ x, (hbT A H D)[j]? = some x → ¬ x.day = day) → HGo A H D 0 ((fr, te) :: S) day a du k out j := fun j hq => ⟨_, _, walkD_stop (by intro x hx; simp [hSt, st2, hdT] at hx), walkD_stop hq, rfl, rfl, rfl⟩
  by_cases hq : j = 1 ∧ day = 10957 + D
  ·obtain ⟨rfl, hday⟩ := hq
   exact hold_back ⟨hH, hHa⟩ ha ⟨hd0, hd1⟩ hday (key 3 (by intro x hx; simp [hbT] at hx))
  ·refine key j (fun x hx => ?_)
   rcases hj with ⟨rfl, hj⟩ | rfl
   ·simp only [hbT, List.getElem?_cons_succ, List.getElem?_cons_zero, Option.some.injEq] at hx
    subst hx
    show ¬ 10957 + D = day
    omega
   ·simp [hbT] at hx
 | succ d ih =>
  intro fr te S day a du k out j hS hk hte hHa hb hd0 hd1 hj
  have hdp := dbl_pos S.length
  have ha : a ≤ 1000000000 := by
   have : a * 1 ≤ a * dbl S.length := Int.mul_le_mul_of_nonneg_left hdp (by omega)
   omega
  have key : ∀ j, (j = 1 ∧ day < 10957 + D) ∨ j = 3 → HGo A H D (d + 1) ((fr, te) :: S) day a du k out j := fun j hq => by
   have hq1 : ∀ x, (hdT A)[1]? = some x → ¬ x.day = day := by intro x hx; simp [hdT] at hx
   have hq2 : ∀ x, (hbT A H D)[j]? = some x → day + (1 : Nat) ≤ x.day := by
    intro x hx
    rcases hq with ⟨rfl, hj⟩ | rfl
    ·simp only [hbT, List.getElem?_cons_succ, List.getElem?_cons_zero, Option.some.injEq] at hx
     subst hx
     show day + ((1 : Nat) : Int) ≤ 10957 + D
     omega
    ·simp [hbT] at hx
   have hjn : (j = 1 ∧ day + 1 ≤ 10957 + D) ∨ j = 3 := by omega
   by_cases hcl : te = day
   ·-- the cycle is closed
    cases hS with
    | last h1 h2 h3 => omega
    | more h1 h2 h3 =>
     obtain ⟨te', S', rfl, ok', lo', _⟩ := h3.head
     have hsh := h1.sh
     obtain ⟨g, hg⟩ : ∃ g, freeB out fr (hdT A) = g := ⟨_, rfl⟩
     have hg2 : freeB out fr (hbT A H D) = g := by rw [free_hold]; exact hg
     obtain ⟨e1, e2, e3, e4⟩ := ofR_ok (X := List.replicate (k + 1) a) (Y := List.replicate (k + 1) (1000000 : Int)) (A := a) (by omega) (by omega) (by rw [List.length_replicate]; omega) (fun x hx => by rw [rep_in hx]; omega) (fun y hy => by rw [rep_in hy]; omega)
     obtain ⟨v, hv⟩ : ∃ v, ofR (List.replicate (k + 1) a) (List.replicate (k + 1) 1000000) = (v, 0) := ⟨_, by rw [← e1]⟩
     rw [hv] at e2 e3
     simp only at e2 e3
     obtain ⟨v1, hv1, hv1b⟩ : ∃ v1, ((g = true ∧ v1 = 0) ∨ (g = false ∧ ofR (List.replicate k a ++ [a]) (List.replicate k 1000000 ++ [1000000]) = (v1, 0))) ∧ 0 ≤ v1 ∧ v1 ≤ a := by
      rcases g with _ | _
      ·exact ⟨v, .inr ⟨rfl, by rw [rep_snoc, rep_snoc]; exact hv⟩, e2, e3⟩
      ·exact ⟨0, .inl ⟨rfl, rfl⟩, by omega, by omega⟩
     have hv2 : ofR (List.replicate k 0 ++ [0]) (List.replicate k 2000000 ++ [2000000]) = (0, 0) := by
      rw [rep_snoc]
      exact ofR_zero (fun x hx => rep_in hx)
     have hsum : a + v1 + (0 + 0) ≤ 1000000000000000 := by omega
     have hlb := leastI_bd (mf := 25) (mp := 20) (total := a + v1 + (0 + 0)) (by omega) (by omega)
     have hb' : (a + v1) * dbl S'.length ≤ 1000000000 := by
      have h5 : (a + v1) * dbl S'.length ≤ (2 * a) * dbl S'.length := Int.mul_le_mul_of_nonneg_right (by omega) (by have := dbl_pos S'.length; omega)
      have h6 : a * dbl ((te + 1, te') :: S').length = 2 * a * dbl S'.length := by simp only [List.length_cons, dbl]; rw [← Int.mul_assoc, Int.mul_comm a 2]
      omega
     have hdp' := dbl_pos S'.length
     have ha' : a + v1 ≤ 1000000000 := by
      have : (a + v1) * 1 ≤ (a + v1) * dbl S'.length := Int.mul_le_mul_of_nonneg_left hdp' (by omega)
      omega
     obtain ⟨s1, s2, i1, i2, i3, i4, i5⟩ := ih (te + 1) te' S' (day + 1) (a + v1) (leastI 25 20 (a + v1 + (0 + 0))) 0 (out ++ [⟨(out.length : Int) + 1, fr, te, te + 20, a + v1 + (0 + 0), 0, leastI 25 20 (a + v1 + (0 + 0)), g, [⟨a + v1, v1, 1000000⟩, ⟨0 + 0, 0, 2000000⟩]⟩]) j (by rw [show day + 1 + (d : Int) = day + ((d + 1 : Nat) : Int) by omega]; exact h3) (by omega) (by have := ok'.le; omega) (by omega) hb' hlb.1 (by omega) hjn
     refine ⟨s1, s2, ?_, ?_, i3, i4, i5⟩
     ·exact walkD_close hcl hq1 (closeF hg hv1 hv2 hv1b.1 (by omega) (by omega) (by omega) hsum (by omega)) i1
     ·exact walkD_close hcl (fun x hx => by have := hq2 x hx; omega) (closeF hg2 hv1 hv2 hv1b.1 (by omega) (by omega) (by omega) hsum (by omega)) i2
   ·-- a day more
    obtain ⟨s1, s2, i1, i2, i3, i4, i5⟩ := ih fr te S (day + 1) a du (k + 1) out j (by rw [show day + 1 + (d : Int) = day + ((d + 1 : Nat) : Int) by omega]; exact hS) (by omega) (by omega) hHa hb hd0 hd1 hjn
    refine ⟨s1, s2, ?_, ?_, i3, i4, i5⟩
    ·unfold hSt
     rw [walkD_quiet d 1 day _ _ _ _ (by intro x hx; simp [hdT] at hx) (by omega)]
     simp only [List.replicate_one, rep_snoc]
     exact i1
    ·unfold hSt
     rw [walkD_quiet d 1 day _ _ _ _ hq2 (by omega)]
     simp only [List.replicate_one, rep_snoc]
     exact i2
  by_cases hq : j = 1 ∧ day = 10957 + D
  ·obtain ⟨rfl, hday⟩ := hq
   exact hold_back ⟨hH, hHa⟩ ha ⟨hd0, hd1⟩ hday (key 3 (.inr rfl))
  ·exact key j (by omega)
theorem holds_days : ∀ K : Fin 60, ofE 10957 1 (11017 + (K.val : Int)) = 0 ∧ (allL 10957 1 (11017 + (K.val : Int))).length ≤ 5 ∧ (findW 1 (11017 + (K.val : Int)) 300 10957).2 = true := by decide +kernel
theorem holds_both {A H D K : Int} (hA : 1 ≤ A ∧ A ≤ 1000000) (hH : 1 ≤ H ∧ H ≤ A) (hD : 0 ≤ D ∧ D ≤ 59) (hK : 0 ≤ K ∧ K ≤ 59) : ∃ s1 s2, walkR tF (hdT A) (11017 + K) = (s1, 0) ∧ walkR tF (hbT A H D) (11017 + K) = (s2, 0) ∧ s1.p = s2.p ∧ s1.out = s2.out ∧ s1.p.bal.length = 2 := by
 obtain ⟨q, hq⟩ : ∃ q : Nat, K = q := ⟨K.toNat, by omega⟩
 subst hq
 obtain ⟨o1, o2, o3⟩ := holds_days ⟨q, by omega⟩
 simp only at o1 o2 o3
 obtain ⟨hS, _⟩ := find_spans 1 (11017 + (q : Int)) 300 10957 o3
 have hall : allL 10957 1 (11017 + (q : Int)) = (findW 1 (11017 + (q : Int)) 300 10957).1 := by unfold allL; rw [if_pos o3]
 rw [← hall] at hS
 obtain ⟨te, S', hS', ok, lo, _⟩ := hS.head
 rw [hS'] at hS o2
 simp only [List.length_cons] at o2
 have hb : A * dbl S'.length ≤ 1000000000 := by
  have h1 : dbl S'.length ≤ 16 := by
   have : S'.length = 0 ∨ S'.length = 1 ∨ S'.length = 2 ∨ S'.length = 3 ∨ S'.length = 4 := by omega
   rcases this with h | h | h | h | h <;> rw [h] <;> decide
  have : A * dbl S'.length ≤ A * 16 := Int.mul_le_mul_of_nonneg_left h1 (by omega)
  omega
 have hgo := holds_go (A := A) (H := H) (D := D) hH.1 (60 + q) 10957 te S' 10957 A 0 0 [] 1 (by rw [show (10957 : Int) + ((60 + q : Nat) : Int) = 11017 + (q : Int) by omega]; exact hS) (by omega) (by have := ok.le; omega) hH.2 hb (by omega) (by omega) (.inl ⟨rfl, by omega⟩)
 obtain ⟨s1, s2, h1, h2, h3, h4, h5⟩ := hgo
 have ev0 : evErr tF ⟨1, 10957, 1, A, 0⟩ = 0 := evErrF (by omega) (by omega) (by omega) (by omega) (by omega)
 have ev1 : evErr tF ⟨4, 10957 + D, 1, H, 1⟩ = 0 := evErrF (by omega) (by omega) (by omega) (by omega) (by omega)
 have ev2 : evErr tF ⟨5, 10957 + D, 1, H, 1⟩ = 0 := evErrF (by omega) (by omega) (by omega) (by omega) (by omega)
 have p0 : Ps.rightB ⟨[0, 0], 0, 0⟩ = true := by decide +kernel
 have p1 : Ps.rightB ⟨[A, 0], 0, 0⟩ = true := right2 (by omega) (by omega) (by omega) (by omega) (by omega) (.inl rfl)
 have m0 : minI A 0 = 0 := by unfold minI; rw [if_neg (by omega)]
 have hn : (11017 + (q : Int) - 10957).toNat = 60 + q := by omega
 refine ⟨s1, s2, walkF ?_ (by simp [hdT]) (by omega) o1 ?_ ?_, walkF ?_ (by simp [hbT]) (by omega) o1 ?_ ?_, h3, h4, h5⟩
 ·intro x hx
  simp only [hdT, List.mem_singleton] at hx
  subst hx
  exact ⟨ev0, by show (10957 : Int) ≤ _; omega⟩
 ·simp [hdT, Sorted]
 ·rw [hn, hS']
  exact walkD_ev1 (e := ⟨1, 10957, 1, A, 0⟩) rfl rfl (charge2 (a' := A) (b' := 0) (c' := 0) p0 (by omega) (by omega) (.inl rfl) (by omega) (.inl ⟨rfl, by rw [m0]; omega, rfl⟩) (by rw [m0]; rfl) p1) h1 rfl
 ·intro x hx
  simp only [hbT, List.mem_cons, List.not_mem_nil, or_false] at hx
  rcases hx with rfl | rfl | rfl
  ·exact ⟨ev0, by show (10957 : Int) ≤ _; omega⟩
  ·exact ⟨ev1, by show 10957 + D ≤ _; omega⟩
  ·exact ⟨ev2, by show 10957 + D ≤ _; omega⟩
 ·simp [hbT, Sorted]
  omega
 ·rw [hn, hS']
  exact walkD_ev1 (e := ⟨1, 10957, 1, A, 0⟩) rfl rfl (charge2 (a' := A) (b' := 0) (c' := 0) p0 (by omega) (by omega) (.inl rfl) (by omega) (.inl ⟨rfl, by rw [m0]; omega, rfl⟩) (by rw [m0]; rfl) p1) h2 rfl
end Go.Proofs.Ythcmpcekmkioaaa
namespace Go.Proofs.Ythcmpcekmkioaaa
open Go.RowKit
def hoS (b : Nat) (W : World) : Prop := W.cell? ⟨b, 6, none⟩ = some (.int .i64 10957)
theorem hoS.keepS {b : Nat} {W W' : World} {S : Nat → Prop} (h : hoS b W) (hk : Keeps S W W') (hb : ¬ S b) : hoS b W' := (hk.cell (cell_lt h) hb).trans h
theorem hoS.keep {b : Nat} {W W' : World} (h : hoS b W) (hk : Keeps (fun _ => False) W W') : hoS b W' := h.keepS hk (by simp)
def tbl (B b : Nat) (W : World) : Prop := W.heap[b]? = some (.cells #[.int .i64 1000000000000000, .slice (some ⟨B, 0, none⟩) 2 2, .int .i64 1, .int .i64 20, .int .i64 25, .int .i64 20, .int .i64 10957] 24 (0, 0))
set_option maxRecDepth 100000 in
set_option maxHeartbeats 3200000 in
theorem replayHolds_walk (w : World) (a : Int) (_ : (Lit.int .i64 a).wf = true) (h : Int) (_ : (Lit.int .i64 h).wf = true) (d : Int) (_ : (Lit.int .i64 d).wf = true) (ds : Int) (_ : (Lit.int .i64 ds).wf = true) : Calls Try.prog 8 #[.int .i64 a, .int .i64 h, .int .i64 d, .int .i64 ds] w fun e w' => e = .returned (.bool true) ∧ Below w.heap.size w w' := by
 obtain ⟨i0, hi, hi0, hi1, hi2⟩ := info_parts info_tEvent
 obtain ⟨f0, hf0⟩ : ∃ r, (IntKind.u64.wrap a).tmod 1000000 = r := ⟨_, rfl⟩
 have hu : ∀ x, 0 ≤ IntKind.u64.wrap x := fun x => by rw [IntKind.wrap_u64]; omega
 have f1 : 0 ≤ f0 := by rw [← hf0]; exact Int.tmod_nonneg _ (hu a)
 have f2 : f0 < 1000000 := by rw [← hf0]; exact Int.tmod_lt_of_pos _ (by decide)
 obtain ⟨h0, hh0⟩ : ∃ r, (IntKind.u64.wrap h).tmod (1 + f0) = r := ⟨_, rfl⟩
 have h1 : 0 ≤ h0 := by rw [← hh0]; exact Int.tmod_nonneg _ (hu h)
 have h2 : h0 < 1 + f0 := by rw [← hh0]; exact Int.tmod_lt_of_pos _ (by omega)
 obtain ⟨D, hd0⟩ : ∃ r, (IntKind.u64.wrap d).tmod 60 = r := ⟨_, rfl⟩
 obtain ⟨K, hk0⟩ : ∃ r, (IntKind.u64.wrap ds).tmod 60 = r := ⟨_, rfl⟩
 have d1 : 0 ≤ D := by rw [← hd0]; exact Int.tmod_nonneg _ (hu d)
 have d2 : D < 60 := by rw [← hd0]; exact Int.tmod_lt_of_pos _ (by decide)
 have k1 : 0 ≤ K := by rw [← hk0]; exact Int.tmod_nonneg _ (hu ds)
 have k2 : K < 60 := by rw [← hk0]; exact Int.tmod_lt_of_pos _ (by decide)
 have hwf : IntKind.u64.wrap (1 + f0) = 1 + f0 := by rw [IntKind.wrap_u64]; omega
 have hfn : (1 + f0 == 0) = false := beq_eq_false_iff_ne.2 (by omega)
 have hfn2 : ¬ 1 + f0 = 0 := by omega
 obtain ⟨s1, s2, hw1, hw2, hp, ho, hn⟩ := holds_both (A := 1 + f0) (H := 1 + h0) (D := D) (K := K) ⟨by omega, by omega⟩ ⟨by omega, by omega⟩ ⟨by omega, by omega⟩ ⟨by omega, by omega⟩
 have hrun1 := fun ad1 ad2 W h1 h2 => repRun_any tF ad1 2 2 (hdT (1 + f0)) ad2 1 1 (11017 + K) W rfl h1 rfl h2 (by decide) (by decide)
 have hrun2 := fun ad1 ad2 c W h1 h2 => repRun_any tF ad1 2 2 (hbT (1 + f0) (1 + h0) D) ad2 c 3 (11017 + K) W rfl h1 rfl h2 (by decide) (by decide)
 rw [hw1] at hrun1
 rw [hw2] at hrun2
 have ho1 := walkR_out hw1 rfl
 have hox : ∀ x ∈ s1.out, x.lines.length ≤ 8 := fun x hx => by rw [ho1.1 x hx]; decide
 have hol : s1.out.length ≤ 300 := ho1.2.1
 clear ho1
 obtain ⟨ai, ad, ⟨ab, ac, au⟩, aR, ae0, ae1, ao⟩ := s1
 obtain ⟨bi, bd, bp, bR, be0, be1, bo⟩ := s2
 simp only at hp ho hn hox hol
 subst hp ho
 simp only [tF] at hrun1 hrun2
 clear hw1 hw2
 have hws : IntKind.i64.wrap (10957 + D) = 10957 + D := by rw [IntKind.wrap_i64]; omega
 obtain ⟨Hrun1, Hrun2, Hox, Hol, Hu, Hn, Hi, Hi0, Hi1⟩ := hid9 hrun1 hrun2 hox hol hu hn hi hi0 hi1; clear hi1 hi0 hi hn hu hol hox hrun2 hrun1; have Hi2 := Lib.hid hi2; clear hi2
 go_enter Try.func8, Try.ntmps8
 go_wp2_with (go_at_call 21; (with_reducible refine (flat19_any _).mono ?_); rintro e w1 ⟨TB, rfl, hr1, hk1⟩; have Hr1 := Lib.hid hr1; have Hk1 := Lib.hid hk1; clear hr1 hk1; refine haltW ?_)
 refine Lib.hid ?_
 go_upto_region 6 with fail
 obtain ⟨W2, hW2⟩ : ∃ x, x = (w1.alloc (.cells #[.int .i64 1000000000000000, .slice (some ⟨TB, 0, none⟩) 2 2, .int .i64 1, .int .i64 20, .int .i64 25, .int .i64 20, .int .i64 10957] 24)).alloc (.cells #[.int .i64 1, .int .i64 10957, .int .i64 1, .int .i64 (1 + f0), .int .i64 0] 54) := ⟨_, rfl⟩
 have htb2 : tbl TB w1.heap.size W2 := by rw [hW2]; exact box_alloc (heap_alloc_new w1 _) _
 have hev2 : Reads W2 5 (.slice (some ⟨w1.heap.size + 1, 0, none⟩) 1 1) 1 ((hdT (1 + f0)).flatMap Ev.cells) := by rw [hW2]; exact Reads.litAt _ _ _ _ _ _ (by simp) rfl
 have htr2 : Reads W2 2 (.slice (some ⟨TB, 0, none⟩) 2 2) 2 (tF.trs.flatMap Tn.cells) := by rw [hW2]; exact (Hr1.out.alloc _).alloc _
 have hk2 : Keeps (fun _ => False) w W2 := by rw [hW2]; exact Hk1.out.nt (Keeps.alloc _ _).trans_alloc
 rw [← hW2]
 clear hW2
 have hS2 : hoS w1.heap.size W2.drew := (show hoS w1.heap.size W2 from cell_of_cells htb2 6).keep (Keeps.drew _)
 obtain ⟨Htb2, Hev2, Htr2, Hk2, HS2⟩ := hid5 htb2 hev2 htr2 hk2 hS2; clear hS2 hk2 htr2 hev2 htb2
 refine wp_region_mixw (hoS w1.heap.size) (.take 0 (.take 2 (.take 3 (.take 4 (.take 5 (.take 6 (.take 7 (.take 8 (.take 9 (.take 10 (.take 11 (.take 12 (.take 13 (.fork 1 (.move 14 (.move 15 (.take 16 .done))) 14 (.move 1 (.move 15 (.take 16 .done))))))))))))))))) (by kernel_rfl) (by kernel_rfl) ?_ ?_
 ·exact HS2.out
 intro w4 hs4 hk4
 repeat (first
  | (refine mix_skip rfl (by rfl) ?_; try simp only [Act.put, List.setIfInBounds_toArray, List.set_cons_zero, List.set_cons_succ])
  | (refine mix_skipm rfl (by rfl) ?_; try simp only [Act.put, List.setIfInBounds_toArray, List.set_cons_zero, List.set_cons_succ])
  | (refine mix_take (v := ?_) rfl (by rfl) ?_ ?_; rotate_left; (· intro w' hSw; unfold hoS at hSw; go_simp; (try with_reducible rfl)); rotate_right; try simp only [Act.put, List.setIfInBounds_toArray, List.set_cons_zero, List.set_cons_succ]))
 refine mix_fork ?_ ?_ hs4
 ·obtain ⟨wb, hwb⟩ : ∃ x, x = w4 := ⟨_, rfl⟩
  subst hwb
  have hkb : Keeps (fun _ => False) W2 wb := hk4
  have Hkb := Lib.hid hkb; clear hkb
  refine mix_move rfl (fun K hK => ?_)
  refine step_append_row rfl (.const (.slice none 0 0)) (.tmp 46) 25 rfl 0 54 i0 _ 5 40 Try.underlying25 Hi.out Hi0.out Hi1.out Hi2.out rfl (by decide) (.slice none 0 0) 0 [] rfl (World.ownsRow_nil _ _ _ _) _ 1 _ rfl (Hev2.out.keeps Hkb.out (by simp)) (Ev.one _) (by unfold maxLen; omega) (by omega) (Nat.zero_le _) ?_
  intro v5 w5 hown5 hk5 hf5
  have hk5' : Keeps (fun _ => False) wb w5 := hk5.mono (by simp [Value.ownBlock])
  obtain ⟨a5, c5, rfl, _, _⟩ := ownsRow_shape hown5
  refine hK.out _ _ (by exact hs4.keep hk5') ?_
  clear hK K
  try simp only [Act.put, List.setIfInBounds_toArray, List.set_cons_zero, List.set_cons_succ]
  repeat (first
   | (refine mix_skip rfl (by rfl) ?_; try simp only [Act.put, List.setIfInBounds_toArray, List.set_cons_zero, List.set_cons_succ])
   | (refine mix_skipm rfl (by rfl) ?_; try simp only [Act.put, List.setIfInBounds_toArray, List.set_cons_zero, List.set_cons_succ])
   | (refine mix_take (v := ?_) rfl (by rfl) ?_ ?_; rotate_left; (· intro w' hSw; unfold hoS at hSw; go_simp; (try with_reducible rfl)); rotate_right; try simp only [Act.put, List.setIfInBounds_toArray, List.set_cons_zero, List.set_cons_succ]))
  refine mix_move rfl (fun K hK => ?_)
  go_simp
  refine hK.out _ _ (by exact (hs4.keep hk5').keep (Keeps.alloc _ _)) ?_
  clear hK K
  try simp only [Act.put, List.setIfInBounds_toArray, List.set_cons_zero, List.set_cons_succ]
  repeat (first
   | (refine mix_skip rfl (by rfl) ?_; try simp only [Act.put, List.setIfInBounds_toArray, List.set_cons_zero, List.set_cons_succ])
   | (refine mix_skipm rfl (by rfl) ?_; try simp only [Act.put, List.setIfInBounds_toArray, List.set_cons_zero, List.set_cons_succ])
   | (refine mix_take (v := ?_) rfl (by rfl) ?_ ?_; rotate_left; (· intro w' hSw; unfold hoS at hSw; go_simp; (try with_reducible rfl)); rotate_right; try simp only [Act.put, List.setIfInBounds_toArray, List.set_cons_zero, List.set_cons_succ]))
  refine mix_move rfl (fun K hK => ?_)
  refine step_append_row rfl (.tmp 47) (.tmp 60) 25 rfl 0 54 i0 _ 5 40 Try.underlying25 Hi.out Hi0.out Hi1.out Hi2.out rfl (by decide) (.slice a5 1 c5) 1 _ rfl (hown5.alloc _) _ 2 _ rfl (Reads.litAt _ _ _ 5 2 _ (by first | rfl | simp) rfl) (by simp [Value.oneCell']) (by unfold maxLen; omega) (by omega) (Nat.zero_le _) ?_
  intro v7 w7 hown7 hk7 hf7
  obtain ⟨a7, c7, rfl, _, _⟩ := ownsRow_shape hown7
  have hown : ∀ i, (Value.slice a5 1 c5).ownBlock = some i → wb.heap.size ≤ i := fun i e => by
   rcases hf5 with e' | ⟨g, e1, e2⟩
   ·rw [e'] at e; simp [Value.ownBlock] at e
   ·rw [e1] at e; injection e with e; omega
  have hk67 : Keeps (fun i => wb.heap.size ≤ i) _ w7 := hk7.mono fun i _ e => hown i e
  have hk27 : Keeps (fun _ => False) W2 w7 := ((Hkb.out.nt hk5').nt (Keeps.alloc w5 _)).trans (hk67.mono fun i _ e => .inr (by have e' : wb.heap.size ≤ i := e; have := Hkb.out.size; omega))
  refine hK.out _ _ (by exact ((hs4.keep hk5').keep (Keeps.alloc _ _)).keepS hk67 (by have : w1.heap.size < wb.heap.size := cell_lt hs4; show ¬ wb.heap.size ≤ w1.heap.size; omega)) ?_
  clear hK K
  try simp only [Act.put, List.setIfInBounds_toArray, List.set_cons_zero, List.set_cons_succ]
  repeat (first
   | (refine mix_skip rfl (by rfl) ?_; try simp only [Act.put, List.setIfInBounds_toArray, List.set_cons_zero, List.set_cons_succ])
   | (refine mix_skipm rfl (by rfl) ?_; try simp only [Act.put, List.setIfInBounds_toArray, List.set_cons_zero, List.set_cons_succ])
   | (refine mix_take (v := ?_) rfl (by rfl) ?_ ?_; rotate_left; (· intro w' hSw; unfold hoS at hSw; go_simp; (try with_reducible rfl)); rotate_right; try simp only [Act.put, List.setIfInBounds_toArray, List.set_cons_zero, List.set_cons_succ]))
  clear hs4
  have Hown7 := Lib.hid hown7; clear hown7
  have hev7 : Reads w7 5 (.slice a7 3 c7) 3 ((hbT (1 + f0) (1 + h0) D).flatMap Ev.cells) := Reads.of_owns Hown7.out
  have htb7 : tbl TB w1.heap.size w7 := box_old Htb2.out hk27 (by simp)
  have htr7 := Htr2.out.keeps hk27 (by simp)
  have hevA := Hev2.out.keeps hk27 (by simp)
  have t0 := cell_of_cells (htb7) 0
  have t1 := cell_of_cells (htb7) 1
  have t2 := cell_of_cells (htb7) 2
  have t3 := cell_of_cells (htb7) 3
  have t4 := cell_of_cells (htb7) 4
  have t5 := cell_of_cells (htb7) 5
  have t6 := cell_of_cells (htb7) 6
  have tl := lt_of_block (htb7)
  obtain ⟨Hev7, Htb7, Htr7, HevA, Hk27⟩ := hid5 hev7 htb7 htr7 hevA hk27; clear hk27 hevA htr7 htb7 hev7
  refine mix_done ?_
  go_wp2_with fail
  refine (Hrun1.out (some ⟨TB, 0, none⟩) (some ⟨w1.heap.size + 1, 0, none⟩) _ Htr7.out HevA.out).mono ?_
  clear t0 t1 t2 t3 t4 t5 t6 tl
  rintro e w8 (⟨hz, vb, vr, vo, Q, rfl, hres⟩ | ⟨hz, _⟩)
  rotate_left
  ·exact absurd rfl hz
  obtain ⟨a8, c8, rfl, _⟩ := ownsRow_shape hres.bal
  have htb8 : tbl TB w1.heap.size w8 := box_old Htb7.out hres.kp (by simp)
  have t0 := cell_of_cells (htb8) 0
  have t1 := cell_of_cells (htb8) 1
  have t2 := cell_of_cells (htb8) 2
  have t3 := cell_of_cells (htb8) 3
  have t4 := cell_of_cells (htb8) 4
  have t5 := cell_of_cells (htb8) 5
  have t6 := cell_of_cells (htb8) 6
  have tl := lt_of_block (htb8)
  obtain ⟨Hres, Htb8⟩ := hid2 hres htb8; clear htb8 hres
  go_wp2_with fail
  refine (Hrun2.out (some ⟨TB, 0, none⟩) a7 c7 _ (Htr7.out.keeps (Hres.out.kp.nt (Keeps.alloc _ _)) (by simp)) (Hev7.out.keeps (Hres.out.kp.nt (Keeps.alloc _ _)) (by simp))).mono ?_
  clear t0 t1 t2 t3 t4 t5 t6 tl
  rintro e w9 (⟨hz, vb2, vr2, vo2, Q2, rfl, hres2⟩ | ⟨hz, _⟩)
  rotate_left
  ·exact absurd rfl hz
  obtain ⟨a9, c9, rfl, _⟩ := ownsRow_shape hres2.bal
  have hpb9 := box_new hres2.kp (by simp)
  have hk89 : Keeps (fun _ => False) w8 w9 := (Keeps.alloc _ _).nt hres2.kp
  obtain ⟨Hres2, Hpb9, Hk89⟩ := hid3 hres2 hpb9 hk89; clear hk89 hpb9 hres2
  go_wp2_with (go_at_call 11; (with_reducible refine (awake19_any _).mono ?_); rintro e w10 ⟨rfl, hk10⟩; have Hk10 := Lib.hid hk10; clear hk10; refine haltW ?_)
  refine Lib.hid ?_
  have hpA := box_old (box_alloc Hpb9.out _) Hk10.out (by simp)
  have hpB := box_new Hk10.out (by simp)
  have hk910 : Keeps (fun _ => False) w9 w10 := (Keeps.alloc w9 _).nt Hk10.out
  have hr1 := Reads.of_owns (Hres.out.bal.of_keeps (Hk89.out.nt hk910))
  have hr2 := Reads.of_owns (Hres2.out.bal.of_keeps hk910)
  have hpg1 := ((Pages19.of Hres.out Hox.out Hol.out).keeps Hk89.out).keeps hk910
  have hpg2 := (Pages19.of Hres2.out Hox.out Hol.out).keeps hk910
  have hpp := fun W (h : Keeps (fun _ => False) w10 W) => pages19_any Q Q2 vo vo2 W (hpg1.keeps h) (hpg2.keeps h) (Hres.out.lp.trans Hres2.out.lp.symm)
  have hps := samePos_any ab 2 a8 a9 c8 c9 ac au w10 Hn.out hr1 hr2 (by decide)
  have p0 := cell_of_cells hpA 0
  have p1 := cell_of_cells hpA 1
  have p2 := cell_of_cells hpA 2
  have pl := lt_of_block hpA
  have q0 := cell_of_cells hpB 0
  have q1 := cell_of_cells hpB 1
  have q2 := cell_of_cells hpB 2
  have ql := lt_of_block hpB
  have hkf := (((Hk2.out.nt Hk27.out).nt Hres.out.kp).nt Hk89.out).nt hk910
  obtain ⟨HpA, HpB, Hk910, Hr1, Hr2, Hpg1, Hpg2, Hpp, Hps⟩ := hid9 hpA hpB hk910 hr1 hr2 hpg1 hpg2 hpp hps; clear hps hpp hpg2 hpg1 hr2 hr1 hk910 hpB hpA; have Hkf := Lib.hid hkf; clear hkf
  go_wp2_with (first | (go_at_call 16; (with_reducible refine Hps.out.mono ?_); rintro e w11 ⟨rfl, hk11⟩; have Hpp2 := Lib.hid (Hpp.out _ hk11); have Hkf2 := Lib.hid (Hkf.out.nt hk11); clear hk11) | (go_at_call 18; (with_reducible refine Hpp2.out.mono ?_); rintro e w12 ⟨rfl, hk12⟩; have Hkf3 := Lib.hid (Hkf2.out.nt hk12); clear hk12))
  go_ret
  exact ⟨rfl, Hkf3.out.below (by simp) (Nat.le_refl _)⟩
 ·skip
  refine mix_move rfl (fun K hK => ?_)
  go_simp
  refine hK.out _ _ (by exact hs4.keep (Keeps.alloc _ _)) ?_
  clear hK K
  try simp only [Act.put, List.setIfInBounds_toArray, List.set_cons_zero, List.set_cons_succ]
  obtain ⟨wb, hwb⟩ : ∃ x, x = w4.alloc (.cells #[.int .i64 4, .int .i64 (10957 + D), .int .i64 1, .int .i64 (1 + h0), .int .i64 1, .int .i64 5, .int .i64 (10957 + D), .int .i64 1, .int .i64 (1 + h0), .int .i64 1] 54) := ⟨_, rfl⟩
  have hkb : Keeps (fun _ => False) W2 wb := by rw [hwb]; exact hk4.nt (Keeps.alloc _ _)
  have hlit : Reads wb 5 (.slice (some ⟨w4.heap.size, 0, none⟩) 2 2) 2 ([⟨4, 10957 + D, 1, 1 + h0, 1⟩, ⟨5, 10957 + D, 1, 1 + h0, 1⟩].flatMap Ev.cells) := by rw [hwb]; exact Reads.litAt _ _ _ _ _ _ (by simp) rfl
  have hs5 : hoS w1.heap.size wb := by rw [hwb]; exact hs4.keep (Keeps.alloc _ _)
  rw [← hwb]
  clear hwb hs4 hk4
  obtain ⟨Hkb, Hlit⟩ := hid2 hkb hlit; clear hlit hkb
  repeat (first
   | (refine mix_skip rfl (by rfl) ?_; try simp only [Act.put, List.setIfInBounds_toArray, List.set_cons_zero, List.set_cons_succ])
   | (refine mix_skipm rfl (by rfl) ?_; try simp only [Act.put, List.setIfInBounds_toArray, List.set_cons_zero, List.set_cons_succ])
   | (refine mix_take (v := ?_) rfl (by rfl) ?_ ?_; rotate_left; (· intro w' hSw; unfold hoS at hSw; go_simp; (try with_reducible rfl)); rotate_right; try simp only [Act.put, List.setIfInBounds_toArray, List.set_cons_zero, List.set_cons_succ]))
  refine mix_move rfl (fun K hK => ?_)
  refine step_append_row rfl (.const (.slice none 0 0)) (.tmp 46) 25 rfl 0 54 i0 _ 5 40 Try.underlying25 Hi.out Hi0.out Hi1.out Hi2.out rfl (by decide) (.slice none 0 0) 0 [] rfl (World.ownsRow_nil _ _ _ _) _ 1 _ rfl (Hev2.out.keeps Hkb.out (by simp)) (Ev.one _) (by unfold maxLen; omega) (by omega) (Nat.zero_le _) ?_
  intro v5 w5 hown5 hk5 hf5
  have hk5' : Keeps (fun _ => False) wb w5 := hk5.mono (by simp [Value.ownBlock])
  obtain ⟨a5, c5, rfl, _, _⟩ := ownsRow_shape hown5
  refine hK.out _ _ (by exact hs5.keep hk5') ?_
  clear hK K
  try simp only [Act.put, List.setIfInBounds_toArray, List.set_cons_zero, List.set_cons_succ]
  repeat (first
   | (refine mix_skip rfl (by rfl) ?_; try simp only [Act.put, List.setIfInBounds_toArray, List.set_cons_zero, List.set_cons_succ])
   | (refine mix_skipm rfl (by rfl) ?_; try simp only [Act.put, List.setIfInBounds_toArray, List.set_cons_zero, List.set_cons_succ])
   | (refine mix_take (v := ?_) rfl (by rfl) ?_ ?_; rotate_left; (· intro w' hSw; unfold hoS at hSw; go_simp; (try with_reducible rfl)); rotate_right; try simp only [Act.put, List.setIfInBounds_toArray, List.set_cons_zero, List.set_cons_succ]))
  refine mix_move rfl (fun K hK => ?_)
  refine step_append_row rfl (.tmp 47) (.tmp 60) 25 rfl 0 54 i0 _ 5 40 Try.underlying25 Hi.out Hi0.out Hi1.out Hi2.out rfl (by decide) (.slice a5 1 c5) 1 _ rfl hown5 _ 2 _ rfl (Hlit.out.keeps hk5' (by simp)) (Ev.one _) (by unfold maxLen; omega) (by omega) (Nat.zero_le _) ?_
  intro v7 w7 hown7 hk7 hf7
  obtain ⟨a7, c7, rfl, _, _⟩ := ownsRow_shape hown7
  have hown : ∀ i, (Value.slice a5 1 c5).ownBlock = some i → wb.heap.size ≤ i := fun i e => by
   rcases hf5 with e' | ⟨g, e1, e2⟩
   ·rw [e'] at e; simp [Value.ownBlock] at e
   ·rw [e1] at e; injection e with e; omega
  have hk67 : Keeps (fun i => wb.heap.size ≤ i) _ w7 := hk7.mono fun i _ e => hown i e
  have hk27 : Keeps (fun _ => False) W2 w7 := (Hkb.out.nt hk5').trans (hk67.mono fun i _ e => .inr (by have e' : wb.heap.size ≤ i := e; have := Hkb.out.size; omega))
  refine hK.out _ _ (by exact (hs5.keep hk5').keepS hk67 (by have : w1.heap.size < wb.heap.size := cell_lt hs5; show ¬ wb.heap.size ≤ w1.heap.size; omega)) ?_
  clear hK K
  try simp only [Act.put, List.setIfInBounds_toArray, List.set_cons_zero, List.set_cons_succ]
  repeat (first
   | (refine mix_skip rfl (by rfl) ?_; try simp only [Act.put, List.setIfInBounds_toArray, List.set_cons_zero, List.set_cons_succ])
   | (refine mix_skipm rfl (by rfl) ?_; try simp only [Act.put, List.setIfInBounds_toArray, List.set_cons_zero, List.set_cons_succ])
   | (refine mix_take (v := ?_) rfl (by rfl) ?_ ?_; rotate_left; (· intro w' hSw; unfold hoS at hSw; go_simp; (try with_reducible rfl)); rotate_right; try simp only [Act.put, List.setIfInBounds_toArray, List.set_cons_zero, List.set_cons_succ]))
  clear hs5
  have Hown7 := Lib.hid hown7; clear hown7
  have hev7 : Reads w7 5 (.slice a7 3 c7) 3 ((hbT (1 + f0) (1 + h0) D).flatMap Ev.cells) := Reads.of_owns Hown7.out
  have htb7 : tbl TB w1.heap.size w7 := box_old Htb2.out hk27 (by simp)
  have htr7 := Htr2.out.keeps hk27 (by simp)
  have hevA := Hev2.out.keeps hk27 (by simp)
  have t0 := cell_of_cells (htb7) 0
  have t1 := cell_of_cells (htb7) 1
  have t2 := cell_of_cells (htb7) 2
  have t3 := cell_of_cells (htb7) 3
  have t4 := cell_of_cells (htb7) 4
  have t5 := cell_of_cells (htb7) 5
  have t6 := cell_of_cells (htb7) 6
  have tl := lt_of_block (htb7)
  obtain ⟨Hev7, Htb7, Htr7, HevA, Hk27⟩ := hid5 hev7 htb7 htr7 hevA hk27; clear hk27 hevA htr7 htb7 hev7
  refine mix_done ?_
  go_wp2_with fail
  refine (Hrun1.out (some ⟨TB, 0, none⟩) (some ⟨w1.heap.size + 1, 0, none⟩) _ Htr7.out HevA.out).mono ?_
  clear t0 t1 t2 t3 t4 t5 t6 tl
  rintro e w8 (⟨hz, vb, vr, vo, Q, rfl, hres⟩ | ⟨hz, _⟩)
  rotate_left
  ·exact absurd rfl hz
  obtain ⟨a8, c8, rfl, _⟩ := ownsRow_shape hres.bal
  have htb8 : tbl TB w1.heap.size w8 := box_old Htb7.out hres.kp (by simp)
  have t0 := cell_of_cells (htb8) 0
  have t1 := cell_of_cells (htb8) 1
  have t2 := cell_of_cells (htb8) 2
  have t3 := cell_of_cells (htb8) 3
  have t4 := cell_of_cells (htb8) 4
  have t5 := cell_of_cells (htb8) 5
  have t6 := cell_of_cells (htb8) 6
  have tl := lt_of_block (htb8)
  obtain ⟨Hres, Htb8⟩ := hid2 hres htb8; clear htb8 hres
  go_wp2_with fail
  refine (Hrun2.out (some ⟨TB, 0, none⟩) a7 c7 _ (Htr7.out.keeps (Hres.out.kp.nt (Keeps.alloc _ _)) (by simp)) (Hev7.out.keeps (Hres.out.kp.nt (Keeps.alloc _ _)) (by simp))).mono ?_
  clear t0 t1 t2 t3 t4 t5 t6 tl
  rintro e w9 (⟨hz, vb2, vr2, vo2, Q2, rfl, hres2⟩ | ⟨hz, _⟩)
  rotate_left
  ·exact absurd rfl hz
  obtain ⟨a9, c9, rfl, _⟩ := ownsRow_shape hres2.bal
  have hpb9 := box_new hres2.kp (by simp)
  have hk89 : Keeps (fun _ => False) w8 w9 := (Keeps.alloc _ _).nt hres2.kp
  obtain ⟨Hres2, Hpb9, Hk89⟩ := hid3 hres2 hpb9 hk89; clear hk89 hpb9 hres2
  go_wp2_with (go_at_call 11; (with_reducible refine (awake19_any _).mono ?_); rintro e w10 ⟨rfl, hk10⟩; have Hk10 := Lib.hid hk10; clear hk10; refine haltW ?_)
  refine Lib.hid ?_
  have hpA := box_old (box_alloc Hpb9.out _) Hk10.out (by simp)
  have hpB := box_new Hk10.out (by simp)
  have hk910 : Keeps (fun _ => False) w9 w10 := (Keeps.alloc w9 _).nt Hk10.out
  have hr1 := Reads.of_owns (Hres.out.bal.of_keeps (Hk89.out.nt hk910))
  have hr2 := Reads.of_owns (Hres2.out.bal.of_keeps hk910)
  have hpg1 := ((Pages19.of Hres.out Hox.out Hol.out).keeps Hk89.out).keeps hk910
  have hpg2 := (Pages19.of Hres2.out Hox.out Hol.out).keeps hk910
  have hpp := fun W (h : Keeps (fun _ => False) w10 W) => pages19_any Q Q2 vo vo2 W (hpg1.keeps h) (hpg2.keeps h) (Hres.out.lp.trans Hres2.out.lp.symm)
  have hps := samePos_any ab 2 a8 a9 c8 c9 ac au w10 Hn.out hr1 hr2 (by decide)
  have p0 := cell_of_cells hpA 0
  have p1 := cell_of_cells hpA 1
  have p2 := cell_of_cells hpA 2
  have pl := lt_of_block hpA
  have q0 := cell_of_cells hpB 0
  have q1 := cell_of_cells hpB 1
  have q2 := cell_of_cells hpB 2
  have ql := lt_of_block hpB
  have hkf := (((Hk2.out.nt Hk27.out).nt Hres.out.kp).nt Hk89.out).nt hk910
  obtain ⟨HpA, HpB, Hk910, Hr1, Hr2, Hpg1, Hpg2, Hpp, Hps⟩ := hid9 hpA hpB hk910 hr1 hr2 hpg1 hpg2 hpp hps; clear hps hpp hpg2 hpg1 hr2 hr1 hk910 hpB hpA; have Hkf := Lib.hid hkf; clear hkf
  go_wp2_with (first | (go_at_call 16; (with_reducible refine Hps.out.mono ?_); rintro e w11 ⟨rfl, hk11⟩; have Hpp2 := Lib.hid (Hpp.out _ hk11); have Hkf2 := Lib.hid (Hkf.out.nt hk11); clear hk11) | (go_at_call 18; (with_reducible refine Hpp2.out.mono ?_); rintro e w12 ⟨rfl, hk12⟩; have Hkf3 := Lib.hid (Hkf2.out.nt hk12); clear hk12))
  go_ret
  exact ⟨rfl, Hkf3.out.below (by simp) (Nat.le_refl _)⟩
end Go.Proofs.Ythcmpcekmkioaaa
namespace Go.Proofs.Ythcmpcekmkioaaa.replayHolds
open Go.ChangeShapes Go.WideShapes Go.ChangeAt Go.RowKit Go.Deep
set_option maxRecDepth 100000 in
theorem lifted (os : Os) (started : os.Started) (H : Type) (enc : TypeId × Value → H) :
  ReturnsInHanded {} Try.checked os 8 .any (Rows.replayHoldsSpec.pre6 enc Try.prog Try.f8 Rows.replayHoldsRow.domain false) (Rows.replayHoldsSpec.post enc Try.prog Try.f8 false true false false) := by
 refine returnsInHanded_of_change (C := Try.checked) own started (by kernel_rfl) Try.func8
  (ChangeSpec.witness6 (enc := enc) (C := Try.checked) false ⟨#[], #[.int .i64 0, .int .i64 0, .int .i64 0, .int .i64 0], []⟩ 8 (by kernel_rfl) (by kernel_rfl) (by kernel_rfl) (by kernel_rfl)) ?_
 intro W base args ds gs before hval0 hW hcnd _
 have hval : ∀ (j : Nat) t v, Try.f8.params[j]? = some t → args[j]? = some v → Value.okWide Try.prog W .any base t v := hval0
 have hW' := hW
 obtain ⟨p, q, hA0, hV, rfl, hfz, hnd⟩ := hW
 have hA : DataW.TrodAll enc Try.prog W 0 (fun _ => true) true Try.f8.params.toList args.toList ds p := hA0
 rw [Try.params8] at hA hval
 obtain ⟨v0, vs0, d0, ds0, p0, q0, hargs, rfl, rfl, h0, r0⟩ := trodAll_cons hA
 obtain ⟨v1, vs1, d1, ds1, p1, q1, rfl, rfl, rfl, h1, r1⟩ := trodAll_cons r0
 obtain ⟨v2, vs2, d2, ds2, p2, q2, rfl, rfl, rfl, h2, r2⟩ := trodAll_cons r1
 obtain ⟨v3, vs3, d3, ds3, p3, q3, rfl, rfl, rfl, h3, r3⟩ := trodAll_cons r2
 obtain ⟨rfl, rfl, rfl⟩ := trodAll_nil r3
 obtain rfl : args = #[v0, v1, v2, v3] := by cases args; simp_all
 obtain ⟨rfl, rfl⟩ := trodVars_none hV
 obtain ⟨a0, rfl, rfl, rfl, w0⟩ := open_int Try.underlying2 (hval 0 2 v0 rfl rfl) h0
 obtain ⟨a1, rfl, rfl, rfl, w1⟩ := open_int Try.underlying2 (hval 1 2 v1 rfl rfl) h1
 obtain ⟨a2, rfl, rfl, rfl, w2⟩ := open_int Try.underlying3 (hval 2 3 v2 rfl rfl) h2
 obtain ⟨a3, rfl, rfl, rfl, w3⟩ := open_int Try.underlying3 (hval 3 3 v3 rfl rfl) h3
 clear hA0 hval0
 refine (replayHolds_walk W a0 w0 a1 w1 a2 w2 a3 w3).mono fun e W' ⟨he, bel⟩ => ?_
 subst he
 exact ⟨_, rfl, _, _, _, [], _, [], hW', trodAll_mk1 (shut_bool Try.underlying4 _), (trodAll_cons_mk (shut_int Try.underlying2 w0) (trodAll_cons_mk (shut_int Try.underlying2 w1) (trodAll_cons_mk (shut_int Try.underlying3 w2) (trodAll_cons_mk (shut_int Try.underlying3 w3) trodAll_mk0)))), rfl, bel.frame _, fun h => by cases h⟩
theorem over : Rows.replayHoldsRow.holds Try.pinned (OpenSpec.ofChange Rows.replayHoldsSpec) :=
 OpenClaim.holds_of_wide 8 Try.f8 rfl rfl rfl rfl rfl rfl rfl ⟨rfl, rfl, rfl, rfl, rfl⟩ rfl rfl rfl rfl rfl (by kernel_rfl) Try.func8 (by kernel_rfl)
  (of_decide_eq_true (by kernel_rfl)) (by unfold Func.isWrapper; first | (rw [if_pos (by decide +kernel)]; kernel_rfl) | (rw [if_neg (by decide +kernel)]; exact ⟨rfl, rfl⟩))
  (fun os started H enc _ => lifted os started H enc)
theorem proved : Rows.ReplayHoldsSaid := over
#print axioms proved
end Go.Proofs.Ythcmpcekmkioaaa.replayHolds
