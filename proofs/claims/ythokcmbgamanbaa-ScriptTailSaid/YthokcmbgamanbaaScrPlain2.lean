/- Scripts, plainly: four bytes more. -/
import Derived.Test.YthokcmbgamanbaaScrPlain
namespace Go.Proofs.Ythokcmbgamanbaa
open Go.RowKit
theorem bt_app {B M : List Int} {k : Nat} (h : k < B.length) : bt (B ++ M) k = bt B k := by
  unfold bt; rw [List.getD_eq_getElem?_getD, List.getD_eq_getElem?_getD, List.getElem?_append_left h]
theorem scrN_app {B M : List Int} (h : 0 < B.length) : scrN (B ++ M) = scrN B := by unfold scrN; rw [bt_app h]
theorem scrO_app {B M : List Int} (h : 0 < B.length) : scrO (B ++ M) = scrO B := by unfold scrO; rw [scrN_app h]
theorem scrTrs_app {B M : List Int} : ∀ n : Nat, 1 + 2 * n ≤ B.length → scrTrs (B ++ M) n = scrTrs B n
  | 0, _ => rfl
  | n + 1, h => by
    rw [scrTrs, scrTrs, scrTrs_app n (by omega)]
    unfold scrTr
    rw [bt_app (by omega), bt_app (by omega)]
theorem scrTerms_app {B M : List Int} (h : scrO B + 6 ≤ B.length) : scrTerms (B ++ M) = scrTerms B := by
  unfold scrTerms
  rw [scrO_app (by omega), scrN_app (by omega), scrTrs_app _ (by unfold scrO at h; omega), bt_app (by omega), bt_app (by omega), bt_app (by omega), bt_app (by omega), bt_app (by omega), bt_app (by omega)]
theorem cmdAt_app {B M : List Int} {t : Int} {k : Nat} (h : k + 4 ≤ B.length) : cmdAt (B ++ M) t k = cmdAt B t k := by
  unfold cmdAt; rw [bt_app (by omega), bt_app (by omega), bt_app (by omega), bt_app (by omega)]
theorem scrDay_app {B M : List Int} (h : scrO B + 6 ≤ B.length) : ∀ j : Nat, scrO B + 6 + 4 * j ≤ B.length → scrDay (B ++ M) j = scrDay B j
  | 0, _ => by rw [scrDay, scrDay, scrO_app (by omega), bt_app (by omega)]
  | j + 1, hj => by rw [scrDay, scrDay, scrDay_app h j (by omega), scrO_app (by omega), cmdAt_app (by omega)]
theorem scrCmds_app {B M : List Int} (h : scrO B + 6 ≤ B.length) : ∀ j : Nat, scrO B + 6 + 4 * j ≤ B.length → scrCmds (B ++ M) j = scrCmds B j
  | 0, _ => rfl
  | j + 1, hj => by rw [scrCmds, scrCmds, scrCmds_app h j (by omega), scrDay_app h j (by omega), scrO_app (by omega), cmdAt_app (by omega)]
theorem cmdAt_kind (B : List Int) (t : Int) (k : Nat) : (cmdAt B t k).kind = bt B k % 11 + 1 := by
  unfold cmdAt cmdOf
  simp only
  split <;> (try split) <;> (try split) <;> (try split) <;> (try split) <;> (try split) <;> (try split) <;> rfl
/-- With four bytes more: the same commands, or one more. -/
theorem scr_tail {B : List Int} {m0 m1 m2 m3 : Int} (h : scrO B + 6 ≤ B.length) (hd : (B.length - (scrO B + 6)) % 4 = 0) :
    (scrM B = 200 ∧ scrM (B ++ [m0, m1, m2, m3]) = 200 ∧ scrCmds (B ++ [m0, m1, m2, m3]) 200 = scrCmds B 200) ∨
    (scrM B < 200 ∧ scrM (B ++ [m0, m1, m2, m3]) = scrM B + 1 ∧ ∃ c, scrCmds (B ++ [m0, m1, m2, m3]) (scrM B + 1) = scrCmds B (scrM B) ++ [c] ∧ c.kind = m0 % 11 + 1) := by
  have hO := scrO_app (B := B) (M := [m0, m1, m2, m3]) (by omega)
  have hl : (B ++ [m0, m1, m2, m3]).length = B.length + 4 := by simp
  by_cases hq : 200 ≤ (B.length - (scrO B + 6)) / 4
  · refine .inl ⟨by unfold scrM; omega, by unfold scrM; rw [hO, hl]; omega, scrCmds_app h _ (by omega)⟩
  · have hM : scrM B = (B.length - (scrO B + 6)) / 4 := by unfold scrM; omega
    refine .inr ⟨by omega, by rw [hM]; unfold scrM; rw [hO, hl]; omega, _, by rw [scrCmds, scrCmds_app h _ (by omega)], ?_⟩
    rw [cmdAt_kind, hO]
    have : scrO B + 6 + 4 * scrM B = B.length := by omega
    rw [this]
    rw [bt_some (z := m0) (by rw [List.getElem?_append_right (Nat.le_refl _)]; simp)]
end Go.Proofs.Ythokcmbgamanbaa
