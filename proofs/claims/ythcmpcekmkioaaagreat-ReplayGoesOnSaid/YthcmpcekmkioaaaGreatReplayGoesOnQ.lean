/-
  ReplayGoesOn: for every input the law returns true, and each argument reads behind the call as it read before. No condition.
-/
import Derived.Deep.DeepCutAuto
import Derived.Test.YthcmpcekmkioaaaGreatB10
namespace Go.Proofs.YthcmpcekmkioaaaGreat
open Go.RowKit
def uq (x m : Int) : Int := IntKind.u64.wrap x % m
theorem uq_bd (x : Int) {m : Int} (hm : 0 < m) : 0 ≤ uq x m ∧ uq x m < m := ⟨Int.emod_nonneg _ (by omega), Int.emod_lt_of_pos _ hm⟩
def playTrs (L : List Tn) : List Tn := if ((L.take 8).map fun x => (⟨uq x.rate 3000000, x.grace⟩ : Tn)) = [] then [⟨500000, false⟩] else (L.take 8).map fun x => ⟨uq x.rate 3000000, x.grace⟩
def playT (t : Tm) : Tm := if ({ t with start := 10957 + uq t.start 400 } : Tm).err = 0 then { t with start := 10957 + uq t.start 400 } else ⟨uq t.limit 100000, 1 + uq t.cyc 28, 1 + uq t.due 25, uq t.minFixed 100, uq t.minPart 101, 10957 + uq t.start 400, playTrs t.trs⟩
theorem inB_iff (v a b : Int) : inB v a b = true ↔ a ≤ v ∧ v ≤ b := by simp [inB]
theorem playTrs_ok (L : List Tn) : 1 ≤ (playTrs L).length ∧ (playTrs L).length ≤ 8 ∧ ∀ x ∈ playTrs L, x.okB = true := by
 unfold playTrs
 split
 ·refine ⟨by simp, by simp, fun x hx => ?_⟩
  obtain rfl : x = ⟨500000, false⟩ := by simpa using hx
  rfl
 ·rename_i h
  have hl : ((L.take 8).map fun x => (⟨uq x.rate 3000000, x.grace⟩ : Tn)).length ≠ 0 := fun e => h (List.eq_nil_of_length_eq_zero e)
  have hl2 : ((L.take 8).map fun x => (⟨uq x.rate 3000000, x.grace⟩ : Tn)).length ≤ 8 := by rw [List.length_map, List.length_take]; omega
  refine ⟨by omega, hl2, fun x hx => ?_⟩
  obtain ⟨y, _, rfl⟩ := List.mem_map.1 hx
  have := uq_bd y.rate (m := 3000000) (by decide)
  exact (inB_iff _ _ _).2 ⟨this.1, by show uq y.rate 3000000 ≤ _; omega⟩
theorem playT_ok (t : Tm) : (playT t).err = 0 ∧ 10957 ≤ (playT t).start ∧ (playT t).start ≤ 11356 := by
 have hs := uq_bd t.start (m := 400) (by decide)
 unfold playT
 split
 ·rename_i h
  exact ⟨h, by show 10957 ≤ 10957 + uq t.start 400; omega, by show 10957 + uq t.start 400 ≤ 11356; omega⟩
 ·refine ⟨?_, by show 10957 ≤ 10957 + uq t.start 400; omega, by show 10957 + uq t.start 400 ≤ 11356; omega⟩
  obtain ⟨h1, h2, h3⟩ := playTrs_ok t.trs
  have l := uq_bd t.limit (m := 100000) (by decide)
  have c := uq_bd t.cyc (m := 28) (by decide)
  have d := uq_bd t.due (m := 25) (by decide)
  have f := uq_bd t.minFixed (m := 100) (by decide)
  have p := uq_bd t.minPart (m := 101) (by decide)
  unfold Tm.err
  rw [if_pos]
  simp only [Tm.okB, Bool.and_eq_true, inB_iff, List.all_eq_true]
  refine ⟨⟨⟨?_, ?_⟩, h3⟩, ⟨⟨⟨?_, ?_⟩, ?_⟩, ?_⟩, ?_⟩ <;> constructor <;> omega
def playE (t : Tm) (days : Int) (e : Ev) : Ev := ⟨e.kind, t.start + uq e.day (days + 1), e.tranche, if e.kind = 6 then (uq e.amount 100000000) % 3000000 else uq e.amount 100000000, e.ref⟩
def playL (t : Tm) (days : Int) (n : Nat) : List Ev → List Ev → List Ev
 | [], O => O
 | e :: L, O => if O.length < n then (if evErr t (playE t days e) = 0 then playL t days n L (O ++ [playE t days e]) else playL t days n L O) else O
theorem playL_ok {t : Tm} {days : Int} {n : Nat} (hd : 0 ≤ days) : ∀ (L O : List Ev), (∀ x ∈ O, evErr t x = 0 ∧ x.day ≤ t.start + days) → O.length ≤ n → (∀ x ∈ playL t days n L O, evErr t x = 0 ∧ x.day ≤ t.start + days) ∧ (playL t days n L O).length ≤ n := by
 intro L
 induction L with
 | nil => intro O h hn; exact ⟨h, hn⟩
 | cons e L ih =>
  intro O h hn
  unfold playL
  split
  ·rename_i hlt
   split
   ·rename_i h0
    refine ih _ (fun x hx => ?_) (by rw [List.length_append, List.length_singleton]; omega)
    rcases List.mem_append.1 hx with hx | hx
    ·exact h x hx
    ·obtain rfl : x = playE t days e := by simpa using hx
     refine ⟨h0, ?_⟩
     have := (uq_bd e.day (m := days + 1) (by omega)).2
     show t.start + uq e.day (days + 1) ≤ _
     omega
   ·exact ih _ h hn
  ·exact ⟨h, hn⟩
end Go.Proofs.YthcmpcekmkioaaaGreat
namespace Go.Proofs.YthcmpcekmkioaaaGreat
open Go.RowKit
theorem repI_mem {α : Type} {n : Nat} {a x : α} (h : x ∈ List.replicate n a) : x = a := (List.mem_replicate.1 h).2
theorem zip_rep (n : Nat) (r : List Int) (v : Int) : List.zipWith (fun r v => r ++ [v]) (List.replicate n r) (List.replicate n v) = List.replicate n (r ++ [v]) := by
 induction n with
 | zero => rfl
 | succ n ih => simp only [List.replicate_succ, List.zipWith_cons_cons, ih]
theorem dotI_z : ∀ (X Y : List Int), (∀ x ∈ X, x = 0) → dotI X Y = 0 := by
 intro X
 induction X with
 | nil => intro Y _; cases Y <;> rfl
 | cons x X ih =>
  intro Y h
  cases Y with
  | nil => rfl
  | cons y Y => simp only [dotI]; rw [h x (List.mem_cons_self ..), ih Y (fun z hz => h z (List.mem_cons_of_mem _ hz))]; simp
theorem ofR_z {X Y : List Int} (h : ∀ x ∈ X, x = 0) : ofR X Y = (0, 0) := by
 unfold ofR
 rw [dotI_z X Y h]
 rfl
theorem intrO_zero (g : Bool) {r : List Int} (hr : ∀ x ∈ r, x = 0) : ∀ (T : List Tn) (E : List (List Int)), E.length = T.length → intrO g T (List.replicate T.length r) E = some (List.replicate T.length 0) := by
 intro T
 induction T with
 | nil => intro E _; rfl
 | cons x T ih =>
  intro E h
  cases E with
  | nil => simp at h
  | cons y E =>
   have := ih E (by simpa using h)
   simp only [List.length_cons, List.replicate_succ, intrO]
   rw [this]
   split
   ·rfl
   ·rw [ofR_z hr]
    rfl
theorem sum_rep (n : Nat) : sumI (List.replicate n 0) = 0 := by
 induction n with
 | zero => rfl
 | succ n ih => rw [List.replicate_succ, sumI, ih]; rfl
theorem rep_right {n : Nat} (h1 : 1 ≤ n) (h2 : n ≤ 8) : Ps.rightB ⟨List.replicate n 0, 0, 0⟩ = true := by
 have h3 : (List.replicate n (0 : Int)).all moneyP = true := List.all_eq_true.2 fun x hx => by rw [repI_mem hx]; rfl
 simp only [Ps.rightB, scanB, sum_rep, h3, List.length_replicate]
 simp [moneyP, h1, h2]
theorem set_rep (n k : Nat) : (List.replicate n (0 : Int)).set k 0 = List.replicate n 0 := by
 apply List.ext_getElem?
 intro i
 rw [List.getElem?_set]
 split
 ·rename_i h
  subst h
  split
  ·rename_i h2
   rw [List.getElem?_eq_getElem h2]
   simp
  ·rename_i h2
   rw [List.getElem?_eq_none (by omega)]
 ·rfl
theorem bearS_zero (n : Nat) : ∀ k, bearS (List.replicate n 0) ⟨List.replicate n 0, 0, 0⟩ k = ⟨List.replicate n 0, 0, 0⟩ := by
 intro k
 induction k with
 | zero => rfl
 | succ k ih =>
  unfold bearS
  rw [ih]
  have h0 : (List.replicate n (0 : Int)).getD k 0 = 0 := by
   rw [List.getD_eq_getElem?_getD, List.getElem?_replicate]
   split <;> rfl
  have h1 : (List.replicate n (0 : Int)).getD ((k : Int) + 1 - 1).toNat 0 = 0 := by
   rw [List.getD_eq_getElem?_getD, List.getElem?_replicate]
   split <;> rfl
  unfold chargeP
  simp only [h0, h1]
  have hm : minI 0 0 = 0 := rfl
  rw [hm]
  simp only [Int.sub_zero, Int.add_zero, set_rep]
theorem bearR_zero {n : Nat} (h1 : 1 ≤ n) (h2 : n ≤ 8) : bearR ⟨List.replicate n 0, 0, 0⟩ (List.replicate n 0) = (⟨List.replicate n 0, 0, 0⟩, 0) := by
 unfold bearR
 rw [if_pos ⟨rep_right h1 h2, by simp, List.all_eq_true.2 fun x hx => by rw [repI_mem hx]; rfl⟩, List.length_replicate, bearS_zero, if_pos (rep_right h1 h2)]
theorem leastI_zero {mf mp : Int} (hf : 0 ≤ mf) : leastI mf mp 0 = 0 := by
 have := leastI_bd (mf := mf) (mp := mp) (total := 0) (by omega) hf
 omega
def empS (t : Tm) (i : Nat) (fr te : Int) : Stm := ⟨(i : Int) + 1, fr, te, te + t.due, 0, 0, 0, true, lnL (List.replicate t.trs.length 0) (List.replicate t.trs.length 0) (t.trs.map Tn.rate)⟩
theorem empS_lines (t : Tm) (i : Nat) (fr te : Int) : (empS t i fr te).lines.length = t.trs.length := lnL_length _ _ _ (by simp) (by simp) (by simp)
def empP (t : Tm) : Nat → List (Int × Int) → List Stm
 | i, (fr, te) :: x :: S => empS t i fr te :: empP t (i + 1) (x :: S)
 | _, _ => []
theorem empP_length (t : Tm) : ∀ (S : List (Int × Int)) (i : Nat), (empP t i S).length = S.length - 1 := by
 intro S
 induction S with
 | nil => intro i; rfl
 | cons p S ih =>
  intro i
  cases S with
  | nil => rfl
  | cons q S => simp only [empP, List.length_cons, ih]; omega
theorem empP_get (t : Tm) : ∀ (S : List (Int × Int)) (i k : Nat), k + 1 < S.length → ∃ fr te, S[k]? = some (fr, te) ∧ (empP t i S)[k]? = some (empS t (i + k) fr te) := by
 intro S
 induction S with
 | nil => intro i k h; simp at h
 | cons p S ih =>
  intro i k h
  cases S with
  | nil => simp at h
  | cons q S =>
   cases k with
   | zero => exact ⟨p.1, p.2, rfl, rfl⟩
   | succ k =>
    obtain ⟨fr, te, h1, h2⟩ := ih (i + 1) k (by simpa using h)
    exact ⟨fr, te, h1, by rw [show i + (k + 1) = i + 1 + k by omega]; exact h2⟩
theorem free_emp {out : List Stm} (h : ∀ x ∈ out, x.total = 0) (fr : Int) : freeB out fr [] = true := by
 unfold freeB
 split
 ·rfl
 ·rename_i x hx
  have := h x (List.mem_of_getLast? hx)
  unfold hasB
  rw [this]
  rfl
theorem close_emp {t : Tm} (hz : t.err = 0) {day : Int} {r : List Int} {E : List (List Int)} {out : List Stm} (hr : ∀ x ∈ r, x = 0) (hE : E.length = t.trs.length) (ho : ∀ x ∈ out, x.total = 0) (fr te : Int) :
  closeS t [] t.trs.length ⟨0, day, ⟨List.replicate t.trs.length 0, 0, 0⟩, t.trs.map Tn.rate, List.replicate t.trs.length r, E, out⟩ fr te = some ⟨0, day, ⟨List.replicate t.trs.length 0, 0, 0⟩, t.trs.map Tn.rate, List.replicate t.trs.length [], List.replicate t.trs.length [], out ++ [empS t out.length fr te]⟩ := by
 obtain ⟨⟨n1, n8⟩, _, _, _, hf, _, _⟩ := tm_nums hz
 unfold closeS
 simp only
 rw [free_emp ho, intrO_zero true hr _ _ hE]
 simp only [closeR, bearR_zero n1 n8, if_true, sum_rep, leastI_zero hf.1]
 rfl
theorem emp_go {t : Tm} (hz : t.err = 0) : ∀ (d : Nat) (fr te : Int) (S : List (Int × Int)) (day : Int) (r : List Int) (E : List (List Int)) (out : List Stm), SpanC (day + d) fr ((fr, te) :: S) → day ≤ te → (∀ x ∈ r, x = 0) → E.length = t.trs.length → (∀ x ∈ out, x.total = 0) →
  ∃ s, walkD t [] t.trs.length d ((fr, te) :: S) ⟨0, day, ⟨List.replicate t.trs.length 0, 0, 0⟩, t.trs.map Tn.rate, List.replicate t.trs.length r, E, out⟩ = (s, 0) ∧ s.p = ⟨List.replicate t.trs.length 0, 0, 0⟩ ∧ s.R = t.trs.map Tn.rate ∧ s.out = out ++ empP t out.length ((fr, te) :: S) := by
 intro d
 induction d with
 | zero =>
  intro fr te S day r E out hS hte hr hE ho
  refine ⟨_, rfl, rfl, rfl, ?_⟩
  have : S = [] := by
   cases hS with
   | last h1 h2 h3 => rfl
   | more h1 h2 h3 => omega
  subst this
  simp [empP, evSt, evR]
 | succ d ih =>
  intro fr te S day r E out hS hte hr hE ho
  have he0 : extL (List.replicate t.trs.length r) (List.replicate t.trs.length 0) t.trs.length = List.replicate t.trs.length (r ++ [0]) := by
   rw [extL_full (by simp) (by simp), zip_rep]
  have he1 : (extL E (t.trs.map Tn.rate) t.trs.length).length = t.trs.length := by
   rw [extL_full (by simp) hE, List.length_zipWith, hE, List.length_map]; omega
  have hr2 : ∀ x ∈ r ++ [0], x = 0 := fun x hx => by
   rcases List.mem_append.1 hx with h | h
   ·exact hr x h
   ·simpa using h
  unfold walkD
  simp only [List.drop_nil, evR, evSt, endSt, if_true]
  rw [he0]
  obtain ⟨E2, hE2⟩ : ∃ E2, extL E (t.trs.map Tn.rate) t.trs.length = E2 := ⟨_, rfl⟩
  rw [hE2] at he1 ⊢
  by_cases hcl : te = day
  ·rw [if_pos hcl, close_emp hz hr2 he1 ho fr te]
   cases hS with
   | last h1 h2 h3 => omega
   | more h1 h2 h3 =>
    obtain ⟨te', S', rfl, ok', lo', _⟩ := h3.head
    have ho2 : ∀ x ∈ out ++ [empS t out.length fr te], x.total = 0 := fun x hx => by
     rcases List.mem_append.1 hx with h | h
     ·exact ho x h
     ·obtain rfl : x = empS t out.length fr te := by simpa using h
      rfl
    obtain ⟨s, i1, i2, i3, i4⟩ := ih (te + 1) te' S' (day + 1) [] (List.replicate t.trs.length []) (out ++ [empS t out.length fr te]) (by rw [show day + 1 + (d : Int) = day + ((d + 1 : Nat) : Int) by omega]; exact h3) (by have := ok'.le; omega) (by simp) (by simp) ho2
    refine ⟨s, i1, i2, i3, ?_⟩
    rw [i4]
    simp [empP]
  ·rw [if_neg hcl]
   obtain ⟨s, i1, i2, i3, i4⟩ := ih fr te S (day + 1) (r ++ [0]) E2 out (by rw [show day + 1 + (d : Int) = day + ((d + 1 : Nat) : Int) by omega]; exact hS) (by omega) hr2 he1 ho
   exact ⟨s, i1, i2, i3, i4⟩
theorem find_far {cd : Int} (hc : 1 ≤ cd ∧ cd ≤ 28) {day : Int} (hd : day ≤ 100000) : ∀ (f : Nat) (fr : Int), -135140 ≤ fr → fr ≤ day → dD fr = cd → day < fr + 28 * f → (findW cd day f fr).2 = true := by
 intro f
 induction f with
 | zero => intro fr h0 h1 h2 h3; omega
 | succ f ih =>
  intro fr h0 h1 h2 h3
  have hge := lastF_ge (fr := fr) (cd := cd) h0 (by omega) hc.1 hc.2
  have hF : fr + 27 ≤ lastF fr cd := by
   have hi := date_is h0 (by omega : fr ≤ 2932896)
   unfold lastF
   rw [h2, if_pos (by omega)]
   have : 28 ≤ mlen (dY fr) (dM fr) := by
    have m0 := hi.m0
    have m1 := hi.m1
    unfold mlen
    split
    ·split <;> omega
    ·split
     ·omega
     ·rw [if_pos ⟨m0, m1⟩]; omega
   omega
  have he : lastE fr cd = 0 := by
   unfold lastE
   rw [if_neg (by omega), if_neg (by omega), if_neg (by omega)]
  by_cases hl : lastF fr cd < day
  ·have hy := lastF_yes (fr := fr) (cd := cd) h0 (by omega) hc.1 hc.2 (by omega)
   have := ih (lastF fr cd + 1) (by omega) (by omega) hy (by omega)
   rw [findW_go he ⟨hl, by omega⟩]
   exact this
  ·rw [findW_stop he (by omega)]
   simp
   omega
theorem ofE_far {st cd day : Int} (hc : 1 ≤ cd ∧ cd ≤ 28) (h0 : -135140 ≤ st) (h1 : st ≤ day) (h2 : day ≤ 100000) (h3 : day < st + 8000) : ofE st cd day = 0 ∧ (findW cd day 300 st).2 = true := by
 have hge := lastF_ge (fr := st) (cd := cd) h0 (by omega) hc.1 hc.2
 have he : lastE st cd = 0 := by
  unfold lastE
  rw [if_neg (by omega), if_neg (by omega), if_neg (by omega)]
 have hf : (findW cd day 300 st).2 = true := by
  by_cases hl : lastF st cd < day
  ·have hy := lastF_yes (fr := st) (cd := cd) h0 (by omega) hc.1 hc.2 (by omega)
   rw [findW_go he ⟨hl, by omega⟩]
   exact find_far hc h2 299 (lastF st cd + 1) (by omega) (by omega) hy (by omega)
  ·rw [findW_stop he (by omega)]
   simp
   omega
 refine ⟨?_, hf⟩
 unfold ofE
 rw [if_pos he, if_pos hf]
theorem empty_walk {t : Tm} (hz : t.err = 0) (hs0 : 10957 ≤ t.start) (hs1 : t.start ≤ 11356) {d : Nat} (hd : d < 700) :
  ∃ s, walkR t [] (t.start + d) = (s, 0) ∧ s.p = ⟨List.replicate t.trs.length 0, 0, 0⟩ ∧ s.R = t.trs.map Tn.rate ∧ s.out = empP t 0 (allL t.start t.cyc (t.start + d)) ∧ 1 ≤ (allL t.start t.cyc (t.start + d)).length ∧ (allL t.start t.cyc (t.start + d)).length ≤ 300 ∧ ofE t.start t.cyc (t.start + d) = 0 := by
 obtain ⟨_, _, hc, _, _, _, hst⟩ := tm_nums hz
 obtain ⟨ho, hf⟩ := ofE_far (st := t.start) (day := t.start + d) hc (by omega) (by omega) (by omega) (by omega)
 have hr : repErr t [] (t.start + d) = 0 := by
  unfold repErr
  rw [if_pos hz]
  show (if (0 : Int) = 0 then _ else _) = _
  rw [if_pos rfl, if_neg (by simp), if_neg (by omega), ho]
  simp
 obtain ⟨hS, hS2⟩ := find_spans t.cyc (t.start + d) 300 t.start hf
 have hall : allL t.start t.cyc (t.start + d) = (findW t.cyc (t.start + d) 300 t.start).1 := by unfold allL; rw [if_pos hf]
 rw [← hall] at hS hS2
 obtain ⟨te, S', hS', ok, lo, _⟩ := hS.head
 rw [hS'] at hS hS2 ⊢
 obtain ⟨s, i1, i2, i3, i4⟩ := emp_go hz d t.start te S' t.start [] (List.replicate t.trs.length []) [] hS ok.le (by simp) (by simp) (by simp)
 refine ⟨s, ?_, i2, i3, by simpa using i4, by simp, hS2, ho⟩
 unfold walkR
 rw [if_pos hr, hS', show (t.start + (d : Int) - t.start).toNat = d by omega]
 exact i1
end Go.Proofs.YthcmpcekmkioaaaGreat
namespace Go.Proofs.YthcmpcekmkioaaaGreat
open Go.RowKit
theorem evErr_ok {t : Tm} {e : Ev} (h : evErr t e = 0) : t.err = 0 ∧ 1 ≤ e.kind ∧ e.kind ≤ 6 ∧ ((e.kind = 2 ∧ e.tranche = 0) ∨ (¬ e.kind = 2 ∧ 1 ≤ e.tranche ∧ e.tranche ≤ t.trs.length)) ∧ ((e.kind = 6 ∧ 0 ≤ e.amount ∧ e.amount ≤ 10000000) ∨ (¬ e.kind = 6 ∧ 1 ≤ e.amount ∧ e.amount ≤ 1000000000000000)) ∧ t.start ≤ e.day ∧ e.day ≤ 2932896 := by
 unfold evErr at h
 split at h
 ·cases h
 ·split at h
  ·cases h
  ·split at h
   ·cases h
   ·split at h
    ·cases h
    ·split at h
     ·cases h
     ·refine ⟨by omega, by omega, by omega, by omega, by omega, by omega, by omega⟩
theorem mayA_of {p : Ps} {R : List Int} {e : Ev} (hp : p.rightB = true) (hl : R.length = p.bal.length) (hr : ∀ x ∈ R, 0 ≤ x ∧ x ≤ 10000000) (h1 : 1 ≤ e.kind) (h6 : e.kind ≤ 6) (ht : e.kind = 2 ∨ (1 ≤ e.tranche ∧ e.tranche ≤ R.length)) (hm : e.kind = 6 → 0 ≤ e.amount ∧ e.amount ≤ 10000000) : mayA p R e = true := by
 have hany : R.any rateB = false := by
  rcases hb : R.any rateB with _ | _
  ·rfl
  ·obtain ⟨x, hx, hq⟩ := List.any_eq_true.1 hb
   rw [(rateB_iff x).2 (hr x hx)] at hq
   cases hq
 have k1 : decide (e.kind < 1) = false := by simp; omega
 have k6 : decide (6 < e.kind) = false := by simp; omega
 have kt : ((e.kind != 2) && (decide (e.tranche < 1) || decide ((R.length : Int) < e.tranche))) = false := by
  rcases ht with h | h
  ·simp [h]
  ·have a1 : decide (e.tranche < 1) = false := by simp; omega
   have a2 : decide ((R.length : Int) < e.tranche) = false := by simp; omega
   simp [a1, a2]
 have km : ((e.kind != 6) || (decide (0 ≤ e.amount) && decide (e.amount ≤ 10000000))) = true := by
  by_cases h : e.kind = 6
  ·have := hm h; simp [this]
  ·simp [h]
 unfold mayA
 rw [hp, hl, hany, k1, k6, km]
 rw [hl] at kt
 rw [kt]
 simp
theorem applyR_err {t : Tm} {p : Ps} {R : List Int} {e : Ev} (he : evErr t e = 0) (hp : p.rightB = true) (hb : p.bal.length = t.trs.length) (hl : R.length = t.trs.length) (hr : ∀ x ∈ R, 0 ≤ x ∧ x ≤ 10000000) : (applyR p R e).2.2 = 0 ∨ (applyR p R e).2.2 = 5 := by
 obtain ⟨h0, h1, h6, ht, ha, hd⟩ := evErr_ok he
 have hmay := mayA_of (e := e) hp (hl.trans hb.symm) hr h1 h6 (by rw [hl]; omega) (fun hk => by omega)
 have hask : ∀ T : List Int, (∀ k ∈ T, 1 ≤ k ∧ k ≤ t.trs.length) → ¬ e.kind = 6 → askE p T e.amount = 0 := fun T hT hk => by
  have h2 : T.all (trB p.bal.length) = true := List.all_eq_true.2 fun k hk' => by
   have := hT k hk'
   simp only [trB, Bool.and_eq_true, decide_eq_true_eq]
   omega
  have h3 : moneyP e.amount = true := by simp only [moneyP, Bool.and_eq_true, decide_eq_true_eq]; omega
  unfold askE
  rw [if_pos hp, if_pos h2, if_pos h3]
 have hq : (applyQ p R e).2 = 0 ∨ (applyQ p R e).2 = 5 := by
  unfold applyQ
  split
  ·rename_i hk
   unfold chargeR
   rw [if_pos (hask [e.tranche] (fun k hk' => by have hk2 : k = e.tranche := (by simpa using hk'); subst hk2; omega) (by omega))]
   split
   ·exact .inl rfl
   ·exact .inr rfl
  ·split
   ·rename_i hk
    unfold payR
    rw [if_pos (hask [] (by simp) (by omega))]
    split
    ·exact .inl rfl
    ·exact .inr rfl
   ·split
    ·rename_i hk
     unfold giveR
     rw [if_pos (hask [e.tranche] (fun k hk' => by have hk2 : k = e.tranche := (by simpa using hk'); subst hk2; omega) (by omega))]
     split
     ·exact .inl rfl
     ·exact .inr rfl
    ·exact .inl rfl
 unfold applyR
 rw [if_pos hmay]
 rcases hq with h | h
 ·rw [if_pos h]; exact .inl rfl
 ·rw [if_neg (by rw [h]; decide)]; exact .inr h
theorem evR_err {t : Tm} (day : Int) : ∀ (M : List Ev) (i : Nat) (p : Ps) (R : List Int), (∀ x ∈ M, evErr t x = 0) → p.rightB = true → p.bal.length = t.trs.length → R.length = t.trs.length → (∀ x ∈ R, 0 ≤ x ∧ x ≤ 10000000) → (evR day M i p R).2.2.2 = 0 ∨ (evR day M i p R).2.2.2 = 5 := by
 intro M
 induction M with
 | nil => intro i p R _ _ _ _ _; exact .inl rfl
 | cons e M ih =>
  intro i p R hM hp hb hl hr
  have he := applyR_err (hM e (List.mem_cons_self ..)) hp hb hl hr
  unfold evR
  split
  ·split
   ·rename_i h0
    obtain ⟨a1, a2, a3, a4⟩ := applyR_ok h0
    exact ih _ _ _ (fun x hx => hM x (List.mem_cons_of_mem _ hx)) a3 (a1.trans hb) (a2.trans hl) a4
   ·rename_i h0
    exact he.elim (fun h => absurd h h0) .inr
  ·exact .inl rfl
theorem evR_stop {day : Int} {M : List Ev} {i : Nat} {p : Ps} {R : List Int} (h : ∀ x ∈ M, ¬ x.day = day) : evR day M i p R = (i, p, R, 0) := by
 cases M with
 | nil => rfl
 | cons e M => unfold evR; rw [if_neg (h e (List.mem_cons_self ..))]
theorem walkD_err {t : Tm} {T : List Ev} (hz : t.err = 0) (hT : ∀ x ∈ T, evErr t x = 0) : ∀ (d : Nat) (S : List (Int × Int)) (s : St) (len : Nat), StOk t.trs.length s len → (walkD t T t.trs.length d S s).2 = 0 ∨ (walkD t T t.trs.length d S s).2 = 5 := by
 intro d
 induction d with
 | zero =>
  intro S s len h
  unfold walkD
  exact evR_err _ _ _ _ _ (fun x hx => hT x (List.mem_of_mem_drop hx)) h.pr h.nb h.nr h.rt
 | succ d ih =>
  intro S s len h
  have he := evR_err (t := t) s.day (T.drop s.i) s.i s.p s.R (fun x hx => hT x (List.mem_of_mem_drop hx)) h.pr h.nb h.nr h.rt
  unfold walkD
  split
  ·rename_i h0
   have h1 := (h.ev h0).fin
   split
   ·exact .inr rfl
   ·split
    ·split
     ·exact .inr rfl
     ·rename_i s2 hc
      obtain ⟨k1, k2, k3, k4⟩ := closeS_ok hz rfl h1 hc
      exact ih _ _ 0 ⟨k1.pr, k1.nb, k1.nr, k1.rt, k1.n0, k1.n1, k1.m0, k1.m1⟩
    ·exact ih _ _ (len + 1) ⟨h1.pr, h1.nb, h1.nr, h1.rt, h1.n0, h1.n1, h1.m0, h1.m1⟩
  ·rename_i h0
   exact he.elim (fun h => absurd h h0) .inr
inductive SpanN (day : Int) : Int → List (Int × Int) → List (Int × Int) → Prop
 | same {fr te : Int} : SpanOk fr te → fr ≤ day → day + 1 ≤ te → SpanN day fr [(fr, te)] [(fr, te)]
 | next {fr te te2 : Int} : SpanOk fr te → fr ≤ day → day = te → SpanOk (te + 1) te2 → SpanN day fr [(fr, te)] [(fr, te), (te + 1, te2)]
 | more {fr te : Int} {S S2 : List (Int × Int)} : SpanOk fr te → te < day → SpanN day (te + 1) S S2 → SpanN day fr ((fr, te) :: S) ((fr, te) :: S2)
theorem SpanN.head {day fr : Int} {S S2 : List (Int × Int)} (h : SpanN day fr S S2) : ∃ te S' S2', S = (fr, te) :: S' ∧ S2 = (fr, te) :: S2' ∧ SpanOk fr te ∧ fr ≤ day ∧ (te < day → SpanN day (te + 1) S' S2') := by
 cases h with
 | same h1 h2 h3 => exact ⟨_, _, _, rfl, rfl, h1, h2, fun h => by omega⟩
 | next h1 h2 h3 h4 => exact ⟨_, _, _, rfl, rfl, h1, h2, fun h => by omega⟩
 | more h1 h2 h3 => exact ⟨_, _, _, rfl, rfl, h1, by have := h1.le; omega, fun _ => h3⟩
theorem find_next (cd day : Int) : ∀ (f f2 : Nat) (fr : Int), (findW cd day f fr).2 = true → (findW cd (day + 1) f2 fr).2 = true → SpanN day fr (findW cd day f fr).1 (findW cd (day + 1) f2 fr).1 := by
 intro f
 induction f with
 | zero => intro f2 fr h; cases h
 | succ f ih =>
  intro f2 fr h h2
  cases f2 with
  | zero => cases h2
  | succ f2 =>
   by_cases hl : lastE fr cd = 0
   ·obtain ⟨c1, c2, g1, g2, g3, g4⟩ := lastE_ok hl
    have hge := lastF_ge (fr := fr) (cd := cd) g1 g2 c1 c2
    have hok : SpanOk fr (lastF fr cd) := ⟨g1, hge.1, g3, hge.2⟩
    by_cases hd : lastF fr cd < day ∧ f ≠ 0
    ·rw [findW_go hl hd] at h ⊢
     by_cases hd2 : lastF fr cd < day + 1 ∧ f2 ≠ 0
     ·rw [findW_go hl hd2] at h2 ⊢
      exact .more hok hd.1 (ih f2 _ h h2)
     ·rw [findW_stop hl hd2] at h2
      simp at h2
      omega
    ·rw [findW_stop hl hd] at h ⊢
     simp only [Bool.and_eq_true, decide_eq_true_eq] at h
     by_cases hd2 : lastF fr cd < day + 1 ∧ f2 ≠ 0
     ·rw [findW_go hl hd2] at h2 ⊢
      simp only at h2
      have he : lastF fr cd = day := by omega
      cases f2 with
      | zero => exact absurd rfl hd2.2
      | succ f2 =>
       by_cases hl2 : lastE (lastF fr cd + 1) cd = 0
       ·obtain ⟨_, _, e1, e2, e3, e4⟩ := lastE_ok hl2
        have hge2 := lastF_ge (fr := lastF fr cd + 1) (cd := cd) e1 e2 c1 c2
        have hns : ¬ (lastF (lastF fr cd + 1) cd < day + 1 ∧ f2 ≠ 0) := by omega
        rw [findW_stop hl2 hns] at h2 ⊢
        exact .next hok h.1 he.symm ⟨e1, hge2.1, e3, hge2.2⟩
       ·rw [findW_bad hl2] at h2; cases h2
     ·rw [findW_stop hl hd2] at h2 ⊢
      simp only [Bool.and_eq_true, decide_eq_true_eq] at h2
      exact .same hok h.1 h2.2
   ·rw [findW_bad hl] at h; cases h
theorem goes_on {t : Tm} {T : List Ev} (hz : t.err = 0) : ∀ (d : Nat) (S S2 : List (Int × Int)) (s : St) (len : Nat) (Z1 Z2 : St × Int) (fr : Int), SpanN (s.day + d) fr S S2 → (∀ x ∈ T, x.day ≤ s.day + d) → (∀ te S', S = (fr, te) :: S' → s.day ≤ te) → StOk t.trs.length s len →
  walkD t T t.trs.length d S s = Z1 → Z1.2 = 0 → walkD t T t.trs.length (d + 1) S2 s = Z2 → Z2.2 = 0 →
  Z1.1.out.length + 1 = s.out.length + S.length ∧ Z2.1.out.length + 1 = s.out.length + S2.length ∧ ((Z2.1.out = Z1.1.out ∧ Z2.1.p = Z1.1.p) ∨ ∃ X, Z2.1.out = Z1.1.out ++ [X]) := by
 intro d
 induction d with
 | zero =>
  intro S S2 s len Z1 Z2 fr hS hT hte hst h1 z1 h2 z2
  obtain ⟨te, S', S2', rfl, rfl, hok, hfr, hmo⟩ := hS.head
  have hdt := hte te S' rfl
  subst h1
  unfold walkD at z1 ⊢
  have hev := (hst.ev z1)
  unfold walkD at h2
  rw [if_pos z1] at h2
  simp only at h2
  have hno : ∀ (i : Nat), ∀ x ∈ T.drop i, ¬ x.day = s.day + 1 := fun i x hx e => by have := hT x (List.mem_of_mem_drop hx); omega
  by_cases hcl : te = s.day
  ·rw [if_pos hcl] at h2
   cases hS with
   | same _ _ h5 => omega
   | more _ h5 _ => omega
   | next _ _ _ h6 =>
    split at h2
    ·subst h2; cases z2
    ·rename_i s2 hc
     obtain ⟨x, e1, _⟩ := closeS_lines hz rfl hev.fin hc
     subst h2
     unfold walkD
     have e1' : s2.out = s.out ++ [x] := e1
     refine ⟨rfl, ?_, .inr ⟨x, ?_⟩⟩
     ·show s2.out.length + 1 = _
      rw [e1', List.length_append]; rfl
     ·show s2.out = _
      rw [e1']; rfl
  ·rw [if_neg hcl] at h2
   cases hS with
   | next _ _ h5 _ => omega
   | more _ h5 _ => omega
   | same _ _ _ =>
    subst h2
    unfold walkD
    refine ⟨rfl, rfl, .inl ⟨rfl, ?_⟩⟩
    have := evR_stop (i := (evR s.day (T.drop s.i) s.i s.p s.R).1) (p := (evR s.day (T.drop s.i) s.i s.p s.R).2.1) (R := (evR s.day (T.drop s.i) s.i s.p s.R).2.2.1) (hno (evR s.day (T.drop s.i) s.i s.p s.R).1)
    simp only [endSt, evSt]
    rw [this]
 | succ d ih =>
  intro S S2 s len Z1 Z2 fr hS hT hte hst h1 z1 h2 z2
  obtain ⟨te, S', S2', rfl, rfl, hok, hfr, hmo⟩ := hS.head
  have hdt := hte te S' rfl
  unfold walkD at h1 h2
  by_cases h0 : (evR s.day (T.drop s.i) s.i s.p s.R).2.2.2 = 0
  ·rw [if_pos h0] at h1 h2
   simp only at h1 h2
   have hf := (hst.ev h0).fin
   by_cases hcl : te = s.day
   ·rw [if_pos hcl] at h1 h2
    split at h1
    ·subst h1; cases z1
    ·rename_i s2 hc
     rw [hc] at h2
     simp only at h2
     obtain ⟨x, e1, _⟩ := closeS_lines hz rfl hf hc
     obtain ⟨k1, k2, k3, k4⟩ := closeS_ok hz rfl hf hc
     have hn := hmo (by omega)
     obtain ⟨te', S3, S4, rfl, rfl, hok', hfr', _⟩ := hn.head
     have hst2 : StOk t.trs.length { s2 with day := s.day + 1 } 0 := ⟨k1.pr, k1.nb, k1.nr, k1.rt, k1.n0, k1.n1, k1.m0, k1.m1⟩
     have hq := ih _ _ _ 0 Z1 Z2 (te + 1) (by show SpanN (s.day + 1 + d) _ _ _; rw [show s.day + 1 + (d : Int) = s.day + ((d + 1 : Nat) : Int) by omega]; exact hn) (fun x hx => by have := hT x hx; show x.day ≤ s.day + 1 + d; omega) (fun te2 S5 e => by injection e with e _; injection e with _ e; subst e; have := hok'.le; show s.day + 1 ≤ te'; omega) hst2 h1 z1 h2 z2
     have hl : ({ s2 with day := s.day + 1 } : St).out.length = s.out.length + 1 := by show s2.out.length = _; exact k2
     rw [hl] at hq
     simp only [List.length_cons] at hq ⊢
     exact ⟨by omega, by omega, hq.2.2⟩
   ·rw [if_neg hcl] at h1 h2
    obtain ⟨s3, hs3⟩ : ∃ s3 : St, s3 = { endSt (evSt s (evR s.day (T.drop s.i) s.i s.p s.R)) t.trs.length t.trs.length with day := s.day + 1 } := ⟨_, rfl⟩
    have h1' : walkD t T t.trs.length d ((fr, te) :: S') s3 = Z1 := by rw [hs3]; exact h1
    have h2' : walkD t T t.trs.length (d + 1) ((fr, te) :: S2') s3 = Z2 := by rw [hs3]; exact h2
    have hk : StOk t.trs.length s3 (len + 1) := by rw [hs3]; exact ⟨hf.pr, hf.nb, hf.nr, hf.rt, hf.n0, hf.n1, hf.m0, hf.m1⟩
    have hday : s3.day = s.day + 1 := by rw [hs3]
    have ho : s3.out = s.out := by rw [hs3]; rfl
    have hq := ih _ _ s3 (len + 1) Z1 Z2 fr (by rw [hday, show s.day + 1 + (d : Int) = s.day + ((d + 1 : Nat) : Int) by omega]; exact hS) (fun x hx => by have := hT x hx; rw [hday]; omega) (fun te2 S5 e => by injection e with e _; injection e with _ e; subst e; rw [hday]; omega) hk h1' z1 h2' z2
    rw [ho] at hq
    exact hq
  ·rw [if_neg h0] at h1
   subst h1
   exact absurd z1 h0
theorem repErr_play {t : Tm} {L : List Ev} {td : Int} (hz : t.err = 0) (hL : ∀ x ∈ L, evErr t x = 0 ∧ x.day ≤ td) (hl : L.length ≤ 2000) (h0 : t.start ≤ td) (h1 : td ≤ 100000) (h2 : td < t.start + 8000) : repErr t L td = 0 := by
 obtain ⟨_, _, hc, _, _, _, hst⟩ := tm_nums hz
 obtain ⟨ho, _⟩ := ofE_far (st := t.start) (day := td) hc (by omega) h0 h1 h2
 have hall : L.any (lateQ td) = false := by
  rcases hb : L.any (lateQ td) with _ | _
  ·rfl
  ·obtain ⟨x, hx, hq⟩ := List.any_eq_true.1 hb
   have := (hL x hx).2
   simp [lateQ] at hq
   omega
 unfold repErr
 rw [if_pos hz, if_pos (evsErr_all (fun x hx => (hL x hx).1)), if_neg (by omega), if_neg (by omega), if_neg (by rw [ho]; simp), hall]
 rfl
theorem walkR_err {t : Tm} {L : List Ev} {td : Int} (hz : t.err = 0) (hL : ∀ x ∈ L, evErr t x = 0 ∧ x.day ≤ td) (hl : L.length ≤ 2000) (h0 : t.start ≤ td) (h1 : td ≤ 100000) (h2 : td < t.start + 8000) : (walkR t L td).2 = 0 ∨ (walkR t L td).2 = 5 := by
 unfold walkR
 rw [if_pos (repErr_play hz hL hl h0 h1 h2)]
 have hs := (sortL_spec L).2
 exact walkD_err hz (fun x hx => (hL x (hs.mem hx)).1) _ _ _ 0 (st0_ok hz)
theorem walkR_goes {t : Tm} {L : List Ev} {td : Int} (hz : t.err = 0) (hL : ∀ x ∈ L, evErr t x = 0 ∧ x.day ≤ td) (hl : L.length ≤ 2000) (h0 : t.start ≤ td) (h1 : td ≤ 90000) (h2 : td < t.start + 7000) (e1 : (walkR t L td).2 = 0) (e2 : (walkR t L (td + 1)).2 = 0) :
  ((walkR t L (td + 1)).1.out.length : Int) = ofV t.start t.cyc (td + 1) - 1 ∧ (((walkR t L (td + 1)).1.out = (walkR t L td).1.out ∧ (walkR t L (td + 1)).1.p = (walkR t L td).1.p) ∨ ∃ X, (walkR t L (td + 1)).1.out = (walkR t L td).1.out ++ [X]) := by
 obtain ⟨_, _, hc, _, _, _, hst⟩ := tm_nums hz
 obtain ⟨o1, f1⟩ := ofE_far (st := t.start) (day := td) hc (by omega) h0 (by omega) (by omega)
 obtain ⟨o2, f2⟩ := ofE_far (st := t.start) (day := td + 1) hc (by omega) (by omega) (by omega) (by omega)
 have r1 := repErr_play hz hL hl h0 (by omega) (by omega)
 have r2 := repErr_play (td := td + 1) hz (fun x hx => ⟨(hL x hx).1, by have := (hL x hx).2; omega⟩) hl (by omega) (by omega) (by omega)
 have a1 : allL t.start t.cyc td = (findW t.cyc td 300 t.start).1 := by unfold allL; rw [if_pos f1]
 have a2 : allL t.start t.cyc (td + 1) = (findW t.cyc (td + 1) 300 t.start).1 := by unfold allL; rw [if_pos f2]
 have hn := find_next t.cyc td 300 300 t.start f1 f2
 rw [← a1, ← a2] at hn
 have w1 : walkR t L td = walkD t (sortL L) t.trs.length (td - t.start).toNat (allL t.start t.cyc td) (st0 t) := by unfold walkR; rw [if_pos r1]
 have w2 : walkR t L (td + 1) = walkD t (sortL L) t.trs.length ((td - t.start).toNat + 1) (allL t.start t.cyc (td + 1)) (st0 t) := by
  unfold walkR; rw [if_pos r2, show (td + 1 - t.start).toNat = (td - t.start).toNat + 1 by omega]
 have hs := (sortL_spec L).2
 have hd : (st0 t).day = t.start := rfl
 have hq := goes_on hz (td - t.start).toNat _ _ (st0 t) 0 _ _ t.start (by rw [hd, show t.start + ((td - t.start).toNat : Int) = td by omega]; exact hn) (fun x hx => by have := (hL x (hs.mem hx)).2; rw [hd]; omega) (fun te S' e => by
  obtain ⟨te2, S3, S4, e3, _, hok, _⟩ := hn.head
  rw [e] at e3
  injection e3 with e3 _
  injection e3 with _ e3
  rw [e3]
  exact hok.le) (st0_ok hz) rfl (by rw [← w1]; exact e1) rfl (by rw [← w2]; exact e2)
 rw [← w1, ← w2] at hq
 have hv : ofV t.start t.cyc (td + 1) = ((allL t.start t.cyc (td + 1)).length : Int) := by unfold ofV; rw [if_pos o2, a2]
 have h3 : (st0 t).out.length = 0 := rfl
 refine ⟨?_, hq.2.2⟩
 rw [hv]
 omega
end Go.Proofs.YthcmpcekmkioaaaGreat
namespace Go.Proofs.YthcmpcekmkioaaaGreat
open Go.RowKit
set_option maxRecDepth 100000 in
set_option maxHeartbeats 3200000 in
theorem revRight_go (li cy du mf mp st ki da tr am re : Int) (L : List Tn) (n : Nat) (ad : Option Addr) (cap : Nat) (w : World) (hr : Reads w 2 (.slice ad n cap) n (L.flatMap Tn.cells)) (hl : n ≤ 1000000) (hn : L.length = n) :
  Calls Tryz.prog 36 #[.agg #[.int .i64 li, .slice ad n cap, .int .i64 cy, .int .i64 du, .int .i64 mf, .int .i64 mp, .int .i64 st], .agg #[.int .i64 ki, .int .i64 da, .int .i64 tr, .int .i64 am, .int .i64 re]] w fun e w' => e = .returned (.int .i64 (evErr ⟨li, cy, du, mf, mp, st, L⟩ ⟨ki, da, tr, am, re⟩)) ∧ Keeps (fun _ => False) w w' := by
 have hc := evCells_of w n ad cap li cy du mf mp st ki da tr am re
 obtain ⟨z, hz⟩ : ∃ z, evErr ⟨li, cy, du, mf, mp, st, L⟩ ⟨ki, da, tr, am, re⟩ = z := ⟨_, rfl⟩
 rw [hz]
 obtain ⟨y, hy⟩ : ∃ y, Tm.err ⟨li, cy, du, mf, mp, st, L⟩ = y := ⟨_, rfl⟩
 have hy2 := Tm.err_or ⟨li, cy, du, mf, mp, st, L⟩
 rw [hy] at hy2
 unfold evErr at hz
 rw [hy, hn] at hz
 dsimp only at hz
 obtain ⟨Hr, Hn, Hc, Hz, Hy⟩ := hid5 hr hn hc hz hy; clear hy hz hc hn hr
 go_enter Tryz.func36, Tryz.ntmps36
 go_wp2_with (go_at_call 35; ((with_reducible refine (rtmRight_at ⟨li, cy, du, mf, mp, st, L⟩ (.slice ad n cap) _ Hy.out (by rw [Hn.out]; exact (Hr.out.keeps (S := fun _ => False) (by (repeat (first | exact Keeps.refl _ _ | exact Keeps.alloc _ _ | exact Keeps.drew _ | exact Keeps.drewN _ _ | refine Keeps.trans_drew ?_ | refine Keeps.trans_drewN ?_ | refine Keeps.trans_alloc ?_))) (by simp))) (by rw [Hn.out]; omega)).mono ?_); rintro e w1 ⟨rfl, hk1⟩; obtain ⟨c1, c6, d0, d1, d2, d3, d4⟩ := Hc.out _ hk1; have Hk1 := Lib.hid hk1; clear hk1; refine haltE ?_))
 refine Lib.hid ?_
 rcases hy2 with rfl | rfl
 ·have hz := Hz.out
  clear Hz
  rw [if_neg (by decide)] at hz
  go_upto_region 3 with fail
  go_cut [18] from 11 to 18 (fun s18 wx => s18 = .bool (decide (ki < 1 ∨ 6 < ki)) ∧ w1 = wx)
  case first =>
   have Hz := Lib.hid hz; clear hz
   by_cases q6 : ki < 1
   ·skip
    go_wp2_with fail
    go_meet
    exact ⟨congrArg Value.bool (decide_eq_true (by omega)).symm, rfl⟩
   ·skip
    by_cases q8 : 6 < ki
    ·skip
     go_wp2_with fail
     go_meet
     exact ⟨congrArg Value.bool (decide_eq_true (by omega)).symm, rfl⟩
    ·skip
     go_wp2_with fail
     go_meet
     first | exact ⟨congrArg Value.bool (decide_eq_false (by omega)).symm, rfl⟩ | exact ⟨congrArg Value.bool ((show _ = false by simp; omega).trans (decide_eq_false (by omega)).symm), rfl⟩
  case rest =>
   obtain ⟨rfl, rfl⟩ := hcut
   by_cases c3 : ki < 1 ∨ 6 < ki
   ·rw [if_pos c3] at hz
    rw [decide_eq_true c3]
    clear c3
    subst hz
    go_wp2_with fail
    go_ret
    exact ⟨rfl, Keeps.nt (by (repeat (first | exact Keeps.refl _ _ | exact Keeps.alloc _ _ | exact Keeps.drew _ | exact Keeps.drewN _ _ | refine Keeps.trans_drew ?_ | refine Keeps.trans_drewN ?_ | refine Keeps.trans_alloc ?_))) Hk1.out⟩
   rw [if_neg c3] at hz
   rw [decide_eq_false c3]
   clear c3
   go_upto_region 5 with fail
   go_cut [44] from 19 to 44 (fun s44 wx => s44 = .bool (decide ((ki = 2 ∧ ¬ tr = 0) ∨ (¬ ki = 2 ∧ (tr < 1 ∨ (n : Int) < tr)))) ∧ w1 = wx)
   case first =>
    have Hz := Lib.hid hz; clear hz
    by_cases q8 : ki = 2
    ·skip
     have p8 : (ki == 2) = true := by simp [q8]
     have p8' : (ki != 2) = false := by simp [q8]
     have Q8 := Lib.hid q8; clear q8
     by_cases q10 : tr = 0
     ·skip
      have p10 : (tr == 0) = true := by simp [q10]
      have p10' : (tr != 0) = false := by simp [q10]
      have Q10 := Lib.hid q10; clear q10
      go_wp2_with fail
      go_meet
      have q8 := Q8.out
      have q10 := Q10.out
      first | exact ⟨congrArg Value.bool (decide_eq_false (by omega)).symm, rfl⟩ | exact ⟨congrArg Value.bool ((show _ = false by simp; omega).trans (decide_eq_false (by omega)).symm), rfl⟩
     ·skip
      have p10 : (tr == 0) = false := by simp [q10]
      have p10' : (tr != 0) = true := by simp [q10]
      have Q10 := Lib.hid q10; clear q10
      go_wp2_with fail
      go_meet
      have q8 := Q8.out
      have q10 := Q10.out
      exact ⟨congrArg Value.bool (decide_eq_true (by omega)).symm, rfl⟩
    ·skip
     have p8 : (ki == 2) = false := by simp [q8]
     have p8' : (ki != 2) = true := by simp [q8]
     have Q8 := Lib.hid q8; clear q8
     by_cases q10 : tr < 1
     ·skip
      go_wp2_with fail
      go_meet
      have q8 := Q8.out
      exact ⟨congrArg Value.bool (decide_eq_true (by omega)).symm, rfl⟩
     ·skip
      by_cases q12 : (n : Int) < tr
      ·skip
       go_wp2_with fail
       go_meet
       have q8 := Q8.out
       exact ⟨congrArg Value.bool (decide_eq_true (by omega)).symm, rfl⟩
      ·skip
       go_wp2_with fail
       go_meet
       have q8 := Q8.out
       first | exact ⟨congrArg Value.bool (decide_eq_false (by omega)).symm, rfl⟩ | exact ⟨congrArg Value.bool ((show _ = false by simp; omega).trans (decide_eq_false (by omega)).symm), rfl⟩
   case rest =>
    obtain ⟨rfl, rfl⟩ := hcut
    by_cases c5 : (ki = 2 ∧ ¬ tr = 0) ∨ (¬ ki = 2 ∧ (tr < 1 ∨ (n : Int) < tr))
    ·rw [if_pos c5] at hz
     rw [decide_eq_true c5]
     clear c5
     subst hz
     go_wp2_with fail
     go_ret
     exact ⟨rfl, Keeps.nt (by (repeat (first | exact Keeps.refl _ _ | exact Keeps.alloc _ _ | exact Keeps.drew _ | exact Keeps.drewN _ _ | refine Keeps.trans_drew ?_ | refine Keeps.trans_drewN ?_ | refine Keeps.trans_alloc ?_))) Hk1.out⟩
    rw [if_neg c5] at hz
    rw [decide_eq_false c5]
    clear c5
    go_upto_if 47 with fail
    go_cut [5, 6] from 45 to 47 (fun s5 s6 wx => ∃ lo hi, s5 = .int .i64 lo ∧ s6 = .int .i64 hi ∧ Hid ((ki = 6 ∧ lo = 0 ∧ hi = 10000000) ∨ (¬ ki = 6 ∧ lo = 1 ∧ hi = 1000000000000000)) ∧ w1 = wx)
    case first =>
     have Hz := Lib.hid hz; clear hz
     by_cases q : ki = 6
     ·have p : (ki == 6) = true := by simp [q]
      have Q := Lib.hid q; clear q
      go_wp2_with fail
      go_meet
      exact ⟨_, _, rfl, rfl, Lib.hid (.inl ⟨Q.out, rfl, rfl⟩), rfl⟩
     ·have p : (ki == 6) = false := by simp [q]
      have Q := Lib.hid q; clear q
      go_wp2_with fail
      go_meet
      exact ⟨_, _, rfl, rfl, Lib.hid (.inr ⟨Q.out, rfl, rfl⟩), rfl⟩
    case rest =>
     obtain ⟨lo, hi, rfl, rfl, Hlh, rfl⟩ := hcut
     go_upto_region 10 with fail
     go_cut [57] from 48 to 57 (fun s57 wx => s57 = .bool (decide (am < lo ∨ hi < am)) ∧ w1 = wx)
     case first =>
      have Hz := Lib.hid hz; clear hz
      by_cases q12 : am < lo
      ·skip
       go_wp2_with fail
       go_meet
       exact ⟨congrArg Value.bool (decide_eq_true (by omega)).symm, rfl⟩
      ·skip
       by_cases q14 : hi < am
       ·skip
        go_wp2_with fail
        go_meet
        exact ⟨congrArg Value.bool (decide_eq_true (by omega)).symm, rfl⟩
       ·skip
        go_wp2_with fail
        go_meet
        first | exact ⟨congrArg Value.bool (decide_eq_false (by omega)).symm, rfl⟩ | exact ⟨congrArg Value.bool ((show _ = false by simp; omega).trans (decide_eq_false (by omega)).symm), rfl⟩
     case rest =>
      obtain ⟨rfl, rfl⟩ := hcut
      by_cases c10 : am < lo ∨ hi < am
      ·rw [if_pos (show (ki = 6 ∧ (am < 0 ∨ 10000000 < am)) ∨ (¬ ki = 6 ∧ (am < 1 ∨ 1000000000000000 < am)) by rcases Hlh.out with ⟨h1, h2, h3⟩ | ⟨h1, h2, h3⟩ <;> omega)] at hz
       rw [decide_eq_true c10]
       clear c10
       subst hz
       go_wp2_with fail
       go_ret
       exact ⟨rfl, Keeps.nt (by (repeat (first | exact Keeps.refl _ _ | exact Keeps.alloc _ _ | exact Keeps.drew _ | exact Keeps.drewN _ _ | refine Keeps.trans_drew ?_ | refine Keeps.trans_drewN ?_ | refine Keeps.trans_alloc ?_))) Hk1.out⟩
      rw [if_neg (show ¬ ((ki = 6 ∧ (am < 0 ∨ 10000000 < am)) ∨ (¬ ki = 6 ∧ (am < 1 ∨ 1000000000000000 < am))) by rcases Hlh.out with ⟨h1, h2, h3⟩ | ⟨h1, h2, h3⟩ <;> omega)] at hz
      rw [decide_eq_false c10]
      clear c10
      go_upto_region 12 with fail
      go_cut [67] from 58 to 67 (fun s67 wx => s67 = .bool (decide (da < st ∨ 2932896 < da)) ∧ w1 = wx)
      case first =>
       have Hz := Lib.hid hz; clear hz
       by_cases q14 : da < st
       ·skip
        go_wp2_with fail
        go_meet
        exact ⟨congrArg Value.bool (decide_eq_true (by omega)).symm, rfl⟩
       ·skip
        by_cases q16 : 2932896 < da
        ·skip
         go_wp2_with fail
         go_meet
         exact ⟨congrArg Value.bool (decide_eq_true (by omega)).symm, rfl⟩
        ·skip
         go_wp2_with fail
         go_meet
         first | exact ⟨congrArg Value.bool (decide_eq_false (by omega)).symm, rfl⟩ | exact ⟨congrArg Value.bool ((show _ = false by simp; omega).trans (decide_eq_false (by omega)).symm), rfl⟩
      case rest =>
       obtain ⟨rfl, rfl⟩ := hcut
       by_cases c12 : da < st ∨ 2932896 < da
       ·rw [if_pos c12] at hz
        rw [decide_eq_true c12]
        clear c12
        subst hz
        go_wp2_with fail
        go_ret
        exact ⟨rfl, Keeps.nt (by (repeat (first | exact Keeps.refl _ _ | exact Keeps.alloc _ _ | exact Keeps.drew _ | exact Keeps.drewN _ _ | refine Keeps.trans_drew ?_ | refine Keeps.trans_drewN ?_ | refine Keeps.trans_alloc ?_))) Hk1.out⟩
       rw [if_neg c12] at hz
       rw [decide_eq_false c12]
       clear c12
       go_upto_region 14 with fail
       go_cut [7] from 68 to 75 (fun s7 wx => s7 = .bool (decide (ki = 4 ∨ ki = 5)) ∧ w1 = wx)
       case first =>
        have Hz := Lib.hid hz; clear hz
        by_cases q16 : ki = 4
        ·skip
         have p16 : (ki == 4) = true := by simp [q16]
         have p16' : (ki != 4) = false := by simp [q16]
         have Q16 := Lib.hid q16; clear q16
         go_wp2_with fail
         go_meet
         have q16 := Q16.out
         exact ⟨congrArg Value.bool (decide_eq_true (by omega)).symm, rfl⟩
        ·skip
         have p16 : (ki == 4) = false := by simp [q16]
         have p16' : (ki != 4) = true := by simp [q16]
         have Q16 := Lib.hid q16; clear q16
         by_cases q18 : ki = 5
         ·skip
          have p18 : (ki == 5) = true := by simp [q18]
          have p18' : (ki != 5) = false := by simp [q18]
          have Q18 := Lib.hid q18; clear q18
          go_wp2_with fail
          go_meet
          have q16 := Q16.out
          have q18 := Q18.out
          exact ⟨congrArg Value.bool (decide_eq_true (by omega)).symm, rfl⟩
         ·skip
          have p18 : (ki == 5) = false := by simp [q18]
          have p18' : (ki != 5) = true := by simp [q18]
          have Q18 := Lib.hid q18; clear q18
          go_wp2_with fail
          go_meet
          have q16 := Q16.out
          have q18 := Q18.out
          first | exact ⟨congrArg Value.bool (decide_eq_false (by omega)).symm, rfl⟩ | exact ⟨congrArg Value.bool ((show _ = false by simp; omega).trans (decide_eq_false (by omega)).symm), rfl⟩
       case rest =>
        obtain ⟨rfl, rfl⟩ := hcut
        obtain ⟨d, hd⟩ : ∃ d, decide (ki = 4 ∨ ki = 5) = d := ⟨_, rfl⟩
        rw [hd]
        have Hd := Lib.hid hd; clear hd
        have hf : (((ki = 4 ∨ ki = 5) ∧ (re < 1 ∨ 2000 < re)) ∨ (¬ (ki = 4 ∨ ki = 5) ∧ ¬ re = 0)) = ((d = true ∧ (re < 1 ∨ 2000 < re)) ∨ (d = false ∧ ¬ re = 0)) := by
         cases d
         ·have := of_decide_eq_false Hd.out; simp [this]
         ·have := of_decide_eq_true Hd.out; simp [this]
        rw [ite_congr hf (fun _ => rfl) (fun _ => rfl)] at hz
        clear hf
        cases d
        ·skip
         have hf : ((false = true ∧ (re < 1 ∨ 2000 < re)) ∨ (false = false ∧ ¬ re = 0)) = (¬ re = 0) := by simp
         rw [ite_congr hf (fun _ => rfl) (fun _ => rfl)] at hz
         clear hf
         go_upto_region 15 with fail
         go_cut [95] from 76 to 95 (fun s95 wx => s95 = .bool (decide (¬ re = 0)) ∧ w1 = wx)
         case first =>
          have Hz := Lib.hid hz; clear hz
          by_cases q20 : re = 0
          ·skip
           have p20 : (re == 0) = true := by simp [q20]
           have p20' : (re != 0) = false := by simp [q20]
           have Q20 := Lib.hid q20; clear q20
           go_wp2_with fail
           go_meet
           have q20 := Q20.out
           first | exact ⟨congrArg Value.bool (decide_eq_false (by omega)).symm, rfl⟩ | exact ⟨congrArg Value.bool ((show _ = false by simp; omega).trans (decide_eq_false (by omega)).symm), rfl⟩
          ·skip
           have p20 : (re == 0) = false := by simp [q20]
           have p20' : (re != 0) = true := by simp [q20]
           have Q20 := Lib.hid q20; clear q20
           go_wp2_with fail
           go_meet
           have q20 := Q20.out
           exact ⟨congrArg Value.bool (decide_eq_true (by omega)).symm, rfl⟩
         case rest =>
          obtain ⟨rfl, rfl⟩ := hcut
          by_cases c15 : ¬ re = 0
          ·rw [if_pos c15] at hz
           rw [decide_eq_true c15]
           clear c15
           subst hz
           go_wp2_with fail
           go_ret
           exact ⟨rfl, Keeps.nt (by (repeat (first | exact Keeps.refl _ _ | exact Keeps.alloc _ _ | exact Keeps.drew _ | exact Keeps.drewN _ _ | refine Keeps.trans_drew ?_ | refine Keeps.trans_drewN ?_ | refine Keeps.trans_alloc ?_))) Hk1.out⟩
          rw [if_neg c15] at hz
          rw [decide_eq_false c15]
          clear c15
          subst hz
          go_wp2_with fail
          go_ret
          exact ⟨rfl, Keeps.nt (by (repeat (first | exact Keeps.refl _ _ | exact Keeps.alloc _ _ | exact Keeps.drew _ | exact Keeps.drewN _ _ | refine Keeps.trans_drew ?_ | refine Keeps.trans_drewN ?_ | refine Keeps.trans_alloc ?_))) Hk1.out⟩
        ·skip
         have hf : ((true = true ∧ (re < 1 ∨ 2000 < re)) ∨ (true = false ∧ ¬ re = 0)) = (re < 1 ∨ 2000 < re) := by simp
         rw [ite_congr hf (fun _ => rfl) (fun _ => rfl)] at hz
         clear hf
         go_upto_region 15 with fail
         go_cut [95] from 76 to 95 (fun s95 wx => s95 = .bool (decide (re < 1 ∨ 2000 < re)) ∧ w1 = wx)
         case first =>
          have Hz := Lib.hid hz; clear hz
          by_cases q20 : re < 1
          ·skip
           go_wp2_with fail
           go_meet
           exact ⟨congrArg Value.bool (decide_eq_true (by omega)).symm, rfl⟩
          ·skip
           by_cases q22 : 2000 < re
           ·skip
            go_wp2_with fail
            go_meet
            exact ⟨congrArg Value.bool (decide_eq_true (by omega)).symm, rfl⟩
           ·skip
            go_wp2_with fail
            go_meet
            first | exact ⟨congrArg Value.bool (decide_eq_false (by omega)).symm, rfl⟩ | exact ⟨congrArg Value.bool ((show _ = false by simp; omega).trans (decide_eq_false (by omega)).symm), rfl⟩
         case rest =>
          obtain ⟨rfl, rfl⟩ := hcut
          by_cases c15 : re < 1 ∨ 2000 < re
          ·rw [if_pos c15] at hz
           rw [decide_eq_true c15]
           clear c15
           subst hz
           go_wp2_with fail
           go_ret
           exact ⟨rfl, Keeps.nt (by (repeat (first | exact Keeps.refl _ _ | exact Keeps.alloc _ _ | exact Keeps.drew _ | exact Keeps.drewN _ _ | refine Keeps.trans_drew ?_ | refine Keeps.trans_drewN ?_ | refine Keeps.trans_alloc ?_))) Hk1.out⟩
          rw [if_neg c15] at hz
          rw [decide_eq_false c15]
          clear c15
          subst hz
          go_wp2_with fail
          go_ret
          exact ⟨rfl, Keeps.nt (by (repeat (first | exact Keeps.refl _ _ | exact Keeps.alloc _ _ | exact Keeps.drew _ | exact Keeps.drewN _ _ | refine Keeps.trans_drew ?_ | refine Keeps.trans_drewN ?_ | refine Keeps.trans_alloc ?_))) Hk1.out⟩
 ·have hz := Hz.out
  rw [if_pos (by decide)] at hz
  subst hz
  go_wp2_with fail
  go_ret
  exact ⟨rfl, Keeps.nt (by (repeat (first | exact Keeps.refl _ _ | exact Keeps.alloc _ _ | exact Keeps.drew _ | exact Keeps.drewN _ _ | refine Keeps.trans_drew ?_ | refine Keeps.trans_drewN ?_ | refine Keeps.trans_alloc ?_))) Hk1.out⟩
theorem revRight_any (t : Tm) (ev : Ev) (ad : Option Addr) (cap : Nat) (w : World) (hr : Reads w 2 (.slice ad t.trs.length cap) t.trs.length (t.trs.flatMap Tn.cells)) (hl : t.trs.length ≤ 1000000) :
  Calls Tryz.prog 36 #[t.val (.slice ad t.trs.length cap), ev.agg] w fun e w' => e = .returned (.int .i64 (evErr t ev)) ∧ Keeps (fun _ => False) w w' := revRight_go _ _ _ _ _ _ _ _ _ _ _ _ _ ad cap w hr hl rfl
end Go.Proofs.YthcmpcekmkioaaaGreat
namespace Go.Proofs.YthcmpcekmkioaaaGreat
open Go.RowKit
def peS (B b : Nat) (st da : Int) (W : World) : Prop := W.cell? ⟨B, 6, none⟩ = some (.int .i64 st) ∧ W.cell? ⟨b, 1, none⟩ = some (.int .i64 da)
theorem peS.keep {B b : Nat} {st da : Int} {W W' : World} (h : peS B b st da W) (hk : Keeps (fun _ => False) W W') : peS B b st da W' := ⟨(hk.cell (cell_lt h.1) (by simp)).trans h.1, (hk.cell (cell_lt h.2) (by simp)).trans h.2⟩
theorem haltP {p : Prop} (h : Hid p) : p := h.out
def PlayAt (w : World) (O : List Ev) (v : Value) (W : World) : Prop := W.ownsRow 0 26 5 v O.length (O.flatMap Ev.cells) ∧ Fresh w W v
set_option maxRecDepth 100000 in
set_option maxHeartbeats 1600000 in
theorem playEvents_any (t : Tm) (adt : Option Addr) (ct n : Nat) (L : List Ev) (ad : Option Addr) (cap N : Nat) (days : Int) (m : Nat) (w : World) (hn : t.trs.length = n) (htr : Reads w 2 (.slice adt n ct) n (t.trs.flatMap Tn.cells)) (hN : L.length = N) (hr : Reads w 5 (.slice ad N cap) N (L.flatMap Ev.cells)) (hl : N ≤ 1000000) (htl : n ≤ 1000000) (hd0 : 0 ≤ days) (hd1 : days ≤ 1000) (hm : m ≤ 1000) (hs0 : 10957 ≤ t.start) (hs1 : t.start ≤ 11356) :
  Calls Tryz.prog 14 #[.agg #[.int .i64 t.limit, .slice adt n ct, .int .i64 t.cyc, .int .i64 t.due, .int .i64 t.minFixed, .int .i64 t.minPart, .int .i64 t.start], .slice ad N cap, .int .i64 days, .int .i64 (m : Nat)] w fun e w' => ∃ v, e = .returned v ∧ PlayAt w (playL t days m L []) v w' := by
 obtain ⟨i0, hi, hi0, hi1, hi2⟩ := info_parts info_tEvent
 obtain ⟨Z, hZ⟩ : ∃ Z, playL t days m L [] = Z := ⟨_, rfl⟩
 rw [hZ]
 have htb : ∀ W, Keeps (fun _ => False) (w.alloc (.cells #[.int .i64 t.limit, .slice adt n ct, .int .i64 t.cyc, .int .i64 t.due, .int .i64 t.minFixed, .int .i64 t.minPart, .int .i64 t.start] 38)) W → tbS w.heap.size t (.slice adt n ct) W := fun W hW => tbS.of (box_old (heap_alloc_new w _) hW (by simp))
 obtain ⟨Hn, Htr, HN, Hr, Hi, Hi0, Hi1, Hi2, HZ⟩ := hid9 hn htr hN hr hi hi0 hi1 hi2 hZ; clear hZ hi2 hi1 hi0 hi hr hN htr hn; have Htb := Lib.hid htb; clear htb
 go_enter Tryz.func14, Tryz.ntmps14
 go_wp2
 obtain ⟨W0, hW0⟩ : ∃ x, x = w.alloc (.cells #[.int .i64 t.limit, .slice adt n ct, .int .i64 t.cyc, .int .i64 t.due, .int .i64 t.minFixed, .int .i64 t.minPart, .int .i64 t.start] 38) := ⟨_, rfl⟩
 have hk0 : Keeps (fun _ => False) w W0 := by rw [hW0]; exact Keeps.alloc _ _
 have hs0 : w.heap.size < W0.heap.size := by rw [hW0]; simp
 rw [← hW0] at Htb ⊢
 clear hW0
 go_loopw [9, 10] (fun y x wx => ∃ (i : Nat) (O : List Ev) (v : Value), v = y ∧ x = .int .i64 (i : Nat) ∧ i ≤ N ∧ O.length ≤ m ∧ playL t days m (L.drop i) O = Z ∧ PlayAt W0 O v wx) (fun _ x _ => N - (intOf x).toNat)
 case atStart => exact ⟨0, [], _, rfl, rfl, Nat.zero_le _, Nat.zero_le _, HZ.out, World.ownsRow_nil _ _ _ _, Keeps.refl _ _, by simp [Value.ownBlock]⟩
 case round =>
  obtain ⟨i, O, v, rfl, rfl, hin, hom, hpl, hat⟩ := hrel
  have hk := hat.2.1
  obtain ⟨wq, hwq⟩ : ∃ x, x = wr := ⟨_, rfl⟩
  subst hwq
  obtain ⟨o, ho⟩ : ∃ o, O.length = o := ⟨_, rfl⟩
  obtain ⟨av, cv, rfl⟩ : ∃ a c, v = .slice a o c := by obtain ⟨a, c, h, _⟩ := ownsRow_shape hat.1; rw [ho] at h; exact ⟨a, c, h⟩
  by_cases hlt : i < N
  ·have hltI : (i : Int) < (N : Int) := by omega
   obtain ⟨x, hx⟩ := get_some (L := L) (k := i) (by rw [HN.out]; exact hlt)
   rw [drop_cons' hx] at hpl
   by_cases hlo : o < m
   ·have hloI : (o : Int) < (m : Int) := by omega
    obtain ⟨g, q, c', he, hc⟩ := (Hr.out.keeps (hk0.nt hk) (by simp)).elem Ev.cells_length hx (by decide)
    simp only [Value.slice.injEq, true_and] at he
    obtain ⟨rfl, rfl⟩ := he
    obtain ⟨ki, da, tr, am, re⟩ := x
    have x0 : wq.cell? ⟨g, q + i * 5, none⟩ = some (.int .i64 ki) := hc 0 (by decide)
    have x1 : wq.cell? ⟨g, q + i * 5 + 1, none⟩ = some (.int .i64 da) := hc 1 (by decide)
    have x2 : wq.cell? ⟨g, q + i * 5 + 2, none⟩ = some (.int .i64 tr) := hc 2 (by decide)
    have x3 : wq.cell? ⟨g, q + i * 5 + 3, none⟩ = some (.int .i64 am) := hc 3 (by decide)
    have x4 : wq.cell? ⟨g, q + i * 5 + 4, none⟩ = some (.int .i64 re) := hc 4 (by decide)
    clear hc
    have hu0 : 0 ≤ IntKind.u64.wrap da := by rw [IntKind.wrap_u64]; omega
    have hu1 : 0 ≤ IntKind.u64.wrap am := by rw [IntKind.wrap_u64]; omega
    obtain ⟨q, hq⟩ : ∃ q, uq da (days + 1) = q := ⟨_, rfl⟩
    obtain ⟨a1, ha1⟩ : ∃ a, uq am 100000000 = a := ⟨_, rfl⟩
    have hqt : (IntKind.u64.wrap da).tmod (days + 1) = q := by rw [Int.tmod_eq_emod_of_nonneg hu0]; exact hq
    have hat1 : (IntKind.u64.wrap am).tmod 100000000 = a1 := by rw [Int.tmod_eq_emod_of_nonneg hu1]; exact ha1
    have qb := uq_bd da (m := days + 1) (by omega)
    have ab := uq_bd am (m := 100000000) (by decide)
    rw [hq] at qb
    rw [ha1] at ab
    obtain ⟨q0, q1⟩ := qb
    obtain ⟨ab0, ab1⟩ := ab
    have hwd : IntKind.u64.wrap (days + 1) = days + 1 := by rw [IntKind.wrap_u64]; omega
    have hwd2 : IntKind.i64.wrap (days + 1) = days + 1 := by rw [IntKind.wrap_i64]; omega
    have hdn : (days + 1 == 0) = false := beq_eq_false_iff_ne.2 (by omega)
    have hdn2 : ¬ days + 1 = 0 := by omega
    have hwq : IntKind.i64.wrap q = q := by rw [IntKind.wrap_i64]; omega
    have hws : IntKind.i64.wrap (t.start + q) = t.start + q := by rw [IntKind.wrap_i64]; omega
    have hE : playE t days ⟨ki, da, tr, am, re⟩ = ⟨ki, t.start + q, tr, if ki = 6 then a1 % 3000000 else a1, re⟩ := by unfold playE; simp only [hq, ha1]
    unfold playL at hpl
    rw [if_pos (by omega), hE] at hpl
    obtain ⟨b, hbe⟩ : ∃ x, x = wq.heap.size := ⟨_, rfl⟩
    have hbs : W0.heap.size ≤ b := by rw [hbe]; exact hk.size
    have hvb : ∀ i, (Value.slice av o cv).ownBlock = some i → i < b := fun i hi => by rw [hbe]; exact own_lt hat.1 hi
    obtain ⟨w10, hw10⟩ : ∃ x, x = wq.alloc (.cells #[.int .i64 ki, .int .i64 da, .int .i64 tr, .int .i64 am, .int .i64 re] 26) := ⟨_, rfl⟩
    have hkq : Keeps (fun _ => False) W0 w10 := by rw [hw10]; exact hk.nt (Keeps.alloc _ _)
    have hb10 : w10.heap[b]? = some (.cells #[.int .i64 ki, .int .i64 da, .int .i64 tr, .int .i64 am, .int .i64 re] 26 (0, 0)) := by rw [hw10, hbe]; exact heap_alloc_new _ _
    have hro10 : w10.ownsRow 0 26 5 (.slice av o cv) o (O.flatMap Ev.cells) := by
     have h := hat.1.alloc (.cells #[.int .i64 ki, .int .i64 da, .int .i64 tr, .int .i64 am, .int .i64 re] 26)
     rw [ho] at h
     rw [hw10]
     exact h
    have hS1 : peS w.heap.size b t.start da w10.drew := (show peS w.heap.size b t.start da w10 from ⟨(Htb.out _ hkq).2.2.2.2.2.2, cell_of_cells hb10 1⟩).keep (Keeps.drew _)
    obtain ⟨Hk0, Hpl, Hat, Hk, Hx, Ho, Hq, Ha1, HE⟩ := hid9 hk0 hpl hat hk hx ho hq ha1 hE; clear hE ha1 hq ho hx hk hat hpl hk0; obtain ⟨Hbs, Hvb, Hkq, Hb10, Hro10, HS1, Hu0, Hu1⟩ := hid8 hbs hvb hkq hb10 hro10 hS1 hu0 hu1; clear hu1 hu0 hS1 hro10 hb10 hkq hvb hbs
    go_wp2_with fail
    rw [← hw10]
    clear hw10 x0 x1 x2 x3 x4
    rw [← hbe]
    have Hbe := Lib.hid hbe; clear hbe
    refine wp_region_mixz (peS w.heap.size b t.start da) 12 (.take 0 (.take 1 (.take 2 (.take 3 (.take 4 (.take 5 (.take 6 (.take 7 (.take 8 (.take 9 (.take 10 (.take 11 (.move 12 .done))))))))))))) (by kernel_rfl) (by kernel_rfl) ?_ ?_
    ·exact HS1.out
    intro w11 hs11 hk11
    repeat (first
     | (refine mix_skip rfl (by rfl) ?_; try simp only [Act.put, List.setIfInBounds_toArray, List.set_cons_zero, List.set_cons_succ])
     | (refine mix_skipm rfl (by rfl) ?_; try simp only [Act.put, List.setIfInBounds_toArray, List.set_cons_zero, List.set_cons_succ])
     | (refine mix_take (v := ?_) rfl (by rfl) ?_ ?_; rotate_left; (· intro w' hSw; unfold peS at hSw; go_simp; (try with_reducible rfl)); rotate_right; try simp only [Act.put, List.setIfInBounds_toArray, List.set_cons_zero, List.set_cons_succ]))
    have hb11 := box_old Hb10.out hk11 (by simp)
    have hkw11 := Hkq.out.nt hk11
    have hro11 := Hro10.out.of_keeps hk11
    have b0 := cell_of_cells hb11 0
    have b1 := cell_of_cells hb11 1
    have b2 := cell_of_cells hb11 2
    have b3 := cell_of_cells hb11 3
    have b4 := cell_of_cells hb11 4
    have f1 := free_of_cells hb11 1
    have f3 := free_of_cells hb11 3
    have bl := lt_of_block hb11
    refine mix_last rfl (fun K hK => ?_)
    go_simp
    refine hK.out _ _ ?_
    clear hK K
    try simp only [Act.put, List.setIfInBounds_toArray, List.set_cons_zero, List.set_cons_succ]
    refine mix_done ?_
    clear hs11
    obtain ⟨Hk11, Hb11, Hkw11, Hro11⟩ := hid4 hk11 hb11 hkw11 hro11; clear hro11 hkw11 hb11 hk11
    by_cases hki : ki = 6
    ·subst hki
     rw [if_pos rfl] at HE Hpl
     have h3t : a1.tmod 3000000 = a1 % 3000000 := Int.tmod_eq_emod_of_nonneg ab0
     obtain ⟨a2, ha2⟩ : ∃ a2, a1 % 3000000 = a2 := ⟨_, rfl⟩
     rw [ha2] at h3t HE Hpl
     have a20 : 0 ≤ a2 := by rw [← ha2]; omega
     have a21 : a2 < 3000000 := by rw [← ha2]; omega
     have Ha2 := Lib.hid ha2; clear ha2
     obtain ⟨z, hz⟩ : ∃ z, evErr t ⟨6, t.start + q, tr, a2, re⟩ = z := ⟨_, rfl⟩
     have hev := fun W (hW : Keeps (fun _ => False) w W) => revRight_go t.limit t.cyc t.due t.minFixed t.minPart t.start 6 (t.start + q) tr a2 re t.trs n adt ct W (Htr.out.keeps hW (by simp)) htl Hn.out
     have hz' : evErr ⟨t.limit, t.cyc, t.due, t.minFixed, t.minPart, t.start, t.trs⟩ ⟨6, t.start + q, tr, a2, re⟩ = z := hz
     rw [hz'] at hev
     clear hz'
     obtain ⟨w12, hw12⟩ : ∃ x, x = ((w11.setCell ⟨b, 1, none⟩ (.int .i64 (t.start + q))).setCell ⟨b, 3, none⟩ (.int .i64 a1)).setCell ⟨b, 3, none⟩ (.int .i64 a2) := ⟨_, rfl⟩
     have hk12 : Keeps (fun i => i = b) w11 w12 := by rw [hw12]; exact (((Keeps.setCell (S := fun i => i = b) _ _ _ rfl).trans (Keeps.setCell _ _ _ (.inl rfl))).trans (Keeps.setCell _ _ _ (.inl rfl)))
     have hb12 : w12.heap[b]? = some (.cells #[.int .i64 6, .int .i64 (t.start + q), .int .i64 tr, .int .i64 a2, .int .i64 re] 26 (0, 0)) := by
      rw [hw12]
      exact (heap_setCell_same _ _ 3 _ _ _ ((heap_setCell_same _ _ 3 _ _ _ ((heap_setCell_same _ _ 1 _ _ _ Hb11.out).trans rfl)).trans rfl)).trans rfl
     have hk13 : Keeps (fun _ => False) W0 w12 := Hkw11.out.trans (hk12.mono fun i _ e => .inr (by have e' : i = b := e; have := Hbs.out; omega))
     have hpl2 := Hpl.out
     rw [hz] at hpl2
     obtain ⟨Hev, Hz, Hk12, Hb12, Hk13, Hpl2⟩ := hid6 hev hz hk12 hb12 hk13 hpl2; clear hpl2 hk13 hb12 hk12 hz hev
     have tb12 := Htb.out _ Hk13.out
     obtain ⟨tc0, tc1, tc2, tc3, tc4, tc5, tc6⟩ := tb12
     have tcl := cell_lt tc0
     have e0 := cell_of_cells Hb12.out 0
     have e1 := cell_of_cells Hb12.out 1
     have e2 := cell_of_cells Hb12.out 2
     have e3 := cell_of_cells Hb12.out 3
     have e4 := cell_of_cells Hb12.out 4
     have el := lt_of_block Hb12.out
     obtain ⟨Tc0, Tc1, Tc2, Tc3, Tc4, Tc5, Tc6, E0, E1⟩ := hid9 tc0 tc1 tc2 tc3 tc4 tc5 tc6 e0 e1; clear e1 e0 tc6 tc5 tc4 tc3 tc2 tc1 tc0; obtain ⟨E2, E3, E4⟩ := hid3 e2 e3 e4; clear e4 e3 e2
     go_upto_region 10 with fail
     rw [← hw12]
     clear hw12 b0 b1 b2 b3 b4 f1 f3 bl
     have tc0 := Tc0.out
     have tc1 := Tc1.out
     have tc2 := Tc2.out
     have tc3 := Tc3.out
     have tc4 := Tc4.out
     have tc5 := Tc5.out
     have tc6 := Tc6.out
     have e0 := E0.out
     have e1 := E1.out
     have e2 := E2.out
     have e3 := E3.out
     have e4 := E4.out
     go_wp2_with fail
     refine (Hev.out _ (Hk0.out.nt Hk13.out)).mono ?_
     rintro e w14 ⟨rfl, hk14⟩
     clear tc0 tc1 tc2 tc3 tc4 tc5 tc6 e0 e1 e2 e3 e4
     have hb14 := box_old Hb12.out hk14 (by simp)
     have hro14 : w14.ownsRow 0 26 5 (.slice av o cv) o (O.flatMap Ev.cells) := (Hk12.out.row Hro11.out (fun i hi e => by have e' : i = b := e; have := Hvb.out i hi; omega)).of_keeps hk14
     have hfr14 : Fresh W0 w14 (.slice av o cv) := ⟨Hk13.out.nt hk14, Hat.out.2.2⟩
     have e0 := cell_of_cells hb14 0
     have e1 := cell_of_cells hb14 1
     have e2 := cell_of_cells hb14 2
     have e3 := cell_of_cells hb14 3
     have e4 := cell_of_cells hb14 4
     have el := lt_of_block hb14
     by_cases hz0 : z = 0
     ·subst hz0
      have hpl3 := Hpl2.out
      rw [if_pos rfl] at hpl3
      obtain ⟨Hk14, Hb14, Hro14, Hfr14, Hpl3⟩ := hid5 hk14 hb14 hro14 hfr14 hpl3; clear hpl3 hfr14 hro14 hb14 hk14
      go_wp2_with (at_builtin; refine wpList_append_row rfl (.tmp 57) (.tmp 59) 39 rfl 0 26 i0 _ 5 40 Tryz.underlying39 Hi.out Hi0.out Hi1.out Hi2.out rfl (by decide) (.slice av o cv) o _ rfl (Hro14.out.alloc _) _ 1 _ rfl (Reads.litAt _ _ _ 5 1 _ (by first | rfl | simp) rfl) (by simp [Value.oneCell']) (by unfold maxLen; omega) (by omega) (Nat.zero_le _) ?_; intro v4 w4 hown4 hk4 hf4; have hg4 : PlayAt W0 (O ++ [⟨6, t.start + q, tr, a2, re⟩]) v4 w4 := ⟨by rw [List.length_append, Ho.out, List.flatMap_append]; exact hown4, (Hfr14.out.keep (Keeps.alloc _ _)).app hk4 hf4⟩; obtain ⟨ad4, c4, rfl, _, _⟩ := ownsRow_shape hown4; have Hg4 := Lib.hid hg4; clear hown4 hk4 hf4 hg4)
      go_roundw
      case rel => exact ⟨i + 1, O ++ [⟨6, t.start + q, tr, a2, re⟩], _, rfl, by go_num, by omega, by rw [List.length_append, Ho.out]; simp; omega, Hpl3.out, Hg4.out⟩
      case measure => simp [intOf]; omega
     ·have hzI : (z == 0) = false := beq_eq_false_iff_ne.2 hz0
      have hpl3 := Hpl2.out
      rw [if_neg hz0] at hpl3
      obtain ⟨Hk14, Hb14, Hro14, Hfr14, Hpl3, Hz0⟩ := hid6 hk14 hb14 hro14 hfr14 hpl3 hz0; clear hz0 hpl3 hfr14 hro14 hb14 hk14
      go_wp2
      go_roundw
      case rel => exact ⟨i + 1, O, _, rfl, by go_num, by omega, by rw [Ho.out]; omega, Hpl3.out, by rw [Ho.out]; exact Hro14.out, Hfr14.out⟩
      case measure => simp [intOf]; omega
    ·rw [if_neg hki] at HE Hpl
     have hkiI : (ki == 6) = false := beq_eq_false_iff_ne.2 hki
     have Hki := Lib.hid hki; clear hki
     obtain ⟨z, hz⟩ : ∃ z, evErr t ⟨ki, t.start + q, tr, a1, re⟩ = z := ⟨_, rfl⟩
     have hev := fun W (hW : Keeps (fun _ => False) w W) => revRight_go t.limit t.cyc t.due t.minFixed t.minPart t.start ki (t.start + q) tr a1 re t.trs n adt ct W (Htr.out.keeps hW (by simp)) htl Hn.out
     have hz' : evErr ⟨t.limit, t.cyc, t.due, t.minFixed, t.minPart, t.start, t.trs⟩ ⟨ki, t.start + q, tr, a1, re⟩ = z := hz
     rw [hz'] at hev
     clear hz'
     obtain ⟨w12, hw12⟩ : ∃ x, x = (w11.setCell ⟨b, 1, none⟩ (.int .i64 (t.start + q))).setCell ⟨b, 3, none⟩ (.int .i64 a1) := ⟨_, rfl⟩
     have hk12 : Keeps (fun i => i = b) w11 w12 := by rw [hw12]; exact ((Keeps.setCell (S := fun i => i = b) _ _ _ rfl).trans (Keeps.setCell _ _ _ (.inl rfl)))
     have hb12 : w12.heap[b]? = some (.cells #[.int .i64 ki, .int .i64 (t.start + q), .int .i64 tr, .int .i64 a1, .int .i64 re] 26 (0, 0)) := by
      rw [hw12]
      exact (heap_setCell_same _ _ 3 _ _ _ ((heap_setCell_same _ _ 1 _ _ _ Hb11.out).trans rfl)).trans rfl
     have hk13 : Keeps (fun _ => False) W0 w12 := Hkw11.out.trans (hk12.mono fun i _ e => .inr (by have e' : i = b := e; have := Hbs.out; omega))
     have hpl2 := Hpl.out
     rw [hz] at hpl2
     obtain ⟨Hev, Hz, Hk12, Hb12, Hk13, Hpl2⟩ := hid6 hev hz hk12 hb12 hk13 hpl2; clear hpl2 hk13 hb12 hk12 hz hev
     have tb12 := Htb.out _ Hk13.out
     obtain ⟨tc0, tc1, tc2, tc3, tc4, tc5, tc6⟩ := tb12
     have tcl := cell_lt tc0
     have e0 := cell_of_cells Hb12.out 0
     have e1 := cell_of_cells Hb12.out 1
     have e2 := cell_of_cells Hb12.out 2
     have e3 := cell_of_cells Hb12.out 3
     have e4 := cell_of_cells Hb12.out 4
     have el := lt_of_block Hb12.out
     obtain ⟨Tc0, Tc1, Tc2, Tc3, Tc4, Tc5, Tc6, E0, E1⟩ := hid9 tc0 tc1 tc2 tc3 tc4 tc5 tc6 e0 e1; clear e1 e0 tc6 tc5 tc4 tc3 tc2 tc1 tc0; obtain ⟨E2, E3, E4⟩ := hid3 e2 e3 e4; clear e4 e3 e2
     go_upto_region 10 with fail
     rw [← hw12]
     clear hw12 b0 b1 b2 b3 b4 f1 f3 bl
     have tc0 := Tc0.out
     have tc1 := Tc1.out
     have tc2 := Tc2.out
     have tc3 := Tc3.out
     have tc4 := Tc4.out
     have tc5 := Tc5.out
     have tc6 := Tc6.out
     have e0 := E0.out
     have e1 := E1.out
     have e2 := E2.out
     have e3 := E3.out
     have e4 := E4.out
     go_wp2_with fail
     refine (Hev.out _ (Hk0.out.nt Hk13.out)).mono ?_
     rintro e w14 ⟨rfl, hk14⟩
     clear tc0 tc1 tc2 tc3 tc4 tc5 tc6 e0 e1 e2 e3 e4
     have hb14 := box_old Hb12.out hk14 (by simp)
     have hro14 : w14.ownsRow 0 26 5 (.slice av o cv) o (O.flatMap Ev.cells) := (Hk12.out.row Hro11.out (fun i hi e => by have e' : i = b := e; have := Hvb.out i hi; omega)).of_keeps hk14
     have hfr14 : Fresh W0 w14 (.slice av o cv) := ⟨Hk13.out.nt hk14, Hat.out.2.2⟩
     have e0 := cell_of_cells hb14 0
     have e1 := cell_of_cells hb14 1
     have e2 := cell_of_cells hb14 2
     have e3 := cell_of_cells hb14 3
     have e4 := cell_of_cells hb14 4
     have el := lt_of_block hb14
     by_cases hz0 : z = 0
     ·subst hz0
      have hpl3 := Hpl2.out
      rw [if_pos rfl] at hpl3
      obtain ⟨Hk14, Hb14, Hro14, Hfr14, Hpl3⟩ := hid5 hk14 hb14 hro14 hfr14 hpl3; clear hpl3 hfr14 hro14 hb14 hk14
      go_wp2_with (at_builtin; refine wpList_append_row rfl (.tmp 57) (.tmp 59) 39 rfl 0 26 i0 _ 5 40 Tryz.underlying39 Hi.out Hi0.out Hi1.out Hi2.out rfl (by decide) (.slice av o cv) o _ rfl (Hro14.out.alloc _) _ 1 _ rfl (Reads.litAt _ _ _ 5 1 _ (by first | rfl | simp) rfl) (by simp [Value.oneCell']) (by unfold maxLen; omega) (by omega) (Nat.zero_le _) ?_; intro v4 w4 hown4 hk4 hf4; have hg4 : PlayAt W0 (O ++ [⟨ki, t.start + q, tr, a1, re⟩]) v4 w4 := ⟨by rw [List.length_append, Ho.out, List.flatMap_append]; exact hown4, (Hfr14.out.keep (Keeps.alloc _ _)).app hk4 hf4⟩; obtain ⟨ad4, c4, rfl, _, _⟩ := ownsRow_shape hown4; have Hg4 := Lib.hid hg4; clear hown4 hk4 hf4 hg4)
      go_roundw
      case rel => exact ⟨i + 1, O ++ [⟨ki, t.start + q, tr, a1, re⟩], _, rfl, by go_num, by omega, by rw [List.length_append, Ho.out]; simp; omega, Hpl3.out, Hg4.out⟩
      case measure => simp [intOf]; omega
     ·have hzI : (z == 0) = false := beq_eq_false_iff_ne.2 hz0
      have hpl3 := Hpl2.out
      rw [if_neg hz0] at hpl3
      obtain ⟨Hk14, Hb14, Hro14, Hfr14, Hpl3, Hz0⟩ := hid6 hk14 hb14 hro14 hfr14 hpl3 hz0; clear hz0 hpl3 hfr14 hro14 hb14 hk14
      go_wp2
      go_roundw
      case rel => exact ⟨i + 1, O, _, rfl, by go_num, by omega, by rw [Ho.out]; omega, Hpl3.out, by rw [Ho.out]; exact Hro14.out, Hfr14.out⟩
      case measure => simp [intOf]; omega
   ·have hloI : ¬ (o : Int) < (m : Int) := by omega
    unfold playL at hpl
    rw [if_neg (by omega)] at hpl
    obtain ⟨Hpl, Hat, Hk, Hx, Ho, Hk0⟩ := hid6 hpl hat hk hx ho hk0; clear hk0 ho hx hk hat hpl
    go_wp2
    go_ret
    exact ⟨_, rfl, by rw [← Hpl.out]; exact Hat.out.1, Hk0.out.nt Hat.out.2.1, fun g hg => Nat.le_trans Hk0.out.size (Hat.out.2.2 g hg)⟩
  ·obtain rfl : N = i := by omega
   rw [List.drop_of_length_le (by rw [HN.out]; exact Nat.le_refl _)] at hpl
   unfold playL at hpl
   obtain ⟨Hpl, Hat, Hk, Ho, Hk0⟩ := hid5 hpl hat hk ho hk0; clear hk0 ho hk hat hpl
   go_wp2
   go_ret
   exact ⟨_, rfl, by rw [← Hpl.out]; exact Hat.out.1, Hk0.out.nt Hat.out.2.1, fun g hg => Nat.le_trans Hk0.out.size (Hat.out.2.2 g hg)⟩
end Go.Proofs.YthcmpcekmkioaaaGreat
namespace Go.Proofs.YthcmpcekmkioaaaGreat
open Go.RowKit
set_option maxRecDepth 100000 in
set_option maxHeartbeats 3200000 in
theorem rtmRight_big (t : Tm) (ad : Option Addr) (cap : Nat) (w : World) (hr : Reads w 2 (.slice ad t.trs.length cap) t.trs.length (t.trs.flatMap Tn.cells)) (hl : t.trs.length ≤ 9223372036854775807) :
  Calls Tryz.prog 35 #[t.val (.slice ad t.trs.length cap)] w fun e w' => e = .returned (.int .i64 t.err) ∧ Keeps (fun _ => False) w w' := by
 obtain ⟨li, cy, du, mf, mp, st, L⟩ := t
 simp only [Tm.val] at hr hl ⊢
 obtain ⟨n, hn⟩ : ∃ n, L.length = n := ⟨_, rfl⟩
 have hf0 : Tm.err ⟨li, cy, du, mf, mp, st, L⟩ = if (inB li 0 1000000000000000 && inB (n : Int) 1 8 && L.all Tn.okB && (inB cy 1 28 && inB du 1 25 && inB mf 0 1000000000000000 && inB mp 0 1000 && inB st (-135140) 2922896)) = true then 0 else 6 := by
  simp only [Tm.err, Tm.okB, hn]
 rw [hn] at hr hl ⊢
 obtain ⟨ok0, hok0⟩ : ∃ b, (inB li 0 1000000000000000 && inB (n : Int) 1 8) = b := ⟨_, rfl⟩
 rw [hok0] at hf0
 have hbox := heap_alloc_new w (.cells #[.int .i64 li, .slice ad n cap, .int .i64 cy, .int .i64 du, .int .i64 mf, .int .i64 mp, .int .i64 st] 38)
 obtain ⟨Hr, Hf0, Hn, Hbox⟩ := hid4 hr hf0 hn hbox; clear hbox hn hf0 hr
 go_enter Tryz.func35, Tryz.ntmps35
 go_upto_region 1 with (fail)
 go_cut [3] (fun s3 wx => s3 = .bool ok0 ∧ wx = w.alloc (.cells #[.int .i64 li, .slice ad n cap, .int .i64 cy, .int .i64 du, .int .i64 mf, .int .i64 mp, .int .i64 st] 38))
 case first =>
  rcases b1 : inB li 0 1000000000000000 with _ | _
  ·have : ok0 = false := by rw [← hok0, b1]; rfl
   subst this
   obtain ⟨B1, Hok0⟩ := hid2 b1 hok0; clear hok0 b1
   go_wp2_with (go_at_call 61; ((with_reducible refine (rtmWithin_at B1.out _).mono ?_); rintro e w1 ⟨rfl, rfl⟩))
   go_meet
   exact ⟨rfl, rfl⟩
  ·by_cases l1 : n < 1
   ·obtain rfl : n = 0 := by omega
    have : ok0 = false := by rw [← hok0, b1]; rfl
    subst this
    obtain ⟨B1, Hok0⟩ := hid2 b1 hok0; clear hok0 b1
    go_wp2_with (go_at_call 61; ((with_reducible refine (rtmWithin_at B1.out _).mono ?_); rintro e w1 ⟨rfl, rfl⟩))
    go_meet
    exact ⟨rfl, rfl⟩
   ·by_cases l2 : 8 < n
    ·have : ok0 = false := by rw [← hok0, b1]; simp [inB]; omega
     subst this
     have l2' : (8 : Int) < (n : Int) := by omega
     have l1' : (1 : Int) ≤ (n : Int) := by omega
     obtain ⟨B1, Hok0⟩ := hid2 b1 hok0; clear hok0 b1
     go_wp2_with (go_at_call 61; ((with_reducible refine (rtmWithin_at B1.out _).mono ?_); rintro e w1 ⟨rfl, rfl⟩))
     go_meet
     exact ⟨by simp; omega, rfl⟩
    ·have : ok0 = true := by rw [← hok0, b1]; simp [inB]; omega
     subst this
     have l1' : (1 : Int) ≤ (n : Int) := by omega
     have l2' : (n : Int) ≤ 8 := by omega
     obtain ⟨B1, Hok0⟩ := hid2 b1 hok0; clear hok0 b1
     go_wp2_with (go_at_call 61; ((with_reducible refine (rtmWithin_at B1.out _).mono ?_); rintro e w1 ⟨rfl, rfl⟩))
     go_meet
     exact ⟨rfl, rfl⟩
 case rest =>
  obtain ⟨rfl, rfl⟩ := hcut
  clear hok0
  go_wp2_with fail
  go_loopw [3, 4] (fun b c wr => ∃ (j : Nat) (ok : Bool), j ≤ n ∧ c = .int .i64 (j : Nat) ∧ b = .bool ok ∧ ok = (ok0 && (L.take j).all Tn.okB) ∧ Keeps (fun _ => False) w wr ∧ wr.heap[w.heap.size]? = some (.cells #[.int .i64 li, .slice ad n cap, .int .i64 cy, .int .i64 du, .int .i64 mf, .int .i64 mp, .int .i64 st] 38 (0, 0))) (fun _ c _ => n - (intOf c).toNat)
  case atStart => exact ⟨0, ok0, Nat.zero_le _, rfl, rfl, by simp, Keeps.alloc _ _, Hbox.out⟩
  case round =>
   obtain ⟨j, ok, hj, rfl, rfl, hok, hk, hb⟩ := hrel
   have hbl := lt_of_block hb
   have c1 : wr.cell? ⟨w.heap.size, 1, none⟩ = some (.slice ad n cap) := cell_of_cells hb 1
   by_cases hjl : j < n
   ·obtain ⟨⟨xr, xg⟩, hx⟩ := get_some (L := L) (k := j) (by rw [Hn.out]; exact hjl)
    obtain ⟨g, o, c, he, hc⟩ := (Hr.out.keeps hk (by simp)).elem Tn.cells_length hx (by decide)
    simp only [Value.slice.injEq, true_and] at he
    obtain ⟨rfl, rfl⟩ := he
    have x0 : wr.cell? ⟨g, o + j * 2, none⟩ = some (.int .i64 xr) := hc 0 (by decide)
    clear hc
    have hok' : (ok && inB xr 0 10000000) = (ok0 && (L.take (j + 1)).all Tn.okB) := by
     rw [take_snoc' hx, List.all_append, hok]; simp [Tn.okB, Bool.and_assoc]
    cases ok with
    | false =>
     obtain ⟨Hx, Hok, Hk, Hb, Hok'⟩ := hid5 hx hok hk hb hok'; clear hok' hb hk hok hx
     go_wp2_with fail
     go_roundw
     case rel => exact ⟨j + 1, false, by omega, by go_num, rfl, by rw [← Hok'.out]; rfl, Hk.out, Hb.out⟩
     case measure => simp [intOf]; omega
    | true =>
     rcases b3 : inB xr 0 10000000 with _ | _
     ·rw [b3] at hok'
      obtain ⟨Hx, Hok, Hk, Hb, Hok', B3⟩ := hid6 hx hok hk hb hok' b3; clear b3 hok' hb hk hok hx
      go_wp2_with (go_at_call 61; ((with_reducible refine (rtmWithin_at B3.out _).mono ?_); rintro e w1 ⟨rfl, rfl⟩))
      go_roundw
      case rel => exact ⟨j + 1, false, by omega, by go_num, rfl, by rw [← Hok'.out]; rfl, Hk.out, Hb.out⟩
      case measure => simp [intOf]; omega
     ·rw [b3] at hok'
      obtain ⟨Hx, Hok, Hk, Hb, Hok', B3⟩ := hid6 hx hok hk hb hok' b3; clear b3 hok' hb hk hok hx
      go_wp2_with (go_at_call 61; ((with_reducible refine (rtmWithin_at B3.out _).mono ?_); rintro e w1 ⟨rfl, rfl⟩))
      go_roundw
      case rel => exact ⟨j + 1, true, by omega, by go_num, rfl, by rw [← Hok'.out]; rfl, Hk.out, Hb.out⟩
      case measure => simp [intOf]; omega
   ·obtain rfl : j = n := by omega
    rw [List.take_of_length_le (by rw [Hn.out]; exact Nat.le_refl _)] at hok
    have hf1 := Hf0.out
    rw [← hok] at hf1
    have c2 : wr.cell? ⟨w.heap.size, 2, none⟩ = some (.int .i64 cy) := cell_of_cells hb 2
    have c3 : wr.cell? ⟨w.heap.size, 3, none⟩ = some (.int .i64 du) := cell_of_cells hb 3
    have c4 : wr.cell? ⟨w.heap.size, 4, none⟩ = some (.int .i64 mf) := cell_of_cells hb 4
    have c5 : wr.cell? ⟨w.heap.size, 5, none⟩ = some (.int .i64 mp) := cell_of_cells hb 5
    have c6 : wr.cell? ⟨w.heap.size, 6, none⟩ = some (.int .i64 st) := cell_of_cells hb 6
    cases ok with
    | false =>
     have hf : Tm.err ⟨li, cy, du, mf, mp, st, L⟩ = 6 := by rw [hf1]; simp
     obtain ⟨Hok, Hk, Hb, Hf, Hf1⟩ := hid5 hok hk hb hf hf1; clear hf1 hf hb hk hok
     go_wp2_with fail
     go_ret
     exact ⟨by rw [Hf.out]; rfl, Hk.out⟩
    | true =>
     rw [Bool.true_and] at hf1
     rcases bc : inB cy 1 28 with _ | _
     ·have hf : Tm.err ⟨li, cy, du, mf, mp, st, L⟩ = 6 := by rw [hf1, bc]; simp
      obtain ⟨Hok, Hk, Hb, Hf, Hf1, Bc⟩ := hid6 hok hk hb hf hf1 bc; clear bc hf1 hf hb hk hok
      go_wp2_with (go_at_call 61; ((with_reducible refine (rtmWithin_at Bc.out _).mono ?_); rintro e w1 ⟨rfl, rfl⟩))
      go_ret
      exact ⟨by rw [Hf.out]; rfl, Hk.out⟩
     rcases bd : inB du 1 25 with _ | _
     ·have hf : Tm.err ⟨li, cy, du, mf, mp, st, L⟩ = 6 := by rw [hf1, bd]; simp
      obtain ⟨Hok, Hk, Hb, Hf, Hf1, Bc, Bd⟩ := hid7 hok hk hb hf hf1 bc bd; clear bd bc hf1 hf hb hk hok
      go_wp2_with (first | (go_at_call 61; ((with_reducible refine (rtmWithin_at Bc.out _).mono ?_); rintro e w1 ⟨rfl, rfl⟩)) | (go_at_call 61; ((with_reducible refine (rtmWithin_at Bd.out _).mono ?_); rintro e w1 ⟨rfl, rfl⟩)))
      go_ret
      exact ⟨by rw [Hf.out]; rfl, Hk.out⟩
     rcases bf : inB mf 0 1000000000000000 with _ | _
     ·have hf : Tm.err ⟨li, cy, du, mf, mp, st, L⟩ = 6 := by rw [hf1, bf]; simp
      obtain ⟨Hok, Hk, Hb, Hf, Hf1, Bc, Bd, Bf⟩ := hid8 hok hk hb hf hf1 bc bd bf; clear bf bd bc hf1 hf hb hk hok
      go_wp2_with (first | (go_at_call 61; ((with_reducible refine (rtmWithin_at Bc.out _).mono ?_); rintro e w1 ⟨rfl, rfl⟩)) | (go_at_call 61; ((with_reducible refine (rtmWithin_at Bd.out _).mono ?_); rintro e w1 ⟨rfl, rfl⟩)) | (go_at_call 61; ((with_reducible refine (rtmWithin_at Bf.out _).mono ?_); rintro e w1 ⟨rfl, rfl⟩)))
      go_ret
      exact ⟨by rw [Hf.out]; rfl, Hk.out⟩
     rcases bp : inB mp 0 1000 with _ | _
     ·have hf : Tm.err ⟨li, cy, du, mf, mp, st, L⟩ = 6 := by rw [hf1, bp]; simp
      obtain ⟨Hok, Hk, Hb, Hf, Hf1, Bc, Bd, Bf, Bp⟩ := hid9 hok hk hb hf hf1 bc bd bf bp; clear bp bf bd bc hf1 hf hb hk hok
      go_wp2_with (first | (go_at_call 61; ((with_reducible refine (rtmWithin_at Bc.out _).mono ?_); rintro e w1 ⟨rfl, rfl⟩)) | (go_at_call 61; ((with_reducible refine (rtmWithin_at Bd.out _).mono ?_); rintro e w1 ⟨rfl, rfl⟩)) | (go_at_call 61; ((with_reducible refine (rtmWithin_at Bf.out _).mono ?_); rintro e w1 ⟨rfl, rfl⟩)) | (go_at_call 61; ((with_reducible refine (rtmWithin_at Bp.out _).mono ?_); rintro e w1 ⟨rfl, rfl⟩)))
      go_ret
      exact ⟨by rw [Hf.out]; rfl, Hk.out⟩
     rcases bs : inB st (-135140) 2922896 with _ | _
     ·have hf : Tm.err ⟨li, cy, du, mf, mp, st, L⟩ = 6 := by rw [hf1, bs]; simp
      obtain ⟨Hok, Hk, Hb, Hf, Hf1, Bc, Bd, Bf, Bp⟩ := hid9 hok hk hb hf hf1 bc bd bf bp; clear bp bf bd bc hf1 hf hb hk hok; have Bs := Lib.hid bs; clear bs
      go_wp2_with (first | (go_at_call 61; ((with_reducible refine (rtmWithin_at Bc.out _).mono ?_); rintro e w1 ⟨rfl, rfl⟩)) | (go_at_call 61; ((with_reducible refine (rtmWithin_at Bd.out _).mono ?_); rintro e w1 ⟨rfl, rfl⟩)) | (go_at_call 61; ((with_reducible refine (rtmWithin_at Bf.out _).mono ?_); rintro e w1 ⟨rfl, rfl⟩)) | (go_at_call 61; ((with_reducible refine (rtmWithin_at Bp.out _).mono ?_); rintro e w1 ⟨rfl, rfl⟩)) | (go_at_call 61; ((with_reducible refine (rtmWithin_at Bs.out _).mono ?_); rintro e w1 ⟨rfl, rfl⟩)))
      go_ret
      exact ⟨by rw [Hf.out]; rfl, Hk.out⟩
     have hf : Tm.err ⟨li, cy, du, mf, mp, st, L⟩ = 0 := by rw [hf1, bc, bd, bf, bp, bs]; simp
     obtain ⟨Hok, Hk, Hb, Hf, Hf1, Bc, Bd, Bf, Bp⟩ := hid9 hok hk hb hf hf1 bc bd bf bp; clear bp bf bd bc hf1 hf hb hk hok; have Bs := Lib.hid bs; clear bs
     go_wp2_with (first | (go_at_call 61; ((with_reducible refine (rtmWithin_at Bc.out _).mono ?_); rintro e w1 ⟨rfl, rfl⟩)) | (go_at_call 61; ((with_reducible refine (rtmWithin_at Bd.out _).mono ?_); rintro e w1 ⟨rfl, rfl⟩)) | (go_at_call 61; ((with_reducible refine (rtmWithin_at Bf.out _).mono ?_); rintro e w1 ⟨rfl, rfl⟩)) | (go_at_call 61; ((with_reducible refine (rtmWithin_at Bp.out _).mono ?_); rintro e w1 ⟨rfl, rfl⟩)) | (go_at_call 61; ((with_reducible refine (rtmWithin_at Bs.out _).mono ?_); rintro e w1 ⟨rfl, rfl⟩)))
     go_ret
     exact ⟨by rw [Hf.out]; rfl, Hk.out⟩
theorem rtmRight_bigAt (t : Tm) (v : Value) (w : World) {z : Int} (hz : t.err = z) (hr : Reads w 2 v t.trs.length (t.trs.flatMap Tn.cells)) (hl : t.trs.length ≤ 9223372036854775807) :
  Calls Tryz.prog 35 #[.agg #[.int .i64 t.limit, v, .int .i64 t.cyc, .int .i64 t.due, .int .i64 t.minFixed, .int .i64 t.minPart, .int .i64 t.start]] w fun e w' => e = .returned (.int .i64 z) ∧ Keeps (fun _ => False) w w' := by
 have hr' := hr
 obtain ⟨ad, c, rfl, _⟩ := hr'
 subst hz
 exact rtmRight_big t ad c w hr hl
end Go.Proofs.YthcmpcekmkioaaaGreat
namespace Go.Proofs.YthcmpcekmkioaaaGreat
open Go.RowKit
theorem info_tTr : (Tryz.prog.info? 57).map (fun i => (i.zero, i.size, i.bytes)) = some (some (.agg #[.int .i64 0, .bool false]), 2, 16) := by kernel_rfl
theorem store7 {W : World} {R : Nat} {t : TypeId} {a0 a1 a2 a3 a4 a5 a6 : Value} (h : W.heap[R]? = some (.cells #[a0, a1, a2, a3, a4, a5, a6] t (0, 0))) (v0 v1 v2 v3 v4 v5 v6 : Value) :
  (((((((W.setCell ⟨R, 0, none⟩ v0).setCell ⟨R, 1, none⟩ v1).setCell ⟨R, 2, none⟩ v2).setCell ⟨R, 3, none⟩ v3).setCell ⟨R, 4, none⟩ v4).setCell ⟨R, 5, none⟩ v5).setCell ⟨R, 6, none⟩ v6).heap[R]? = some (.cells #[v0, v1, v2, v3, v4, v5, v6] t (0, 0)) ∧ Keeps (fun i => i = R) W (((((((W.setCell ⟨R, 0, none⟩ v0).setCell ⟨R, 1, none⟩ v1).setCell ⟨R, 2, none⟩ v2).setCell ⟨R, 3, none⟩ v3).setCell ⟨R, 4, none⟩ v4).setCell ⟨R, 5, none⟩ v5).setCell ⟨R, 6, none⟩ v6) := by
 have h0 : (W.setCell ⟨R, 0, none⟩ v0).heap[R]? = some (.cells #[v0, a1, a2, a3, a4, a5, a6] t (0, 0)) := (heap_setCell_same _ _ 0 _ _ _ h).trans rfl
 have h1 : ((W.setCell ⟨R, 0, none⟩ v0).setCell ⟨R, 1, none⟩ v1).heap[R]? = some (.cells #[v0, v1, a2, a3, a4, a5, a6] t (0, 0)) := (heap_setCell_same _ _ 1 _ _ _ h0).trans rfl
 have h2 : (((W.setCell ⟨R, 0, none⟩ v0).setCell ⟨R, 1, none⟩ v1).setCell ⟨R, 2, none⟩ v2).heap[R]? = some (.cells #[v0, v1, v2, a3, a4, a5, a6] t (0, 0)) := (heap_setCell_same _ _ 2 _ _ _ h1).trans rfl
 have h3 : ((((W.setCell ⟨R, 0, none⟩ v0).setCell ⟨R, 1, none⟩ v1).setCell ⟨R, 2, none⟩ v2).setCell ⟨R, 3, none⟩ v3).heap[R]? = some (.cells #[v0, v1, v2, v3, a4, a5, a6] t (0, 0)) := (heap_setCell_same _ _ 3 _ _ _ h2).trans rfl
 have h4 : (((((W.setCell ⟨R, 0, none⟩ v0).setCell ⟨R, 1, none⟩ v1).setCell ⟨R, 2, none⟩ v2).setCell ⟨R, 3, none⟩ v3).setCell ⟨R, 4, none⟩ v4).heap[R]? = some (.cells #[v0, v1, v2, v3, v4, a5, a6] t (0, 0)) := (heap_setCell_same _ _ 4 _ _ _ h3).trans rfl
 have h5 : ((((((W.setCell ⟨R, 0, none⟩ v0).setCell ⟨R, 1, none⟩ v1).setCell ⟨R, 2, none⟩ v2).setCell ⟨R, 3, none⟩ v3).setCell ⟨R, 4, none⟩ v4).setCell ⟨R, 5, none⟩ v5).heap[R]? = some (.cells #[v0, v1, v2, v3, v4, v5, a6] t (0, 0)) := (heap_setCell_same _ _ 5 _ _ _ h4).trans rfl
 have h6 : (((((((W.setCell ⟨R, 0, none⟩ v0).setCell ⟨R, 1, none⟩ v1).setCell ⟨R, 2, none⟩ v2).setCell ⟨R, 3, none⟩ v3).setCell ⟨R, 4, none⟩ v4).setCell ⟨R, 5, none⟩ v5).setCell ⟨R, 6, none⟩ v6).heap[R]? = some (.cells #[v0, v1, v2, v3, v4, v5, v6] t (0, 0)) := (heap_setCell_same _ _ 6 _ _ _ h5).trans rfl
 have k0 : Keeps (fun i => i = R) W (W.setCell ⟨R, 0, none⟩ v0) := Keeps.setCell _ _ _ rfl
 have k1 := k0.trans (Keeps.setCell (S := fun j => j = R ∨ W.heap.size ≤ j) (W.setCell ⟨R, 0, none⟩ v0) ⟨R, 1, none⟩ v1 (.inl rfl))
 have k2 := k1.trans (Keeps.setCell (S := fun j => j = R ∨ W.heap.size ≤ j) ((W.setCell ⟨R, 0, none⟩ v0).setCell ⟨R, 1, none⟩ v1) ⟨R, 2, none⟩ v2 (.inl rfl))
 have k3 := k2.trans (Keeps.setCell (S := fun j => j = R ∨ W.heap.size ≤ j) (((W.setCell ⟨R, 0, none⟩ v0).setCell ⟨R, 1, none⟩ v1).setCell ⟨R, 2, none⟩ v2) ⟨R, 3, none⟩ v3 (.inl rfl))
 have k4 := k3.trans (Keeps.setCell (S := fun j => j = R ∨ W.heap.size ≤ j) ((((W.setCell ⟨R, 0, none⟩ v0).setCell ⟨R, 1, none⟩ v1).setCell ⟨R, 2, none⟩ v2).setCell ⟨R, 3, none⟩ v3) ⟨R, 4, none⟩ v4 (.inl rfl))
 have k5 := k4.trans (Keeps.setCell (S := fun j => j = R ∨ W.heap.size ≤ j) (((((W.setCell ⟨R, 0, none⟩ v0).setCell ⟨R, 1, none⟩ v1).setCell ⟨R, 2, none⟩ v2).setCell ⟨R, 3, none⟩ v3).setCell ⟨R, 4, none⟩ v4) ⟨R, 5, none⟩ v5 (.inl rfl))
 have k6 := k5.trans (Keeps.setCell (S := fun j => j = R ∨ W.heap.size ≤ j) ((((((W.setCell ⟨R, 0, none⟩ v0).setCell ⟨R, 1, none⟩ v1).setCell ⟨R, 2, none⟩ v2).setCell ⟨R, 3, none⟩ v3).setCell ⟨R, 4, none⟩ v4).setCell ⟨R, 5, none⟩ v5) ⟨R, 6, none⟩ v6 (.inl rfl))
 exact ⟨h6, k6⟩
def pF (x : Tn) : Tn := ⟨uq x.rate 3000000, x.grace⟩
structure PtAt (w2 : World) (B b3 : Nat) (E0 E2 : Array Value) (l c d f p st : Int) (L : List Tn) (i : Nat) (v : Value) (wx : World) : Prop where
 h0 : wx.heap[B]? = some (.cells E0 38 (0, 0))
 h2 : wx.heap[B + 1]? = some (.cells E2 38 (0, 0))
 h3 : wx.heap[b3]? = some (.cells #[.int .i64 l, v, .int .i64 c, .int .i64 d, .int .i64 f, .int .i64 p, .int .i64 st] 38 (0, 0))
 row : wx.ownsRow 0 57 2 v i (((L.take i).map pF).flatMap Tn.cells)
 nw : ∀ g, v.ownBlock = some g → w2.heap.size ≤ g
 kp : Keeps (fun i => i = b3) w2 wx
theorem PtAt.app {w2 : World} {B b3 : Nat} {E0 E2 : Array Value} {l c d f p st : Int} {L : List Tn} {i : Nat} {v v9 : Value} {wx w8 w9 : World} {x : Tn} (h : PtAt w2 B b3 E0 E2 l c d f p st L i v wx) (hB : ¬ B = b3) (hB1 : ¬ B + 1 = b3) (hx : L[i]? = some x) (hk8 : Keeps (fun _ => False) wx w8) (hr : w9.ownsRow 0 57 2 v9 (i + 1) (((L.take i).map pF).flatMap Tn.cells ++ (pF x).cells))
  (hk : Keeps (fun k => v.ownBlock = some k) w8 w9) (hf : v9.ownBlock = v.ownBlock ∨ ∃ g, v9.ownBlock = some g ∧ w8.heap.size ≤ g) : PtAt w2 B b3 E0 E2 l c d f p st L (i + 1) v9 (w9.setCell ⟨b3, 1, none⟩ v9) := by
 have hv : ∀ {b : Nat} {cs : Array Value}, wx.heap[b]? = some (.cells cs 38 (0, 0)) → ¬ v.ownBlock = some b := fun hb => ownsRow_ne h.row hb (by decide)
 have kb : Keeps (fun i => i = b3) w9 (w9.setCell ⟨b3, 1, none⟩ v9) := Keeps.setCell _ _ _ rfl
 have c0 := box_old (box_old (box_old h.h0 hk8 (by simp)) hk (hv h.h0)) kb hB
 have c2 := box_old (box_old (box_old h.h2 hk8 (by simp)) hk (hv h.h2)) kb hB1
 have c3 := box_old (box_old h.h3 hk8 (by simp)) hk (hv h.h3)
 have hne : ∀ k, v9.ownBlock = some k → ¬ k = b3 := fun k hk' e => by
  subst e
  exact ownsRow_ne hr c3 (by decide) hk'
 refine ⟨c0, c2, (heap_setCell_same _ _ 1 _ _ _ c3).trans rfl, ?_, ?_, ?_⟩
 ·rw [take_snoc' hx, List.map_append, List.flatMap_append]
  simpa using kb.row hr hne
 ·intro g hg
  rcases hf with e | ⟨g', e1, e2⟩
  ·rw [e] at hg; exact h.nw g hg
  ·rw [e1] at hg; injection hg with hg; have := h.kp.size; have := hk8.size; omega
 ·exact ((h.kp.trans (hk8.mono (by simp))).trans (hk.mono fun i _ e => .inr (h.nw i e))).trans (kb.mono fun i _ e => .inl e)
def pt8 (b3 B : Nat) (v vs : Value) (g o : Nat) (r : Int) (gr : Bool) (W : World) : Prop := W.cell? ⟨b3, 1, none⟩ = some v ∧ W.cell? ⟨B, 1, none⟩ = some vs ∧ W.cell? ⟨g, o, none⟩ = some (.int .i64 r) ∧ W.cell? ⟨g, o + 1, none⟩ = some (.bool gr)
theorem pt8.keep {b3 B : Nat} {v vs : Value} {g o : Nat} {r : Int} {gr : Bool} {W W' : World} {S : Nat → Prop} (h : pt8 b3 B v vs g o r gr W) (hk : Keeps S W W') (h1 : ¬ S b3) (h2 : ¬ S B) (h3 : ¬ S g) : pt8 b3 B v vs g o r gr W' :=
 ⟨(hk.cell (cell_lt h.1) h1).trans h.1, (hk.cell (cell_lt h.2.1) h2).trans h.2.1, (hk.cell (cell_lt h.2.2.1) h3).trans h.2.2.1, (hk.cell (cell_lt h.2.2.2) h3).trans h.2.2.2⟩
set_option maxRecDepth 100000 in
set_option maxHeartbeats 1600000 in
theorem playTerms_any (t : Tm) (adt : Option Addr) (ct n : Nat) (w : World) (hn : t.trs.length = n) (htr : Reads w 2 (.slice adt n ct) n (t.trs.flatMap Tn.cells)) (htl : n ≤ 9223372036854775807) :
  Calls Tryz.prog 13 #[.agg #[.int .i64 t.limit, .slice adt n ct, .int .i64 t.cyc, .int .i64 t.due, .int .i64 t.minFixed, .int .i64 t.minPart, .int .i64 t.start]] w fun e w' => ∃ v, e = .returned (.agg #[.int .i64 (playT t).limit, v, .int .i64 (playT t).cyc, .int .i64 (playT t).due, .int .i64 (playT t).minFixed, .int .i64 (playT t).minPart, .int .i64 (playT t).start]) ∧ Reads w' 2 v (playT t).trs.length ((playT t).trs.flatMap Tn.cells) ∧ Keeps (fun _ => False) w w' ∧ (v = .slice adt n ct ∨ ∀ g, v.ownBlock = some g → w.heap.size ≤ g) := by
 obtain ⟨i0, hi, hi0, hi1, hi2⟩ := info_parts info_tTr
 obtain ⟨q, hq⟩ : ∃ q, uq t.start 400 = q := ⟨_, rfl⟩
 have hu0 : ∀ x, 0 ≤ IntKind.u64.wrap x := fun x => by rw [IntKind.wrap_u64]; omega
 have hqt : (IntKind.u64.wrap t.start).tmod 400 = q := by rw [Int.tmod_eq_emod_of_nonneg (hu0 _)]; exact hq
 obtain ⟨q0, q1⟩ := uq_bd t.start (m := 400) (by decide)
 rw [hq] at q0 q1
 have hrt := fun W (hW : Keeps (fun _ => False) w W) => rtmRight_bigAt { t with start := 10957 + q } (.slice adt n ct) W rfl (by rw [← hn] at *; exact htr.keeps hW (by simp)) (by rw [← hn] at htl; exact htl)
 obtain ⟨E, hE⟩ : ∃ E, ({ t with start := 10957 + q } : Tm).err = E := ⟨_, rfl⟩
 rw [hE] at hrt
 have hE2 := Tm.err_or { t with start := 10957 + q }
 rw [hE] at hE2
 dsimp only at hrt
 obtain ⟨Z, hZ⟩ : ∃ Z, playT t = Z := ⟨_, rfl⟩
 have hZ2 := hZ
 unfold playT at hZ2
 rw [hq, hE] at hZ2
 rw [hZ]
 obtain ⟨Hi, Hi0, Hi1, Hi2, Hq, Hrt, HE, HZ, Hu0⟩ := hid9 hi hi0 hi1 hi2 hq hrt hE hZ hu0; clear hu0 hZ hE hrt hq hi2 hi1 hi0 hi; obtain ⟨Htr, Hn, HZ2⟩ := hid3 htr hn hZ2; clear hZ2 hn htr
 go_enter Tryz.func13, Tryz.ntmps13
 go_wp2_with fail
 refine (Hrt.out _ (by (repeat (first | exact Keeps.refl _ _ | exact Keeps.alloc _ _ | exact Keeps.drew _ | exact Keeps.drewN _ _ | refine Keeps.trans_drew ?_ | refine Keeps.trans_drewN ?_ | refine Keeps.trans_alloc ?_)))).mono ?_
 rintro e w1 ⟨rfl, hk1⟩
 have hb0 := box_old (box_alloc (heap_alloc_new w _) _) hk1 (by simp)
 have hb2 := box_new hk1 (by simp)
 rw [World.size_alloc] at hb2
 have hk0 : Keeps (fun _ => False) w w1 := Keeps.nt (by (repeat (first | exact Keeps.refl _ _ | exact Keeps.alloc _ _ | exact Keeps.drew _ | exact Keeps.drewN _ _ | refine Keeps.trans_drew ?_ | refine Keeps.trans_drewN ?_ | refine Keeps.trans_alloc ?_))) hk1
 clear hk1
 rcases hE2 with rfl | rfl
 ·have hZ3 := HZ2.out
  rw [if_pos rfl] at hZ3
  have t0 := cell_of_cells (hb0) 0
  have t1 := cell_of_cells (hb0) 1
  have t2 := cell_of_cells (hb0) 2
  have t3 := cell_of_cells (hb0) 3
  have t4 := cell_of_cells (hb0) 4
  have t5 := cell_of_cells (hb0) 5
  have t6 := cell_of_cells (hb0) 6
  have tl := lt_of_block (hb0)
  have s0 := cell_of_cells (hb2) 0
  have s1 := cell_of_cells (hb2) 1
  have s2 := cell_of_cells (hb2) 2
  have s3 := cell_of_cells (hb2) 3
  have s4 := cell_of_cells (hb2) 4
  have s5 := cell_of_cells (hb2) 5
  have s6 := cell_of_cells (hb2) 6
  have sl := lt_of_block (hb2)
  have f0 := free_of_cells (hb2) 0
  have f1 := free_of_cells (hb2) 1
  have f2 := free_of_cells (hb2) 2
  have f3 := free_of_cells (hb2) 3
  have f4 := free_of_cells (hb2) 4
  have f5 := free_of_cells (hb2) 5
  have f6 := free_of_cells (hb2) 6
  obtain ⟨hb3, hk3⟩ := store7 hb2 (.int .i64 t.limit) (.slice adt n ct) (.int .i64 t.cyc) (.int .i64 t.due) (.int .i64 t.minFixed) (.int .i64 t.minPart) (.int .i64 (10957 + q))
  have hkz := hk0.trans (hk3.mono fun i _ e => .inr (by have e' : i = w.heap.size + 1 := e; omega))
  have hrz : ∀ W, Keeps (fun _ => False) w W → Reads W 2 (.slice adt n ct) Z.trs.length (Z.trs.flatMap Tn.cells) := fun W hW => by rw [← hZ3]; show Reads W 2 _ t.trs.length (t.trs.flatMap Tn.cells); rw [Hn.out]; exact Htr.out.keeps hW (by simp)
  obtain ⟨Hb0, Hb2, Hk0, HZ3, Hb3, Hk3, Hkz, Hrz⟩ := hid8 hb0 hb2 hk0 hZ3 hb3 hk3 hkz hrz; clear hrz hkz hk3 hb3 hZ3 hk0 hb2 hb0
  go_wp2
  clear s0 s1 s2 s3 s4 s5 s6
  have r0 := cell_of_cells (Hb3.out) 0
  have r1 := cell_of_cells (Hb3.out) 1
  have r2 := cell_of_cells (Hb3.out) 2
  have r3 := cell_of_cells (Hb3.out) 3
  have r4 := cell_of_cells (Hb3.out) 4
  have r5 := cell_of_cells (Hb3.out) 5
  have r6 := cell_of_cells (Hb3.out) 6
  exact bodyPost_ret (v := .agg #[.int .i64 (t.limit), .slice adt n ct, .int .i64 (t.cyc), .int .i64 (t.due), .int .i64 (t.minFixed), .int .i64 (t.minPart), .int .i64 (10957 + q)]) (by simp [results, Tryz.results13, go_sem, r0, r1, r2, r3, r4, r5, r6]) rfl ⟨.slice adt n ct, by rw [← HZ3.out], Hrz.out _ Hkz.out, Hkz.out, .inl rfl⟩
 ·have hZ3 := HZ2.out
  rw [if_neg (by decide)] at hZ3
  obtain ⟨ul, hul⟩ : ∃ z, uq t.limit 100000 = z := ⟨_, rfl⟩
  have tul : (IntKind.u64.wrap t.limit).tmod 100000 = ul := by rw [Int.tmod_eq_emod_of_nonneg (Hu0.out _)]; exact hul
  have bul := uq_bd t.limit (m := 100000) (by decide)
  rw [hul] at bul
  obtain ⟨bul0, bul1⟩ := bul
  obtain ⟨uc, huc⟩ : ∃ z, uq t.cyc 28 = z := ⟨_, rfl⟩
  have tuc : (IntKind.u64.wrap t.cyc).tmod 28 = uc := by rw [Int.tmod_eq_emod_of_nonneg (Hu0.out _)]; exact huc
  have buc := uq_bd t.cyc (m := 28) (by decide)
  rw [huc] at buc
  obtain ⟨buc0, buc1⟩ := buc
  obtain ⟨ud, hud⟩ : ∃ z, uq t.due 25 = z := ⟨_, rfl⟩
  have tud : (IntKind.u64.wrap t.due).tmod 25 = ud := by rw [Int.tmod_eq_emod_of_nonneg (Hu0.out _)]; exact hud
  have bud := uq_bd t.due (m := 25) (by decide)
  rw [hud] at bud
  obtain ⟨bud0, bud1⟩ := bud
  obtain ⟨uf, huf⟩ : ∃ z, uq t.minFixed 100 = z := ⟨_, rfl⟩
  have tuf : (IntKind.u64.wrap t.minFixed).tmod 100 = uf := by rw [Int.tmod_eq_emod_of_nonneg (Hu0.out _)]; exact huf
  have buf := uq_bd t.minFixed (m := 100) (by decide)
  rw [huf] at buf
  obtain ⟨buf0, buf1⟩ := buf
  obtain ⟨up, hup⟩ : ∃ z, uq t.minPart 101 = z := ⟨_, rfl⟩
  have tup : (IntKind.u64.wrap t.minPart).tmod 101 = up := by rw [Int.tmod_eq_emod_of_nonneg (Hu0.out _)]; exact hup
  have bup := uq_bd t.minPart (m := 101) (by decide)
  rw [hup] at bup
  obtain ⟨bup0, bup1⟩ := bup
  rw [hul, huc, hud, huf, hup] at hZ3
  obtain ⟨B, hBe⟩ : ∃ x, x = w.heap.size := ⟨_, rfl⟩
  obtain ⟨b3, hb3e⟩ : ∃ x, x = w1.heap.size := ⟨_, rfl⟩
  have hs0 : B + 1 < b3 := by rw [hBe, hb3e]; exact lt_of_block hb2
  rw [← hBe] at hb0 hb2
  obtain ⟨w2, hw2⟩ : ∃ x, x = w1.alloc (.cells #[.int .i64 ul, .slice none 0 0, .int .i64 (1 + uc), .int .i64 (1 + ud), .int .i64 uf, .int .i64 up, .int .i64 (10957 + q)] 38) := ⟨_, rfl⟩
  have hst : PtAt w2 B b3 #[.int .i64 t.limit, .slice adt n ct, .int .i64 t.cyc, .int .i64 t.due, .int .i64 t.minFixed, .int .i64 t.minPart, .int .i64 (10957 + q)] #[.int .i64 0, .slice none 0 0, .int .i64 0, .int .i64 0, .int .i64 0, .int .i64 0, .int .i64 0] ul (1 + uc) (1 + ud) uf up (10957 + q) t.trs 0 (.slice none 0 0) w2 :=
   ⟨by rw [hw2]; exact box_alloc hb0 _, by rw [hw2]; exact box_alloc hb2 _, by rw [hw2, hb3e]; exact heap_alloc_new w1 _, World.ownsRow_nil _ _ _ _, by simp [Value.ownBlock], Keeps.refl _ _⟩
  have hk2 : Keeps (fun _ => False) w w2 := by rw [hw2]; exact hk0.nt (Keeps.alloc _ _)
  have hb3w : w.heap.size ≤ b3 := by rw [← hBe]; omega
  have hb3s : b3 < w2.heap.size := lt_of_block hst.h3
  rw [← hBe]
  have t0 := cell_of_cells (hb0) 0
  have t1 := cell_of_cells (hb0) 1
  have t2 := cell_of_cells (hb0) 2
  have t3 := cell_of_cells (hb0) 3
  have t4 := cell_of_cells (hb0) 4
  have t5 := cell_of_cells (hb0) 5
  have t6 := cell_of_cells (hb0) 6
  have tl := lt_of_block (hb0)
  obtain ⟨Hb0, Hb2, Hk0, HZ3, Hul, Huc, Hud, Huf, Hup⟩ := hid9 hb0 hb2 hk0 hZ3 hul huc hud huf hup; clear hup huf hud huc hul hZ3 hk0 hb2 hb0; obtain ⟨Hst, Hk2, HBe, Hs0, Hb3w, Hb3s⟩ := hid6 hst hk2 hBe hs0 hb3w hb3s; clear hb3s hb3w hs0 hBe hk2 hst
  go_wp2
  rw [← hw2]
  clear hw2 t0 t1 t2 t3 t4 t5 t6 tl
  rw [← hb3e]
  clear hb3e
  go_loopw [4] (fun x wx => ∃ (i : Nat) (v : Value), x = .int .i64 (i : Nat) ∧ i ≤ n ∧ i ≤ 8 ∧ PtAt w2 B b3 #[.int .i64 t.limit, .slice adt n ct, .int .i64 t.cyc, .int .i64 t.due, .int .i64 t.minFixed, .int .i64 t.minPart, .int .i64 (10957 + q)] #[.int .i64 0, .slice none 0 0, .int .i64 0, .int .i64 0, .int .i64 0, .int .i64 0, .int .i64 0] ul (1 + uc) (1 + ud) uf up (10957 + q) t.trs i v wx) (fun x _ => 8 - (intOf x).toNat)
  case atStart => exact ⟨0, _, rfl, Nat.zero_le _, Nat.zero_le _, Hst.out⟩
  case round =>
   obtain ⟨i, v, rfl, hin, hi8, hat⟩ := hrel
   obtain ⟨wq, hwq⟩ : ∃ x, x = wr := ⟨_, rfl⟩
   subst hwq
   obtain ⟨av, cv, rfl⟩ : ∃ a c, v = .slice a i c := by obtain ⟨a, c, h, _⟩ := ownsRow_shape hat.row; exact ⟨a, c, h⟩
   have hkq : Keeps (fun _ => False) w wq := Hk2.out.trans (hat.kp.mono fun i _ e => .inr (by have e' : i = b3 := e; have := Hb3w.out; omega))
   by_cases hlt : i < n ∧ i < 8
   ·have hltI : (i : Int) < (n : Int) := by omega
    have hlt8 : (i : Int) < 8 := by omega
    obtain ⟨x, hx⟩ := get_some (L := t.trs) (k := i) (by rw [Hn.out]; exact hlt.1)
    obtain ⟨g, o, c', he, hc⟩ := (Htr.out.keeps hkq (by simp)).elem Tn.cells_length hx (by decide)
    simp only [Value.slice.injEq, true_and] at he
    obtain ⟨rfl, rfl⟩ := he
    obtain ⟨xr, xg⟩ := x
    have x0 : wq.cell? ⟨g, o + i * 2, none⟩ = some (.int .i64 xr) := hc 0 (by decide)
    have x1 : wq.cell? ⟨g, o + i * 2 + 1, none⟩ = some (.bool xg) := hc 1 (by decide)
    clear hc
    obtain ⟨ur, hur⟩ : ∃ z, uq xr 3000000 = z := ⟨_, rfl⟩
    have tur : (IntKind.u64.wrap xr).tmod 3000000 = ur := by rw [Int.tmod_eq_emod_of_nonneg (Hu0.out _)]; exact hur
    have bur := uq_bd xr (m := 3000000) (by decide)
    rw [hur] at bur
    obtain ⟨bur0, bur1⟩ := bur
    have hwr : IntKind.i64.wrap ur = ur := by rw [IntKind.wrap_i64]; omega
    have hS : pt8 b3 B (.slice av i cv) (.slice (some ⟨g, o, none⟩) n ct) g (o + i * 2) xr xg wq.drew := (show pt8 b3 B (.slice av i cv) (.slice (some ⟨g, o, none⟩) n ct) g (o + i * 2) xr xg wq from ⟨cell_of_cells hat.h3 1, cell_of_cells hat.h0 1, x0, x1⟩).keep (S := fun _ => False) (Keeps.drew _) (by simp) (by simp) (by simp)
    have hne3 : ¬ (Value.slice av i cv).ownBlock = some b3 := ownsRow_ne hat.row hat.h3 (by decide)
    have hneB : ¬ (Value.slice av i cv).ownBlock = some B := ownsRow_ne hat.row hat.h0 (by decide)
    have hneg : ¬ (Value.slice av i cv).ownBlock = some g := fun e => by
     have h1 := hat.nw g e
     have h2 := Htr.out.lt (fun e => by rw [List.flatMap_eq_nil_iff] at e; have := e _ (List.mem_of_getElem? hx); simp [Tn.cells] at this)
     obtain ⟨g', e1, e2⟩ := h2
     simp only [Value.ownBlock, Option.some.injEq] at e1
     have := Hk2.out.size
     omega
    have hbB := lt_of_block hat.h0
    have hb3q := lt_of_block hat.h3
    have hgl := cell_lt x0
    have c01 := cell_of_cells hat.h0 1
    obtain ⟨Hat, Hkq, Hx, Hur, HS, Hlt⟩ := hid6 hat hkq hx hur hS hlt; clear hlt hS hur hx hkq hat
    go_wp2_with fail
    clear x0 x1 c01
    refine wp_region_mixz (pt8 b3 B (.slice av i cv) (.slice (some ⟨g, o, none⟩) n ct) g (o + i * 2) xr xg) 21 (.take 0 (.take 1 (.take 2 (.take 3 (.take 4 (.take 5 (.take 6 (.take 7 (.take 8 (.take 9 (.take 10 (.take 11 (.take 12 (.take 13 (.take 14 (.take 15 (.take 16 (.take 17 (.move 18 (.move 19 (.take 20 (.move 21 .done)))))))))))))))))))))) (by kernel_rfl) (by kernel_rfl) ?_ ?_
    ·exact HS.out
    intro w8 hs8 hk8
    repeat (first
     | (refine mix_skip rfl (by rfl) ?_; try simp only [Act.put, List.setIfInBounds_toArray, List.set_cons_zero, List.set_cons_succ])
     | (refine mix_skipm rfl (by rfl) ?_; try simp only [Act.put, List.setIfInBounds_toArray, List.set_cons_zero, List.set_cons_succ])
     | (refine mix_take (v := ?_) rfl (by rfl) ?_ ?_; rotate_left; (· intro w' hSw; unfold pt8 at hSw; go_simp; (try with_reducible rfl)); rotate_right; try simp only [Act.put, List.setIfInBounds_toArray, List.set_cons_zero, List.set_cons_succ]))
    refine mix_move rfl (fun K hK => ?_)
    go_simp
    refine hK.out _ _ (by exact hs8.keep (S := fun _ => False) (Keeps.alloc _ _) (by simp) (by simp) (by simp)) ?_
    clear hK K
    try simp only [Act.put, List.setIfInBounds_toArray, List.set_cons_zero, List.set_cons_succ]
    have hk8a := hk8.nt (Keeps.alloc w8 (.cells #[.int .i64 ur, .bool xg] 57))
    have hrow8 := Hat.out.row.of_keeps hk8a
    refine mix_move rfl (fun K hK => ?_)
    refine step_append_row rfl (.tmp 58) (.tmp 75) 36 rfl 0 57 i0 _ 2 16 Tryz.underlying36 Hi.out Hi0.out Hi1.out Hi2.out rfl (by decide) (.slice av i cv) i _ rfl hrow8 _ 1 _ rfl (Reads.litAt _ _ _ 2 1 _ (by first | rfl | simp) rfl) (by simp [Value.oneCell']) (by unfold maxLen; omega) (by omega) (Nat.zero_le _) ?_
    intro v9 w9 hown9 hk9 hf9
    obtain ⟨a9, c9, rfl, _, _⟩ := ownsRow_shape hown9
    have happ := Hat.out.app (by have := Hs0.out; omega) (by have := Hs0.out; omega) Hx.out hk8a (by unfold pF; rw [Hur.out]; exact hown9) hk9 hf9
    have hb39 := box_old (box_old Hat.out.h3 hk8a (by simp)) hk9 hne3
    have o1 := cell_of_cells hb39 1
    have f1 := free_of_cells hb39 1
    have l1 := lt_of_block hb39
    refine hK.out _ _ (by exact (hs8.keep (S := fun _ => False) (Keeps.alloc _ _) (by simp) (by simp) (by simp)).keep hk9 hne3 hneB hneg) ?_
    clear hK K
    try simp only [Act.put, List.setIfInBounds_toArray, List.set_cons_zero, List.set_cons_succ]
    clear hs8
    obtain ⟨Hk8a, Hrow8, Happ, Hb39, Hown9, Hk9, Hk8⟩ := hid7 hk8a hrow8 happ hb39 hown9 hk9 hk8; clear hk8 hk9 hown9 hb39 happ hrow8 hk8a
    repeat (first
     | (refine mix_skip rfl (by rfl) ?_; try simp only [Act.put, List.setIfInBounds_toArray, List.set_cons_zero, List.set_cons_succ])
     | (refine mix_skipm rfl (by rfl) ?_; try simp only [Act.put, List.setIfInBounds_toArray, List.set_cons_zero, List.set_cons_succ])
     | (refine mix_take (v := ?_) rfl (by rfl) ?_ ?_; rotate_left; (· intro w' hSw; unfold pt8 at hSw; go_simp; (try with_reducible rfl)); rotate_right; try simp only [Act.put, List.setIfInBounds_toArray, List.set_cons_zero, List.set_cons_succ]))
    refine mix_last rfl (fun K hK => ?_)
    go_simp
    refine hK.out _ _ ?_
    clear hK K
    try simp only [Act.put, List.setIfInBounds_toArray, List.set_cons_zero, List.set_cons_succ]
    refine mix_done ?_
    clear o1 f1 l1
    go_wp2_with fail
    go_roundw
    case rel => exact ⟨i + 1, _, by go_num, by have := Hlt.out; omega, by have := Hlt.out; omega, Happ.out⟩
    case measure => simp [intOf]; omega
   ·have hmap : (t.trs.take i).map pF = (t.trs.take 8).map pF := by
     by_cases h8 : i = 8
     ·rw [h8]
     ·have : n = i := by omega
      rw [List.take_of_length_le (by rw [Hn.out]; omega), List.take_of_length_le (by rw [Hn.out]; omega)]
    have hlen : ((t.trs.take 8).map pF).length = i := by rw [← hmap, List.length_map, List.length_take, Hn.out]; omega
    have hpl : playTrs t.trs = if (t.trs.take 8).map pF = [] then [⟨500000, false⟩] else (t.trs.take 8).map pF := rfl
    have hrow := hat.row
    rw [hmap] at hrow
    have c01 := cell_of_cells hat.h0 1
    have hbB := lt_of_block hat.h0
    by_cases h0 : i = 0
    ·subst h0
     have hn0 : ¬ ((0 : Nat) : Int) < (n : Int) := by omega
     rw [if_pos (List.eq_nil_of_length_eq_zero hlen)] at hpl
     have hZ4 := HZ3.out
     rw [hpl] at hZ4
     have o1 := cell_of_cells hat.h3 1
     have f1 := free_of_cells hat.h3 1
     have l1 := lt_of_block hat.h3
     obtain ⟨W4, hW4⟩ : ∃ x, x = (wq.setCell ⟨b3, 1, none⟩ (.slice (some ⟨wq.heap.size, 0, none⟩) 1 1)).alloc (.cells #[.int .i64 500000, .bool false] 57) := ⟨_, rfl⟩
     have hk4 : Keeps (fun i => i = b3) wq W4 := by rw [hW4]; exact (Keeps.setCell (S := fun i => i = b3) wq _ _ rfl).trans (Keeps.alloc _ _)
     have hb34 : W4.heap[b3]? = some (.cells #[.int .i64 ul, .slice (some ⟨wq.heap.size, 0, none⟩) 1 1, .int .i64 (1 + uc), .int .i64 (1 + ud), .int .i64 uf, .int .i64 up, .int .i64 (10957 + q)] 38 (0, 0)) := by rw [hW4]; exact box_alloc ((heap_setCell_same _ _ 1 _ _ _ hat.h3).trans rfl) _
     have hb24 := box_old hat.h2 hk4 (by have := Hs0.out; omega)
     have hrd4 : Reads W4 2 (.slice (some ⟨wq.heap.size, 0, none⟩) 1 1) 1 ([(⟨500000, false⟩ : Tn)].flatMap Tn.cells) := by
      rw [hW4]
      exact Reads.litAt (n := 1) _ #[.int .i64 500000, .bool false] _ 2 _ (by simp) rfl
     have hkw4 : Keeps (fun _ => False) w W4 := hkq.trans (hk4.mono fun i _ e => .inr (by have e' : i = b3 := e; have := Hb3w.out; omega))
     obtain ⟨Hat, Hkq, Hmap, Hlen, Hpl, Hrow, Hlt, HZ4, Hk4⟩ := hid9 hat hkq hmap hlen hpl hrow hlt hZ4 hk4; clear hk4 hZ4 hlt hrow hpl hlen hmap hkq hat; obtain ⟨Hb34, Hb24, Hrd4, Hkw4⟩ := hid4 hb34 hb24 hrd4 hkw4; clear hkw4 hrd4 hb24 hb34
     go_upto_region 11 with fail
     rw [← hW4]
     clear hW4 o1 f1 l1
     have t0 := cell_of_cells (Hb34.out) 0
     have t1 := cell_of_cells (Hb34.out) 1
     have t2 := cell_of_cells (Hb34.out) 2
     have t3 := cell_of_cells (Hb34.out) 3
     have t4 := cell_of_cells (Hb34.out) 4
     have t5 := cell_of_cells (Hb34.out) 5
     have t6 := cell_of_cells (Hb34.out) 6
     have tl := lt_of_block (Hb34.out)
     have s0 := cell_of_cells (Hb24.out) 0
     have s1 := cell_of_cells (Hb24.out) 1
     have s2 := cell_of_cells (Hb24.out) 2
     have s3 := cell_of_cells (Hb24.out) 3
     have s4 := cell_of_cells (Hb24.out) 4
     have s5 := cell_of_cells (Hb24.out) 5
     have s6 := cell_of_cells (Hb24.out) 6
     have sl := lt_of_block (Hb24.out)
     have f0 := free_of_cells (Hb24.out) 0
     have f1 := free_of_cells (Hb24.out) 1
     have f2 := free_of_cells (Hb24.out) 2
     have f3 := free_of_cells (Hb24.out) 3
     have f4 := free_of_cells (Hb24.out) 4
     have f5 := free_of_cells (Hb24.out) 5
     have f6 := free_of_cells (Hb24.out) 6
     obtain ⟨hb5, hk5⟩ := store7 (Hb24.out) (.int .i64 ul) (.slice (some ⟨wq.heap.size, 0, none⟩) 1 1) (.int .i64 (1 + uc)) (.int .i64 (1 + ud)) (.int .i64 uf) (.int .i64 up) (.int .i64 (10957 + q))
     have hkz := (Hkw4.out).trans (hk5.mono fun i _ e => .inr (by have e' : i = B + 1 := e; have := HBe.out; omega))
     have hrz : Reads _ 2 (.slice (some ⟨wq.heap.size, 0, none⟩) 1 1) Z.trs.length (Z.trs.flatMap Tn.cells) := (by rw [← HZ4.out]; exact Hrd4.out.keeps hk5 (fun g hg e => by simp only [Value.ownBlock, Option.some.injEq] at hg; have e' : g = B + 1 := e; have := lt_of_block Hat.out.h2; omega))
     obtain ⟨Hb5, Hk5, Hkz, Hrz⟩ := hid4 hb5 hk5 hkz hrz; clear hrz hkz hk5 hb5
     go_wp2
     clear s0 s1 s2 s3 s4 s5 s6
     have r0 := cell_of_cells (Hb5.out) 0
     have r1 := cell_of_cells (Hb5.out) 1
     have r2 := cell_of_cells (Hb5.out) 2
     have r3 := cell_of_cells (Hb5.out) 3
     have r4 := cell_of_cells (Hb5.out) 4
     have r5 := cell_of_cells (Hb5.out) 5
     have r6 := cell_of_cells (Hb5.out) 6
     exact bodyPost_ret (v := .agg #[.int .i64 ul, .slice (some ⟨wq.heap.size, 0, none⟩) 1 1, .int .i64 (1 + uc), .int .i64 (1 + ud), .int .i64 uf, .int .i64 up, .int .i64 (10957 + q)]) (by simp [results, Tryz.results13, go_sem, r0, r1, r2, r3, r4, r5, r6]) rfl ⟨.slice (some ⟨wq.heap.size, 0, none⟩) 1 1, by rw [← HZ4.out], Hrz.out, Hkz.out, .inr (fun g hg => by simp only [Value.ownBlock, Option.some.injEq] at hg; have := Hkq.out.size; omega)⟩
    ·have hi0 : ((i : Int) == 0) = false := beq_eq_false_iff_ne.2 (by omega)
     rw [if_neg (fun e => by rw [e] at hlen; simp at hlen; omega)] at hpl
     have hZ4 := HZ3.out
     rw [hpl] at hZ4
     have hrd4 : Reads wq 2 (.slice av i cv) ((t.trs.take 8).map pF).length (((t.trs.take 8).map pF).flatMap Tn.cells) := by rw [hlen]; exact Reads.of_owns hrow
     have hnb : ¬ (Value.slice av i cv).ownBlock = some (B + 1) := ownsRow_ne hat.row hat.h2 (by decide)
     by_cases h8 : i < n
     ·have hltI : (i : Int) < (n : Int) := by omega
      have hlt8 : ¬ (i : Int) < 8 := by omega
      obtain ⟨Hat, Hkq, Hmap, Hlen, Hpl, Hrow, Hlt, HZ4, Hrd4⟩ := hid9 hat hkq hmap hlen hpl hrow hlt hZ4 hrd4; clear hrd4 hZ4 hlt hrow hpl hlen hmap hkq hat; have Hnb := Lib.hid hnb; clear hnb
      have t0 := cell_of_cells (Hat.out.h3) 0
      have t1 := cell_of_cells (Hat.out.h3) 1
      have t2 := cell_of_cells (Hat.out.h3) 2
      have t3 := cell_of_cells (Hat.out.h3) 3
      have t4 := cell_of_cells (Hat.out.h3) 4
      have t5 := cell_of_cells (Hat.out.h3) 5
      have t6 := cell_of_cells (Hat.out.h3) 6
      have tl := lt_of_block (Hat.out.h3)
      have s0 := cell_of_cells (Hat.out.h2) 0
      have s1 := cell_of_cells (Hat.out.h2) 1
      have s2 := cell_of_cells (Hat.out.h2) 2
      have s3 := cell_of_cells (Hat.out.h2) 3
      have s4 := cell_of_cells (Hat.out.h2) 4
      have s5 := cell_of_cells (Hat.out.h2) 5
      have s6 := cell_of_cells (Hat.out.h2) 6
      have sl := lt_of_block (Hat.out.h2)
      have f0 := free_of_cells (Hat.out.h2) 0
      have f1 := free_of_cells (Hat.out.h2) 1
      have f2 := free_of_cells (Hat.out.h2) 2
      have f3 := free_of_cells (Hat.out.h2) 3
      have f4 := free_of_cells (Hat.out.h2) 4
      have f5 := free_of_cells (Hat.out.h2) 5
      have f6 := free_of_cells (Hat.out.h2) 6
      obtain ⟨hb5, hk5⟩ := store7 (Hat.out.h2) (.int .i64 ul) (.slice av i cv) (.int .i64 (1 + uc)) (.int .i64 (1 + ud)) (.int .i64 uf) (.int .i64 up) (.int .i64 (10957 + q))
      have hkz := (Hkq.out).trans (hk5.mono fun i _ e => .inr (by have e' : i = B + 1 := e; have := HBe.out; omega))
      have hrz : Reads _ 2 (.slice av i cv) Z.trs.length (Z.trs.flatMap Tn.cells) := (by rw [← HZ4.out]; exact Hrd4.out.keeps hk5 (fun g hg e => by have e' : g = B + 1 := e; subst e'; exact Hnb.out hg))
      obtain ⟨Hb5, Hk5, Hkz, Hrz⟩ := hid4 hb5 hk5 hkz hrz; clear hrz hkz hk5 hb5
      go_wp2
      clear s0 s1 s2 s3 s4 s5 s6
      have r0 := cell_of_cells (Hb5.out) 0
      have r1 := cell_of_cells (Hb5.out) 1
      have r2 := cell_of_cells (Hb5.out) 2
      have r3 := cell_of_cells (Hb5.out) 3
      have r4 := cell_of_cells (Hb5.out) 4
      have r5 := cell_of_cells (Hb5.out) 5
      have r6 := cell_of_cells (Hb5.out) 6
      exact bodyPost_ret (v := .agg #[.int .i64 ul, .slice av i cv, .int .i64 (1 + uc), .int .i64 (1 + ud), .int .i64 uf, .int .i64 up, .int .i64 (10957 + q)]) (by simp [results, Tryz.results13, go_sem, r0, r1, r2, r3, r4, r5, r6]) rfl ⟨.slice av i cv, by rw [← HZ4.out], Hrz.out, Hkz.out, .inr (fun g hg => Nat.le_trans Hk2.out.size (Hat.out.nw g hg))⟩
     ·have hltI : ¬ (i : Int) < (n : Int) := by omega
      obtain ⟨Hat, Hkq, Hmap, Hlen, Hpl, Hrow, Hlt, HZ4, Hrd4⟩ := hid9 hat hkq hmap hlen hpl hrow hlt hZ4 hrd4; clear hrd4 hZ4 hlt hrow hpl hlen hmap hkq hat; have Hnb := Lib.hid hnb; clear hnb
      have t0 := cell_of_cells (Hat.out.h3) 0
      have t1 := cell_of_cells (Hat.out.h3) 1
      have t2 := cell_of_cells (Hat.out.h3) 2
      have t3 := cell_of_cells (Hat.out.h3) 3
      have t4 := cell_of_cells (Hat.out.h3) 4
      have t5 := cell_of_cells (Hat.out.h3) 5
      have t6 := cell_of_cells (Hat.out.h3) 6
      have tl := lt_of_block (Hat.out.h3)
      have s0 := cell_of_cells (Hat.out.h2) 0
      have s1 := cell_of_cells (Hat.out.h2) 1
      have s2 := cell_of_cells (Hat.out.h2) 2
      have s3 := cell_of_cells (Hat.out.h2) 3
      have s4 := cell_of_cells (Hat.out.h2) 4
      have s5 := cell_of_cells (Hat.out.h2) 5
      have s6 := cell_of_cells (Hat.out.h2) 6
      have sl := lt_of_block (Hat.out.h2)
      have f0 := free_of_cells (Hat.out.h2) 0
      have f1 := free_of_cells (Hat.out.h2) 1
      have f2 := free_of_cells (Hat.out.h2) 2
      have f3 := free_of_cells (Hat.out.h2) 3
      have f4 := free_of_cells (Hat.out.h2) 4
      have f5 := free_of_cells (Hat.out.h2) 5
      have f6 := free_of_cells (Hat.out.h2) 6
      obtain ⟨hb5, hk5⟩ := store7 (Hat.out.h2) (.int .i64 ul) (.slice av i cv) (.int .i64 (1 + uc)) (.int .i64 (1 + ud)) (.int .i64 uf) (.int .i64 up) (.int .i64 (10957 + q))
      have hkz := (Hkq.out).trans (hk5.mono fun i _ e => .inr (by have e' : i = B + 1 := e; have := HBe.out; omega))
      have hrz : Reads _ 2 (.slice av i cv) Z.trs.length (Z.trs.flatMap Tn.cells) := (by rw [← HZ4.out]; exact Hrd4.out.keeps hk5 (fun g hg e => by have e' : g = B + 1 := e; subst e'; exact Hnb.out hg))
      obtain ⟨Hb5, Hk5, Hkz, Hrz⟩ := hid4 hb5 hk5 hkz hrz; clear hrz hkz hk5 hb5
      go_wp2
      clear s0 s1 s2 s3 s4 s5 s6
      have r0 := cell_of_cells (Hb5.out) 0
      have r1 := cell_of_cells (Hb5.out) 1
      have r2 := cell_of_cells (Hb5.out) 2
      have r3 := cell_of_cells (Hb5.out) 3
      have r4 := cell_of_cells (Hb5.out) 4
      have r5 := cell_of_cells (Hb5.out) 5
      have r6 := cell_of_cells (Hb5.out) 6
      exact bodyPost_ret (v := .agg #[.int .i64 ul, .slice av i cv, .int .i64 (1 + uc), .int .i64 (1 + ud), .int .i64 uf, .int .i64 up, .int .i64 (10957 + q)]) (by simp [results, Tryz.results13, go_sem, r0, r1, r2, r3, r4, r5, r6]) rfl ⟨.slice av i cv, by rw [← HZ4.out], Hrz.out, Hkz.out, .inr (fun g hg => Nat.le_trans Hk2.out.size (Hat.out.nw g hg))⟩
end Go.Proofs.YthcmpcekmkioaaaGreat
namespace Go.Proofs.YthcmpcekmkioaaaGreat
open Go.RowKit
set_option maxRecDepth 100000 in
set_option maxHeartbeats 400000 in
theorem r11may_any (v : Int) (w : World) : Calls Tryz.prog 41 #[.int .i64 v] w fun e w' => e = .returned (.bool (moneyP v)) ∧ w = w' := by
 by_cases h1 : v < 0
 ·have hf : moneyP v = false := by simp [moneyP]; omega
  have h1' : ¬ 0 ≤ v := by omega
  have Hf := Lib.hid hf; clear hf
  go_enter Tryz.func41, Tryz.ntmps41
  go_wp2
  go_ret
  exact ⟨by rw [Hf.out]; rfl, rfl⟩
 ·by_cases h2 : 1000000000000000 < v
  ·have hf : moneyP v = false := by simp [moneyP]; omega
   have hd : decide (v ≤ 1000000000000000) = false := by rw [decide_eq_false_iff_not]; omega
   have h1' : 0 ≤ v := by omega
   have Hf := Lib.hid hf; clear hf
   go_enter Tryz.func41, Tryz.ntmps41
   go_wp2
   go_ret
   exact ⟨by rw [Hf.out]; rfl, rfl⟩
  ·have hf : moneyP v = true := by simp [moneyP]; omega
   have h1' : 0 ≤ v := by omega
   have Hf := Lib.hid hf; clear hf
   go_enter Tryz.func41, Tryz.ntmps41
   go_wp2
   go_ret
   exact ⟨by rw [Hf.out]; rfl, rfl⟩
theorem r11may_at {v : Int} {b : Bool} (h : moneyP v = b) (w : World) : Calls Tryz.prog 41 #[.int .i64 v] w fun e w' => e = .returned (.bool b) ∧ w = w' := by subst h; exact r11may_any v w
set_option maxRecDepth 100000 in
set_option maxHeartbeats 3200000 in
theorem r11Right_any (L : List Int) (cr du : Int) (ad : Option Addr) (cap n : Nat) (w : World) (hr : Reads w 1 (.slice ad n cap) n (L.flatMap i64c)) (hN : L.length = n) (hl : n ≤ 9223372036854775807) :
  Calls Tryz.prog 18 #[.agg #[.slice ad n cap, .int .i64 cr, .int .i64 du]] w fun e w' => e = .returned (.bool (Ps.rightB ⟨L, cr, du⟩)) ∧ Keeps (fun _ => False) w w' := by
 obtain ⟨z, hz⟩ : ∃ z, Ps.rightB ⟨L, cr, du⟩ = z := ⟨_, rfl⟩
 rw [hz]
 rcases m1 : moneyP cr with _ | _
 ·rcases m2 : moneyP du with _ | _
  all_goals
   by_cases n1 : n < 1
   ·have n1I : (n : Int) < 1 := by omega
    have hf : Ps.rightB ⟨L, cr, du⟩ = false := by unfold Ps.rightB; simp [m1]
    obtain rfl : z = false := hz.symm.trans hf
    obtain ⟨Hf, Hz, Hr, HN⟩ := hid4 hf hz hr hN; clear hN hr hz hf
    go_enter Tryz.func18, Tryz.ntmps18
    go_wp2_with (first | (go_at_call 41; (with_reducible refine (r11may_at m1 _).mono ?_); rintro e w1 ⟨rfl, rfl⟩) | (go_at_call 41; (with_reducible refine (r11may_at m2 _).mono ?_); rintro e w1 ⟨rfl, rfl⟩))
    go_ret
    exact ⟨rfl, Keeps.alloc w _⟩
   ·have n1I : ¬ (n : Int) < 1 := by omega
    by_cases n8 : 8 < n
    ·have n8I : (8 : Int) < (n : Int) := by omega
     have hf : Ps.rightB ⟨L, cr, du⟩ = false := by unfold Ps.rightB; simp [m1]
     obtain rfl : z = false := hz.symm.trans hf
     obtain ⟨Hf, Hz, Hr, HN⟩ := hid4 hf hz hr hN; clear hN hr hz hf
     go_enter Tryz.func18, Tryz.ntmps18
     go_wp2_with (first | (go_at_call 41; (with_reducible refine (r11may_at m1 _).mono ?_); rintro e w1 ⟨rfl, rfl⟩) | (go_at_call 41; (with_reducible refine (r11may_at m2 _).mono ?_); rintro e w1 ⟨rfl, rfl⟩))
     go_ret
     exact ⟨rfl, Keeps.alloc w _⟩
    ·have n8I : ¬ (8 : Int) < (n : Int) := by omega
     have hf : Ps.rightB ⟨L, cr, du⟩ = false := by unfold Ps.rightB; simp [m1]
     obtain rfl : z = false := hz.symm.trans hf
     obtain ⟨Hf, Hz, Hr, HN⟩ := hid4 hf hz hr hN; clear hN hr hz hf
     go_enter Tryz.func18, Tryz.ntmps18
     go_wp2_with (first | (go_at_call 41; (with_reducible refine (r11may_at m1 _).mono ?_); rintro e w1 ⟨rfl, rfl⟩) | (go_at_call 41; (with_reducible refine (r11may_at m2 _).mono ?_); rintro e w1 ⟨rfl, rfl⟩))
     go_ret
     exact ⟨rfl, Keeps.alloc w _⟩
 rcases m2 : moneyP du with _ | _
 ·by_cases n1 : n < 1
  ·have n1I : (n : Int) < 1 := by omega
   have hf : Ps.rightB ⟨L, cr, du⟩ = false := by unfold Ps.rightB; simp [m2]
   obtain rfl : z = false := hz.symm.trans hf
   obtain ⟨Hf, Hz, Hr, HN⟩ := hid4 hf hz hr hN; clear hN hr hz hf
   go_enter Tryz.func18, Tryz.ntmps18
   go_wp2_with (first | (go_at_call 41; (with_reducible refine (r11may_at m1 _).mono ?_); rintro e w1 ⟨rfl, rfl⟩) | (go_at_call 41; (with_reducible refine (r11may_at m2 _).mono ?_); rintro e w1 ⟨rfl, rfl⟩))
   go_ret
   exact ⟨rfl, Keeps.alloc w _⟩
  ·have n1I : ¬ (n : Int) < 1 := by omega
   by_cases n8 : 8 < n
   ·have n8I : (8 : Int) < (n : Int) := by omega
    have hf : Ps.rightB ⟨L, cr, du⟩ = false := by unfold Ps.rightB; simp [m2]
    obtain rfl : z = false := hz.symm.trans hf
    obtain ⟨Hf, Hz, Hr, HN⟩ := hid4 hf hz hr hN; clear hN hr hz hf
    go_enter Tryz.func18, Tryz.ntmps18
    go_wp2_with (first | (go_at_call 41; (with_reducible refine (r11may_at m1 _).mono ?_); rintro e w1 ⟨rfl, rfl⟩) | (go_at_call 41; (with_reducible refine (r11may_at m2 _).mono ?_); rintro e w1 ⟨rfl, rfl⟩))
    go_ret
    exact ⟨rfl, Keeps.alloc w _⟩
   ·have n8I : ¬ (8 : Int) < (n : Int) := by omega
    have hf : Ps.rightB ⟨L, cr, du⟩ = false := by unfold Ps.rightB; simp [m2]
    obtain rfl : z = false := hz.symm.trans hf
    obtain ⟨Hf, Hz, Hr, HN⟩ := hid4 hf hz hr hN; clear hN hr hz hf
    go_enter Tryz.func18, Tryz.ntmps18
    go_wp2_with (first | (go_at_call 41; (with_reducible refine (r11may_at m1 _).mono ?_); rintro e w1 ⟨rfl, rfl⟩) | (go_at_call 41; (with_reducible refine (r11may_at m2 _).mono ?_); rintro e w1 ⟨rfl, rfl⟩))
    go_ret
    exact ⟨rfl, Keeps.alloc w _⟩
 by_cases n1 : n < 1
 ·have n1I : (n : Int) < 1 := by omega
  have hq : ¬ 1 ≤ L.length := by omega
  have hf : Ps.rightB ⟨L, cr, du⟩ = false := by unfold Ps.rightB; simp [hq]
  obtain rfl : z = false := hz.symm.trans hf
  obtain ⟨Hf, Hz, Hr, HN⟩ := hid4 hf hz hr hN; clear hN hr hz hf
  go_enter Tryz.func18, Tryz.ntmps18
  go_wp2_with (first | (go_at_call 41; (with_reducible refine (r11may_at m1 _).mono ?_); rintro e w1 ⟨rfl, rfl⟩) | (go_at_call 41; (with_reducible refine (r11may_at m2 _).mono ?_); rintro e w1 ⟨rfl, rfl⟩))
  go_ret
  exact ⟨rfl, Keeps.alloc w _⟩
 have n1I : ¬ (n : Int) < 1 := by omega
 by_cases n8 : 8 < n
 ·have n8I : (8 : Int) < (n : Int) := by omega
  have hq : ¬ L.length ≤ 8 := by omega
  have hf : Ps.rightB ⟨L, cr, du⟩ = false := by unfold Ps.rightB; simp [hq]
  obtain rfl : z = false := hz.symm.trans hf
  obtain ⟨Hf, Hz, Hr, HN⟩ := hid4 hf hz hr hN; clear hN hr hz hf
  go_enter Tryz.func18, Tryz.ntmps18
  go_wp2_with (first | (go_at_call 41; (with_reducible refine (r11may_at m1 _).mono ?_); rintro e w1 ⟨rfl, rfl⟩) | (go_at_call 41; (with_reducible refine (r11may_at m2 _).mono ?_); rintro e w1 ⟨rfl, rfl⟩))
  go_ret
  exact ⟨rfl, Keeps.alloc w _⟩
 have n8I : ¬ (8 : Int) < (n : Int) := by omega
 have n1' : 1 ≤ n := by omega
 have n8' : n ≤ 8 := by omega
 have hbx : ∀ W, Keeps (fun _ => False) (w.alloc (.cells #[.slice ad n cap, .int .i64 cr, .int .i64 du] 24)) W → W.heap[w.heap.size]? = some (.cells #[.slice ad n cap, .int .i64 cr, .int .i64 du] 24 (0, 0)) := fun W hW => box_old (heap_alloc_new w _) hW (by simp)
 obtain ⟨Hr, Hz, Hbx⟩ := hid3 hr hz hbx; clear hbx hz hr
 go_enter Tryz.func18, Tryz.ntmps18
 go_wp2_with (first | (go_at_call 41; (with_reducible refine (r11may_at m1 _).mono ?_); rintro e w1 ⟨rfl, rfl⟩) | (go_at_call 41; (with_reducible refine (r11may_at m2 _).mono ?_); rintro e w1 ⟨rfl, rfl⟩))
 go_loopw [3, 4] (fun x y wx => ∃ (i : Nat) (s : Int), x = .int .i64 s ∧ y = .int .i64 (i : Nat) ∧ i ≤ n ∧ sumI (L.take i) = s ∧ (L.take i).all moneyP = true ∧ 0 ≤ s ∧ s ≤ i * 1000000000000000 ∧ Keeps (fun _ => False) (w.alloc (.cells #[.slice ad n cap, .int .i64 cr, .int .i64 du] 24)) wx) (fun _ y _ => n - (intOf y).toNat)
 case atStart => exact ⟨0, 0, rfl, rfl, Nat.zero_le _, rfl, rfl, by omega, by omega, Keeps.refl _ _⟩
 case round =>
  obtain ⟨i, s, rfl, rfl, hin, hs, hall, hs0, hs1, hk⟩ := hrel
  obtain ⟨wq, hwq⟩ : ∃ x, x = wr := ⟨_, rfl⟩
  subst hwq
  have hb := Hbx.out _ hk
  have c0 := cell_of_cells hb 0
  have c1 := cell_of_cells hb 1
  have c2 := cell_of_cells hb 2
  have bl := lt_of_block hb
  have hs2 : s ≤ 8000000000000000 := by omega
  by_cases hlt : i < n
  ·have hltI : (i : Int) < (n : Int) := by omega
   obtain ⟨x, hx⟩ := get_some (L := L) (k := i) (by omega)
   obtain ⟨g, o, he, hc⟩ := (Hr.out.keeps ((Keeps.alloc w _).nt hk) (by simp)).int (k := .i64) hx
   subst he
   have hgl := cell_lt hc
   have hsn := sumI_snoc hx
   rw [hs] at hsn
   rcases m3 : moneyP x with _ | _
   ·have hf : Ps.rightB ⟨L, cr, du⟩ = false := by unfold Ps.rightB; rw [show scanB L = false from scan_bad1 hx m3]; rfl
    obtain rfl : z = false := Hz.out.symm.trans hf
    obtain ⟨Hall, Hk, Hs, Hsn, Hx, Hf, Hb⟩ := hid7 hall hk hs hsn hx hf hb; clear hb hf hx hsn hs hk hall
    go_wp2_with (go_at_call 41; (with_reducible refine (r11may_at m3 _).mono ?_); rintro e w1 ⟨rfl, rfl⟩)
    go_ret
    exact ⟨rfl, (Keeps.alloc w _).nt Hk.out⟩
   ·obtain ⟨x0, x1⟩ := (moneyP_iff x).1 m3
    have hall2 : (L.take (i + 1)).all moneyP = true := by rw [take_snoc' hx, List.all_append, hall]; simp [m3]
    obtain ⟨Hall, Hall2, Hk, Hs, Hsn, Hx, Hb⟩ := hid7 hall hall2 hk hs hsn hx hb; clear hb hx hsn hs hk hall2 hall
    go_wp2_with (go_at_call 41; (with_reducible refine (r11may_at m3 _).mono ?_); rintro e w1 ⟨rfl, rfl⟩)
    go_roundw
    case rel => exact ⟨i + 1, s + x, rfl, by go_num, by omega, Hsn.out, Hall2.out, by omega, by omega, Hk.out⟩
    case measure => simp [intOf]; omega
  ·obtain rfl : n = i := by omega
   rw [List.take_of_length_le (by omega)] at hs hall
   have Hb := Lib.hid hb; clear hb
   rcases m5 : moneyP s with _ | _
   ·skip
    have hf : Ps.rightB ⟨L, cr, du⟩ = false := by unfold Ps.rightB scanB; simp only [hall, hs, hN, m1, m2, m5, Bool.true_and, Bool.and_true, Bool.false_and, Bool.and_false, decide_true, decide_false, Bool.or_true, Bool.true_or, Bool.or_false, Bool.false_or, decide_eq_true n1', decide_eq_true n8']
    obtain rfl : z = false := Hz.out.symm.trans hf
    obtain ⟨Hf, Hs, Hall, Hk⟩ := hid4 hf hs hall hk; clear hk hall hs hf
    go_wp2_with (go_at_call 41; (with_reducible refine (r11may_at m5 _).mono ?_); rintro e w1 ⟨rfl, rfl⟩)
    go_ret
    exact ⟨rfl, (Keeps.alloc w _).nt Hk.out⟩
   ·by_cases h6 : cr = 0
    ·have h6I : (cr == 0) = true := by rw [beq_iff_eq]; exact h6
     have h6d : decide (cr = 0) = true := decide_eq_true h6
     clear h6
     have hf : Ps.rightB ⟨L, cr, du⟩ = true := by unfold Ps.rightB scanB; simp only [hall, hs, hN, m1, m2, m5, h6d, Bool.true_and, Bool.and_true, Bool.false_and, Bool.and_false, decide_true, decide_false, Bool.or_true, Bool.true_or, Bool.or_false, Bool.false_or, decide_eq_true n1', decide_eq_true n8']
     obtain rfl : z = true := Hz.out.symm.trans hf
     obtain ⟨Hf, Hs, Hall, Hk⟩ := hid4 hf hs hall hk; clear hk hall hs hf
     go_wp2_with (go_at_call 41; (with_reducible refine (r11may_at m5 _).mono ?_); rintro e w1 ⟨rfl, rfl⟩)
     go_ret
     exact ⟨rfl, (Keeps.alloc w _).nt Hk.out⟩
    ·have h6I : (cr == 0) = false := beq_eq_false_iff_ne.2 h6
     have h6d : decide (cr = 0) = false := decide_eq_false h6
     by_cases h7 : s = 0
     ·have h7I : (s == 0) = true := by rw [beq_iff_eq]; exact h7
      have h7d : decide (s = 0) = true := decide_eq_true h7
      clear h6 h7
      have hf : Ps.rightB ⟨L, cr, du⟩ = true := by unfold Ps.rightB scanB; simp only [hall, hs, hN, m1, m2, m5, h6d, h7d, Bool.true_and, Bool.and_true, Bool.false_and, Bool.and_false, decide_true, decide_false, Bool.or_true, Bool.true_or, Bool.or_false, Bool.false_or, decide_eq_true n1', decide_eq_true n8']
      obtain rfl : z = true := Hz.out.symm.trans hf
      obtain ⟨Hf, Hs, Hall, Hk⟩ := hid4 hf hs hall hk; clear hk hall hs hf
      go_wp2_with (go_at_call 41; (with_reducible refine (r11may_at m5 _).mono ?_); rintro e w1 ⟨rfl, rfl⟩)
      go_ret
      exact ⟨rfl, (Keeps.alloc w _).nt Hk.out⟩
     ·have h7I : (s == 0) = false := beq_eq_false_iff_ne.2 h7
      have h7d : decide (s = 0) = false := decide_eq_false h7
      clear h6 h7
      have hf : Ps.rightB ⟨L, cr, du⟩ = false := by unfold Ps.rightB scanB; simp only [hall, hs, hN, m1, m2, m5, h6d, h7d, Bool.true_and, Bool.and_true, Bool.false_and, Bool.and_false, decide_true, decide_false, Bool.or_true, Bool.true_or, Bool.or_false, Bool.false_or, decide_eq_true n1', decide_eq_true n8']
      obtain rfl : z = false := Hz.out.symm.trans hf
      obtain ⟨Hf, Hs, Hall, Hk⟩ := hid4 hf hs hall hk; clear hk hall hs hf
      go_wp2_with (go_at_call 41; (with_reducible refine (r11may_at m5 _).mono ?_); rintro e w1 ⟨rfl, rfl⟩)
      go_ret
      exact ⟨rfl, (Keeps.alloc w _).nt Hk.out⟩
set_option maxRecDepth 100000 in
set_option maxHeartbeats 1600000 in
theorem r11Total_any (L : List Int) (cr du : Int) (ad : Option Addr) (cap n : Nat) (w : World) (hr : Reads w 1 (.slice ad n cap) n (L.flatMap i64c)) (hN : L.length = n) (hl : n ≤ 9223372036854775807) (hright : Ps.rightB ⟨L, cr, du⟩ = true) :
  Calls Tryz.prog 135 #[.agg #[.slice ad n cap, .int .i64 cr, .int .i64 du]] w fun e w' => e = .returned (.int .i64 (sumI L)) ∧ Keeps (fun _ => False) w w' := by
 obtain ⟨hm, n1, n8⟩ : (∀ x ∈ L, 0 ≤ x ∧ x ≤ 1000000000000000) ∧ 1 ≤ n ∧ n ≤ 8 := by
  have h := right_nums hright
  exact ⟨h.1, by have h2 := h.2.2.2.1; simp only at h2; omega, by have h2 := h.2.2.2.2; simp only at h2; omega⟩
 have hri := fun W (hW : Keeps (fun _ => False) w W) => r11Right_any L cr du ad cap n W (hr.keeps hW (by simp)) hN hl
 rw [hright] at hri
 obtain ⟨R, hR⟩ : ∃ R, sumI L = R := ⟨_, rfl⟩
 rw [hR]
 obtain ⟨Hr, Hm, Hri, HR, Hright⟩ := hid5 hr hm hri hR hright; clear hright hR hri hm hr
 go_enter Tryz.func135, Tryz.ntmps135
 go_wp2_with (go_at_call 18; (with_reducible refine (Hri.out _ (Keeps.alloc _ _)).mono ?_); rintro e w1 ⟨rfl, hk1⟩; have hb1 := box_new hk1 (by simp); have c0 := cell_of_cells hb1 0; have bl := lt_of_block hb1; have Hk1 := Lib.hid hk1; have Hb1 := Lib.hid hb1; clear hk1 hb1)
 clear c0 bl
 go_loopw [3, 4] (fun x y wx => ∃ (i : Nat) (s : Int), x = .int .i64 s ∧ y = .int .i64 (i : Nat) ∧ i ≤ n ∧ sumI (L.take i) = s ∧ 0 ≤ s ∧ s ≤ i * 1000000000000000 ∧ Keeps (fun _ => False) w1 wx) (fun _ y _ => n - (intOf y).toNat)
 case atStart => exact ⟨0, 0, rfl, rfl, Nat.zero_le _, rfl, by omega, by omega, Keeps.refl _ _⟩
 case round =>
  obtain ⟨i, s, rfl, rfl, hin, hs, hs0, hs1, hk⟩ := hrel
  obtain ⟨wq, hwq⟩ : ∃ x, x = wr := ⟨_, rfl⟩
  subst hwq
  have hb := box_old Hb1.out hk (by simp)
  have c0 := cell_of_cells hb 0
  have bl := lt_of_block hb
  by_cases hlt : i < n
  ·have hltI : (i : Int) < (n : Int) := by omega
   obtain ⟨x, hx⟩ := get_some (L := L) (k := i) (by omega)
   obtain ⟨g, o, he, hc⟩ := (Hr.out.keeps (((Keeps.alloc w _).nt Hk1.out).nt hk) (by simp)).int (k := .i64) hx
   subst he
   have hgl := cell_lt hc
   have hsn := sumI_snoc hx
   rw [hs] at hsn
   obtain ⟨x0, x1⟩ := Hm.out x (List.mem_of_getElem? hx)
   obtain ⟨Hk, Hs, Hsn, Hx, Hb⟩ := hid5 hk hs hsn hx hb; clear hb hx hsn hs hk
   go_wp2
   go_roundw
   case rel => exact ⟨i + 1, s + x, rfl, by go_num, by omega, Hsn.out, by omega, by omega, Hk.out⟩
   case measure => simp [intOf]; omega
  ·obtain rfl : n = i := by omega
   rw [List.take_of_length_le (by omega), HR.out] at hs
   subst hs
   obtain ⟨Hk, Hb⟩ := hid2 hk hb; clear hb hk
   go_wp2
   go_ret
   exact ⟨rfl, ((Keeps.alloc w _).nt Hk1.out).nt Hk.out⟩
end Go.Proofs.YthcmpcekmkioaaaGreat
namespace Go.Proofs.YthcmpcekmkioaaaGreat
open Go.RowKit
set_option maxRecDepth 100000 in
set_option maxHeartbeats 1600000 in
theorem rcycLast_any (fr cd : Int) (w : World) : Calls Tryz.prog 40 #[.int .i64 fr, .int .i64 cd] w fun e w' => e = .returned (.tuple #[.int .i64 (lastV fr cd), .int .i64 (lastE fr cd)]) ∧ Keeps (fun _ => False) w w' := by
 obtain ⟨F, hF⟩ : ∃ F, lastF fr cd = F := ⟨_, rfl⟩
 obtain ⟨E, hE⟩ : ∃ E, lastE fr cd = E := ⟨_, rfl⟩
 obtain ⟨V, hV⟩ : ∃ V, lastV fr cd = V := ⟨_, rfl⟩
 have hE' := hE
 have hV' := hV
 unfold lastE at hE'
 unfold lastV at hV'
 rw [hF] at hE' hV'
 rw [hE] at hV'
 rw [hE, hV]
 by_cases hc : cd < 1 ∨ 28 < cd
 ·rw [if_pos hc] at hE'
  subst hE'
  rw [if_neg (by decide)] at hV'
  subst hV'
  obtain ⟨HF, HE, HV⟩ := hid3 hF hE hV; clear hV hE hF
  go_enter Tryz.func40, Tryz.ntmps40
  rcases hc with hc | hc
  ·go_wp2
   exact bodyPost_ret (v := .tuple #[.int .i64 0, .int .i64 1]) (by simp [results, Tryz.results40, go_sem]) rfl ⟨rfl, by (repeat (first | exact Keeps.refl _ _ | exact Keeps.alloc _ _ | exact Keeps.drew _ | exact Keeps.drewN _ _ | refine Keeps.trans_drew ?_ | refine Keeps.trans_drewN ?_ | refine Keeps.trans_alloc ?_))⟩
  ·have hc2 : ¬ cd < 1 := by omega
   go_wp2
   exact bodyPost_ret (v := .tuple #[.int .i64 0, .int .i64 1]) (by simp [results, Tryz.results40, go_sem]) rfl ⟨rfl, by (repeat (first | exact Keeps.refl _ _ | exact Keeps.alloc _ _ | exact Keeps.drew _ | exact Keeps.drewN _ _ | refine Keeps.trans_drew ?_ | refine Keeps.trans_drewN ?_ | refine Keeps.trans_alloc ?_))⟩
 ·rw [if_neg hc] at hE'
  have c1 : ¬ cd < 1 := by omega
  have c2 : ¬ 28 < cd := by omega
  by_cases hin : -135140 ≤ fr ∧ fr ≤ 2932896
  ·rw [if_neg (by omega)] at hE'
   obtain ⟨hf0, hf1⟩ := hin
   have hge := lastF_ge hf0 hf1 (by omega : 1 ≤ cd) (by omega : cd ≤ 28)
   have hno := fun n => lastF_no (fr := fr) (cd := cd) (n := n) hf0 hf1 (by omega) (by omega)
   have hyes := lastF_yes (fr := fr) (cd := cd) hf0 hf1 (by omega) (by omega)
   have hend := lastF_end (fr := fr) (cd := cd) hf0 hf1 (by omega) (by omega)
   rw [hF] at hge hno hyes hend
   clear hc
   obtain ⟨HF, HE, HV, HE', HV', Hno, Hyes, Hend⟩ := hid8 hF hE hV hE' hV' hno hyes hend; clear hend hyes hno hV' hE' hV hE hF
   go_enter Tryz.func40, Tryz.ntmps40
   go_wp2
   go_loopw [6] (fun x wx => ∃ n : Int, x = .int .i64 n ∧ fr ≤ n ∧ n ≤ F ∧ n ≤ 2932897 ∧ Keeps (fun _ => False) w wx) (fun x _ => (2932900 - intOf x).toNat)
   case atStart => exact ⟨fr, rfl, by omega, by omega, by omega, Keeps.refl _ _⟩
   case round =>
    obtain ⟨n, rfl, hn0, hnF, hnL, hk⟩ := hrel
    by_cases hn9 : n ≤ 2932896
    ·skip
     obtain ⟨wq, hwq⟩ : ∃ x, x = wr := ⟨_, rfl⟩
     subst hwq
     have hdt := rdayDate_any (n + 1) wq (by omega)
     obtain ⟨D, hD⟩ : ∃ D, (if n + 1 ≤ 2932896 then dD (n + 1) else 1) = D := ⟨_, rfl⟩
     have hstop : D = cd ↔ n = F := by
      rw [← hD]
      by_cases h1 : n + 1 ≤ 2932896
      ·rw [if_pos h1]
       by_cases h2 : n = F
       ·subst h2
        exact ⟨fun _ => rfl, fun _ => Hyes.out h1⟩
       ·exact ⟨fun e => absurd e (Hno.out n hn0 (by omega) h1), fun e => absurd e h2⟩
      ·rw [if_neg h1]
       have := Hend.out (by omega)
       constructor
       ·intro e; have := this.2 e.symm; omega
       ·intro e; exact (this.1 (by omega)).symm
     by_cases h1 : n + 1 ≤ 2932896
     ·have hd : dayIn (n + 1) = true := by simp [dayIn]; omega
      rw [if_pos hd, if_pos hd] at hdt
      rw [if_pos h1] at hD
      rw [hD] at hdt
      have h1' : ¬ 2932896 < n + 1 := by omega
      by_cases h2 : n = F
      ·have hDc := hstop.2 h2
       subst h2
       subst hDc
       have h := HE'.out
       rw [if_neg (by omega)] at h
       subst h
       have h := HV'.out
       rw [if_pos rfl] at h
       subst h
       clear hstop
       obtain ⟨Hdt, HD, Hd, Hk⟩ := hid4 hdt hD hd hk; clear hk hd hD hdt
       go_wp2_with fail
       refine Hdt.out.mono ?_
       rintro e w1 ⟨rfl, hk1⟩
       have Hk1 := Lib.hid (Hk.out.nt hk1); clear hk1
       go_wp2
       exact bodyPost_ret (v := .tuple #[.int .i64 n, .int .i64 0]) (by simp [results, Tryz.results40, go_sem]) rfl ⟨rfl, Hk1.out.nt (by (repeat (first | exact Keeps.refl _ _ | exact Keeps.alloc _ _ | exact Keeps.drew _ | exact Keeps.drewN _ _ | refine Keeps.trans_drew ?_ | refine Keeps.trans_drewN ?_ | refine Keeps.trans_alloc ?_)))⟩
      ·have hDc : (D == cd) = false := beq_eq_false_iff_ne.2 (fun e => h2 (hstop.1 e))
       clear hstop
       obtain ⟨Hdt, HD, Hd, Hk⟩ := hid4 hdt hD hd hk; clear hk hd hD hdt
       go_wp2_with fail
       refine Hdt.out.mono ?_
       rintro e w1 ⟨rfl, hk1⟩
       have Hk1 := Lib.hid (Hk.out.nt hk1); clear hk1
       go_wp2
       go_roundw
       case rel => exact ⟨n + 1, rfl, by omega, by omega, by omega, Hk1.out.nt (by (repeat (first | exact Keeps.refl _ _ | exact Keeps.alloc _ _ | exact Keeps.drew _ | exact Keeps.drewN _ _ | refine Keeps.trans_drew ?_ | refine Keeps.trans_drewN ?_ | refine Keeps.trans_alloc ?_)))⟩
       case measure => simp [intOf]; omega
     ·have hd : dayIn (n + 1) = false := by simp [dayIn]; omega
      have hdd : ¬ dayIn (n + 1) = true := by rw [hd]; decide
      rw [if_neg hdd, if_neg hdd] at hdt
      rw [if_neg h1] at hD
      subst hD
      have hD : True := trivial
      have h1' : 2932896 < n + 1 := by omega
      clear hdd
      by_cases h2 : n = F
      ·have hDc := hstop.2 h2
       subst h2
       subst hDc
       have h := HE'.out
       rw [if_neg (by omega)] at h
       subst h
       have h := HV'.out
       rw [if_pos rfl] at h
       subst h
       clear hstop
       obtain ⟨Hdt, HD, Hd, Hk⟩ := hid4 hdt hD hd hk; clear hk hd hD hdt
       go_wp2_with fail
       refine Hdt.out.mono ?_
       rintro e w1 ⟨rfl, hk1⟩
       have Hk1 := Lib.hid (Hk.out.nt hk1); clear hk1
       go_wp2
       exact bodyPost_ret (v := .tuple #[.int .i64 n, .int .i64 0]) (by simp [results, Tryz.results40, go_sem]) rfl ⟨rfl, Hk1.out.nt (by (repeat (first | exact Keeps.refl _ _ | exact Keeps.alloc _ _ | exact Keeps.drew _ | exact Keeps.drewN _ _ | refine Keeps.trans_drew ?_ | refine Keeps.trans_drewN ?_ | refine Keeps.trans_alloc ?_)))⟩
      ·have hDc : ((1 : Int) == cd) = false := beq_eq_false_iff_ne.2 (fun e => h2 (hstop.1 e))
       clear hstop
       obtain ⟨Hdt, HD, Hd, Hk⟩ := hid4 hdt hD hd hk; clear hk hd hD hdt
       go_wp2_with fail
       refine Hdt.out.mono ?_
       rintro e w1 ⟨rfl, hk1⟩
       have Hk1 := Lib.hid (Hk.out.nt hk1); clear hk1
       go_wp2
       go_roundw
       case rel => exact ⟨n + 1, rfl, by omega, by omega, by omega, Hk1.out.nt (by (repeat (first | exact Keeps.refl _ _ | exact Keeps.alloc _ _ | exact Keeps.drew _ | exact Keeps.drewN _ _ | refine Keeps.trans_drew ?_ | refine Keeps.trans_drewN ?_ | refine Keeps.trans_alloc ?_)))⟩
       case measure => simp [intOf]; omega
    ·have h := HE'.out
     rw [if_pos (by omega)] at h
     subst h
     have h := HV'.out
     rw [if_neg (by decide)] at h
     subst h
     have Hk := Lib.hid hk; clear hk
     go_wp2
     exact bodyPost_ret (v := .tuple #[.int .i64 0, .int .i64 10]) (by simp [results, Tryz.results40, go_sem]) rfl ⟨rfl, Hk.out⟩
  ·rw [if_pos hin] at hE'
   subst hE'
   rw [if_neg (by decide)] at hV'
   subst hV'
   clear hc
   obtain ⟨HF, HE, HV⟩ := hid3 hF hE hV; clear hV hE hF
   by_cases hf0 : fr < -135140
   ·clear hin
    go_enter Tryz.func40, Tryz.ntmps40
    go_wp2
    exact bodyPost_ret (v := .tuple #[.int .i64 0, .int .i64 10]) (by simp [results, Tryz.results40, go_sem]) rfl ⟨rfl, by (repeat (first | exact Keeps.refl _ _ | exact Keeps.alloc _ _ | exact Keeps.drew _ | exact Keeps.drewN _ _ | refine Keeps.trans_drew ?_ | refine Keeps.trans_drewN ?_ | refine Keeps.trans_alloc ?_))⟩
   ·have hf1 : 2932896 < fr := by omega
    clear hin
    go_enter Tryz.func40, Tryz.ntmps40
    go_wp2
    exact bodyPost_ret (v := .tuple #[.int .i64 0, .int .i64 10]) (by simp [results, Tryz.results40, go_sem]) rfl ⟨rfl, by (repeat (first | exact Keeps.refl _ _ | exact Keeps.alloc _ _ | exact Keeps.drew _ | exact Keeps.drewN _ _ | refine Keeps.trans_drew ?_ | refine Keeps.trans_drewN ?_ | refine Keeps.trans_alloc ?_))⟩
end Go.Proofs.YthcmpcekmkioaaaGreat
namespace Go.Proofs.YthcmpcekmkioaaaGreat
open Go.RowKit
structure OfAt (R : List (Int × Int) × Bool) (st cd day : Int) (k : Nat) (fr : Int) : Prop where
 k3 : k ≤ 300
 two : R.2 = (findW cd day (300 - k) fr).2
 len : R.1.length = k + (findW cd day (300 - k) fr).1.length
 st0 : k = 0 → fr = st
 st1 : 0 < k → lastE st cd = 0 ∧ st ≤ day ∧ fr ≤ day
theorem OfAt.next {R : List (Int × Int) × Bool} {st cd day : Int} {k : Nat} {fr : Int} (h : OfAt R st cd day k fr) (hk : k < 300) (he : lastE fr cd = 0) (hF : lastF fr cd < day) (hst : st ≤ day) : OfAt R st cd day (k + 1) (lastF fr cd + 1) := by
 obtain ⟨k3, two, len, st0, st1⟩ := h
 have he0 : lastE st cd = 0 := by
  rcases Nat.eq_zero_or_pos k with h | h
  ·rw [← st0 h]; exact he
  ·exact (st1 h).1
 obtain ⟨f, hf⟩ : ∃ f, 300 - (k + 1) = f := ⟨_, rfl⟩
 have hkk : 300 - k = f + 1 := by omega
 rw [hkk] at two len
 refine ⟨by omega, ?_, ?_, by omega, fun _ => ⟨he0, hst, by omega⟩⟩
 ·rw [hf]
  by_cases hf0 : f = 0
  ·subst hf0
   rw [findW_stop he (fun h => h.2 rfl)] at two
   rw [two, show decide (day ≤ lastF fr cd) = false by simp; omega]
   simp [findW]
  ·rw [findW_go he ⟨hF, hf0⟩] at two; exact two
 ·rw [hf]
  by_cases hf0 : f = 0
  ·subst hf0
   rw [findW_stop he (fun h => h.2 rfl)] at len
   rw [len]; rfl
  ·rw [findW_go he ⟨hF, hf0⟩, List.length_cons] at len; omega
theorem ofE_0 {R : List (Int × Int) × Bool} {st cd day : Int} (hR : findW cd day 300 st = R) (h : lastE st cd = 0) (h2 : R.2 = true) : ofE st cd day = 0 := by unfold ofE; rw [if_pos h, hR, if_pos h2]
theorem ofE_10 {R : List (Int × Int) × Bool} {st cd day : Int} (hR : findW cd day 300 st = R) (h : lastE st cd = 0) (h2 : R.2 = false) : ofE st cd day = 10 := by unfold ofE; rw [if_pos h, hR, if_neg (by rw [h2]; decide)]
theorem ofE_n {st cd day : Int} (h : ¬ lastE st cd = 0) : ofE st cd day = lastE st cd := by unfold ofE; rw [if_neg h]
theorem ofV_R {R : List (Int × Int) × Bool} {st cd day : Int} (hR : findW cd day 300 st = R) : ofV st cd day = if ofE st cd day = 0 then (R.1.length : Int) else 0 := by unfold ofV; rw [hR]
set_option maxRecDepth 100000 in
set_option maxHeartbeats 1600000 in
theorem rcycOf_any (st cd day : Int) (w : World) : Calls Tryz.prog 17 #[.int .i64 st, .int .i64 cd, .int .i64 day] w fun e w' => e = .returned (.tuple #[.int .i64 (ofV st cd day), .int .i64 (ofE st cd day)]) ∧ Keeps (fun _ => False) w w' := by
 obtain ⟨E, hE⟩ : ∃ z, ofE st cd day = z := ⟨_, rfl⟩
 obtain ⟨V, hV⟩ : ∃ z, ofV st cd day = z := ⟨_, rfl⟩
 obtain ⟨R, hR⟩ : ∃ R, findW cd day 300 st = R := ⟨_, rfl⟩
 have hV' := ofV_R hR
 rw [hE, hV] at hV'
 rw [hE, hV]
 have h10 := ofE_10 hR
 have h00 := ofE_0 hR
 rw [hE] at h10 h00
 have hnn := ofE_n (st := st) (cd := cd) (day := day)
 rw [hE] at hnn
 have hof0 : OfAt R st cd day 0 st := ⟨by omega, by rw [hR], by rw [hR]; simp, fun _ => rfl, fun h => by omega⟩
 obtain ⟨HE, HV, HV', HR, H10, H00, Hnn, Hof0⟩ := hid8 hE hV hV' hR h10 h00 hnn hof0; clear hof0 hnn h00 h10 hR hV' hV hE
 go_enter Tryz.func17, Tryz.ntmps17
 go_wp2
 go_loopw [8, 9] (fun x y wx => ∃ (k : Nat) (fr : Int), x = .int .i64 fr ∧ y = .int .i64 ((k : Int) + 1) ∧ OfAt R st cd day k fr ∧ Keeps (fun _ => False) w wx) (fun _ y _ => 400 - (intOf y).toNat)
 case atStart => exact ⟨0, st, rfl, rfl, Hof0.out, Keeps.refl _ _⟩
 case round =>
  obtain ⟨k, fr, rfl, rfl, hof, hk⟩ := hrel
  obtain ⟨wq, hwq⟩ : ∃ x, x = wr := ⟨_, rfl⟩
  subst hwq
  have hk3 := hof.k3
  by_cases hlt : k < 300
  ·have hltI : (k : Int) + 1 ≤ 300 := by omega
   have hla := rcycLast_any fr cd wq
   obtain ⟨F, hF⟩ : ∃ F, lastF fr cd = F := ⟨_, rfl⟩
   by_cases he : lastE fr cd = 0
   ·have hv : lastV fr cd = F := by unfold lastV; rw [if_pos he, hF]
    rw [hv, he] at hla
    obtain ⟨o1, o2, o3, o4, o5, o6⟩ := lastE_ok he
    rw [hF] at o5 o6
    have he0 : lastE st cd = 0 := by
     rcases Nat.eq_zero_or_pos k with h | h
     ·rw [← hof.st0 h]; exact he
     ·exact (hof.st1 h).1
    have hkk : 300 - k = (300 - (k + 1)) + 1 := by omega
    by_cases hds : day < st
    ·have hk0 : k = 0 := by
      rcases Nat.eq_zero_or_pos k with h | h
      ·exact h
      ·have := (hof.st1 h).2.1; omega
     have hfs := hof.st0 hk0
     have h2 := hof.two
     rw [hkk, findW_stop he (by rw [hF]; omega)] at h2
     have hd : decide (fr ≤ day) = false := by rw [decide_eq_false_iff_not]; omega
     have h2' : R.2 = false := by rw [h2]; simp only [hd, Bool.false_and]
     clear h2
     have h2 := h2'
     clear h2'
     have hE10 := H10.out he0 h2
     subst hE10
     have h := HV'.out
     rw [if_neg (by decide)] at h
     subst h
     clear o1 o2 o3 o4
     subst hk0
     subst hfs
     obtain ⟨Hof, Hk, Hla, HF, He, He0, Hv, H2, Hd⟩ := hid9 hof hk hla hF he he0 hv h2 hd; clear hd h2 hv he0 he hF hla hk hof
     go_wp2_with fail
     with_reducible refine Hla.out.mono ?_
     rintro e w1 ⟨rfl, hk1⟩
     have Hk2 := Lib.hid (Hk.out.nt hk1); clear hk1
     go_wp2
     exact bodyPost_ret (v := .tuple #[.int .i64 0, .int .i64 10]) (by simp [results, Tryz.results17, go_sem]) rfl ⟨rfl, Hk2.out⟩
    ·have hst : st ≤ day := by omega
     by_cases hdF : day ≤ F
     ·have h2 := hof.two
      have h3 := hof.len
      rw [hkk, findW_stop he (by rw [hF]; omega), hF] at h2 h3
      have hfd : fr ≤ day := by
       rcases Nat.eq_zero_or_pos k with h | h
       ·rw [hof.st0 h]; omega
       ·exact (hof.st1 h).2.2
      have hd : (decide (fr ≤ day) && decide (day ≤ F)) = true := by simp [hfd, hdF]
      have h2' : R.2 = true := by rw [h2]; simp only [hd]
      clear h2
      have h2 := h2'
      clear h2'
      have hE0 := H00.out he0 h2
      subst hE0
      have h := HV'.out
      rw [if_pos rfl, h3] at h
      simp only [List.length_cons, List.length_nil, Nat.zero_add] at h
      subst h
      obtain ⟨Hof, Hk, Hla, HF, He, He0, Hv, H2, H3⟩ := hid9 hof hk hla hF he he0 hv h2 h3; clear h3 h2 hv he0 he hF hla hk hof; have Hd := Lib.hid hd; clear hd
      rcases Nat.eq_zero_or_pos k with hk0 | hk0
      ·subst hk0
       go_wp2_with fail
       with_reducible refine Hla.out.mono ?_
       rintro e w1 ⟨rfl, hk1⟩
       have Hk2 := Lib.hid (Hk.out.nt hk1); clear hk1
       go_wp2
       exact bodyPost_ret (v := .tuple #[.int .i64 (((0 : Nat) : Int) + 1), .int .i64 0]) (by simp [results, Tryz.results17, go_sem]) rfl ⟨rfl, Hk2.out⟩
      ·have hk1' : ((k : Int) + 1 == 1) = false := by rw [beq_eq_false_iff_ne]; omega
       go_wp2_with fail
       with_reducible refine Hla.out.mono ?_
       rintro e w1 ⟨rfl, hk1⟩
       have Hk2 := Lib.hid (Hk.out.nt hk1); clear hk1
       go_wp2
       exact bodyPost_ret (v := .tuple #[.int .i64 ((k : Int) + 1), .int .i64 0]) (by simp [results, Tryz.results17, go_sem]) rfl ⟨rfl, Hk2.out⟩
     ·have hnx := hof.next hlt he (by rw [hF]; omega) hst
      rw [hF] at hnx
      have hdF' : F < day := by omega
      obtain ⟨Hof, Hk, Hla, HF, He, He0, Hv, Hnx⟩ := hid8 hof hk hla hF he he0 hv hnx; clear hnx hv he0 he hF hla hk hof
      rcases Nat.eq_zero_or_pos k with hk0 | hk0
      ·subst hk0
       go_wp2_with fail
       with_reducible refine Hla.out.mono ?_
       rintro e w1 ⟨rfl, hk1⟩
       have Hk2 := Lib.hid (Hk.out.nt hk1); clear hk1
       go_wp2
       go_roundw
       case rel => exact ⟨0 + 1, F + 1, rfl, by go_num, Hnx.out, Hk2.out⟩
       case measure => simp [intOf]
      ·have hk1' : ((k : Int) + 1 == 1) = false := by rw [beq_eq_false_iff_ne]; omega
       go_wp2_with fail
       with_reducible refine Hla.out.mono ?_
       rintro e w1 ⟨rfl, hk1⟩
       have Hk2 := Lib.hid (Hk.out.nt hk1); clear hk1
       go_wp2
       go_roundw
       case rel => exact ⟨k + 1, F + 1, rfl, by go_num, Hnx.out, Hk2.out⟩
       case measure => simp [intOf]; omega
   ·have hv : lastV fr cd = 0 := by unfold lastV; rw [if_neg he]
    obtain ⟨z, hz⟩ : ∃ z, lastE fr cd = z := ⟨_, rfl⟩
    rw [hv, hz] at hla
    rcases Nat.eq_zero_or_pos k with hk0 | hk0
    ·have hfs := hof.st0 hk0
     have hne : ¬ lastE st cd = 0 := by rw [← hfs]; exact he
     obtain rfl : E = z := (Hnn.out hne).trans (by rw [← hfs]; exact hz)
     rw [hz] at he
     have h := HV'.out
     rw [if_neg he] at h
     subst h
     subst hk0
     have hzI : (E != 0) = true := by simp [he]
     obtain ⟨Hof, Hk, Hla, HF, Hv, Hz, Hne, Hfs⟩ := hid8 hof hk hla hF hv hz hne hfs; clear hfs hne hz hv hF hla hk hof
     go_wp2_with fail
     with_reducible refine Hla.out.mono ?_
     rintro e w1 ⟨rfl, hk1⟩
     have Hk2 := Lib.hid (Hk.out.nt hk1); clear hk1
     go_wp2
     exact bodyPost_ret (v := .tuple #[.int .i64 0, .int .i64 E]) (by simp [results, Tryz.results17, go_sem]) rfl ⟨rfl, Hk2.out⟩
    ·have he0 := (hof.st1 hk0).1
     have h2 := hof.two
     rw [findW_bad he] at h2
     have hE10 := H10.out he0 h2
     subst hE10
     have h := HV'.out
     rw [if_neg (by decide)] at h
     subst h
     rw [hz] at he
     have hzI : (z != 0) = true := by simp [he]
     have hk1' : ((k : Int) + 1 == 1) = false := by rw [beq_eq_false_iff_ne]; omega
     obtain ⟨Hof, Hk, Hla, HF, Hv, Hz, He0, H2⟩ := hid8 hof hk hla hF hv hz he0 h2; clear h2 he0 hz hv hF hla hk hof
     go_wp2_with fail
     with_reducible refine Hla.out.mono ?_
     rintro e w1 ⟨rfl, hk1⟩
     have Hk2 := Lib.hid (Hk.out.nt hk1); clear hk1
     go_wp2
     exact bodyPost_ret (v := .tuple #[.int .i64 0, .int .i64 10]) (by simp [results, Tryz.results17, go_sem]) rfl ⟨rfl, Hk2.out⟩
  ·obtain rfl : k = 300 := by omega
   have he0 := (hof.st1 (by omega)).1
   have h2 := hof.two
   obtain rfl : E = 10 := H10.out he0 h2
   have h := HV'.out
   rw [if_neg (by decide)] at h
   subst h
   have Hk2 := Lib.hid hk
   obtain ⟨Hof, He0, H2⟩ := hid3 hof he0 h2; clear h2 he0 hof
   go_wp2
   exact bodyPost_ret (v := .tuple #[.int .i64 0, .int .i64 10]) (by simp [results, Tryz.results17, go_sem]) rfl ⟨rfl, Hk2.out⟩
end Go.Proofs.YthcmpcekmkioaaaGreat
namespace Go.Proofs.YthcmpcekmkioaaaGreat
open Go.RowKit
structure AllAt (A : List (Int × Int)) (cd day : Int) (i : Nat) (fr : Int) : Prop where
 le : i ≤ A.length
 more : i < A.length → i < 300 ∧ A.drop i = (findW cd day (300 - i) fr).1
theorem AllAt.next {A : List (Int × Int)} {cd day : Int} {i : Nat} {fr : Int} (h : AllAt A cd day i fr) (hi : i < A.length) : lastE fr cd = 0 ∧ A[i]? = some (fr, lastF fr cd) ∧ AllAt A cd day (i + 1) (lastF fr cd + 1) := by
 obtain ⟨le, more⟩ := h
 obtain ⟨h3, hd⟩ := more hi
 obtain ⟨f, hf⟩ : ∃ f, 300 - i = f + 1 := ⟨300 - i - 1, by omega⟩
 rw [hf] at hd
 have hcons : A.drop i = A[i] :: A.drop (i + 1) := List.drop_eq_getElem_cons hi
 rw [hcons] at hd
 by_cases he : lastE fr cd = 0
 ·by_cases hg : lastF fr cd < day ∧ f ≠ 0
  ·rw [findW_go he hg] at hd
   simp only [List.cons.injEq] at hd
   refine ⟨he, by rw [List.getElem?_eq_getElem hi, hd.1], hi, fun h => ⟨by omega, ?_⟩⟩
   rw [hd.2, show 300 - (i + 1) = f by omega]
  ·rw [findW_stop he hg] at hd
   simp only [List.cons.injEq] at hd
   have hl := congrArg List.length hd.2
   rw [List.length_drop] at hl
   simp only [List.length_nil] at hl
   exact ⟨he, by rw [List.getElem?_eq_getElem hi, hd.1], hi, fun h => by omega⟩
 ·rw [findW_bad he] at hd
  cases hd
set_option maxRecDepth 100000 in
set_option maxHeartbeats 1600000 in
theorem rcycAll_any (st cd day : Int) (w : World) : Calls Tryz.prog 74 #[.int .i64 st, .int .i64 cd, .int .i64 day] w fun e w' => ∃ v, e = .returned v ∧ w'.ownsRow 0 77 2 v (if ofE st cd day = 0 then allL st cd day else []).length ((if ofE st cd day = 0 then allL st cd day else []).flatMap spc) ∧ Fresh w w' v := by
 obtain ⟨i0, hi, hi0, hi1, hi2⟩ := info_parts info_tSpan
 obtain ⟨R, hR⟩ : ∃ R, findW cd day 300 st = R := ⟨_, rfl⟩
 have hof := rcycOf_any st cd day w
 have hV := ofV_R hR
 have hEd : ofE st cd day = if lastE st cd = 0 then (if R.2 = true then 0 else 10) else lastE st cd := by unfold ofE; rw [hR]
 have hAd : allL st cd day = if R.2 = true then R.1 else [] := by unfold allL; rw [hR]
 obtain ⟨E, hE⟩ : ∃ z, ofE st cd day = z := ⟨_, rfl⟩
 obtain ⟨V, hVv⟩ : ∃ z, ofV st cd day = z := ⟨_, rfl⟩
 rw [hE] at hof hV hEd ⊢
 rw [hVv] at hof hV
 rw [hAd]
 by_cases h0 : E = 0
 ·subst h0
  rw [if_pos rfl] at hV ⊢
  subst hV
  have hb : R.2 = true := by
   by_cases h1 : lastE st cd = 0
   ·rw [if_pos h1] at hEd
    rcases hh : R.2 with _ | _
    ·rw [hh] at hEd; cases hEd
    ·rfl
   ·rw [if_neg h1] at hEd; exact absurd hEd.symm h1
  rw [if_pos hb]
  obtain ⟨A, hA⟩ : ∃ A, R.1 = A := ⟨_, rfl⟩
  rw [hA] at hof ⊢
  obtain ⟨m, hm⟩ : ∃ m, A.length = m := ⟨_, rfl⟩
  have hall : AllAt A cd day 0 st := ⟨Nat.zero_le _, fun _ => ⟨by omega, by rw [← hA, ← hR]; rfl⟩⟩
  have hm3 : m ≤ 1000000 := by
   have h1 : ∀ f fr, (findW cd day f fr).1.length ≤ f := by
    intro f
    induction f with
    | zero => intro fr; exact Nat.le_refl _
    | succ f ih =>
     intro fr
     by_cases he : lastE fr cd = 0
     ·by_cases hg : lastF fr cd < day ∧ f ≠ 0
      ·rw [findW_go he hg, List.length_cons]; have := ih (lastF fr cd + 1); omega
      ·rw [findW_stop he hg]; simp
     ·rw [findW_bad he]; simp
   have := h1 300 st
   rw [hR, hA, hm] at this
   omega
  rw [hm] at hof ⊢
  obtain ⟨Hof, HE, HEd, HAd, HVv, HR, Hb, HA, Hm⟩ := hid9 hof hE hEd hAd hVv hR hb hA hm; clear hm hA hb hR hVv hAd hEd hE hof; obtain ⟨Hall, Hi, Hi0, Hi1, Hi2⟩ := hid5 hall hi hi0 hi1 hi2; clear hi2 hi1 hi0 hi hall
  go_enter Tryz.func74, Tryz.ntmps74
  go_wp2_with fail
  refine Hof.out.mono ?_
  rintro e w1 ⟨rfl, hk1⟩
  have Hk1 := Lib.hid hk1; clear hk1
  go_wp2
  go_loopw [9, 10, 11] (fun x y z wx => ∃ (i : Nat) (fr : Int), y = .int .i64 fr ∧ z = .int .i64 (i : Nat) ∧ AllAt A cd day i fr ∧ wx.ownsRow 0 77 2 x i ((A.take i).flatMap spc) ∧ Fresh w wx x) (fun _ _ z _ => m - (intOf z).toNat)
  case atStart => exact ⟨0, st, rfl, rfl, Hall.out, World.ownsRow_nil _ _ _ _, Hk1.out, by simp [Value.ownBlock]⟩
  case round =>
   obtain ⟨i, fr, rfl, rfl, hat, hrow, hfr⟩ := hrel
   have him := hat.le
   rw [Hm.out] at him
   obtain ⟨ad, cap, hv, _, _⟩ := ownsRow_shape hrow
   subst hv
   obtain ⟨wq, hwq⟩ : ∃ x, x = wr := ⟨_, rfl⟩
   subst hwq
   by_cases hlt : i < m
   ·have hltI : (i : Int) < (m : Int) := by omega
    obtain ⟨he, hx, hnx⟩ := hat.next (by rw [Hm.out]; exact hlt)
    have hla := rcycLast_any fr cd wq
    obtain ⟨F, hF⟩ : ∃ F, lastF fr cd = F := ⟨_, rfl⟩
    have hv : lastV fr cd = F := by unfold lastV; rw [if_pos he, hF]
    obtain ⟨o1, o2, o3, o4, o5, o6⟩ := lastE_ok he
    rw [hv, he] at hla
    rw [hF] at hx hnx o5 o6
    have htk := take_snoc' hx
    clear o1 o2
    obtain ⟨Hat, Hrow, Hfr, He, Hx, Hnx, Hla, HF, Hv⟩ := hid9 hat hrow hfr he hx hnx hla hF hv; clear hv hF hla hnx hx he hfr hrow hat; have Htk := Lib.hid htk; clear htk
    go_wp2_with fail
    with_reducible refine Hla.out.mono ?_
    rintro e w2 ⟨rfl, hk2⟩
    have Hrow2 := Lib.hid (Hrow.out.of_keeps hk2)
    have Hfr2 := Lib.hid (Hfr.out.keep hk2)
    clear hk2
    go_wp2_with (at_builtin; refine wpList_append_row rfl (.tmp 35) (.tmp 39) 105 rfl 0 77 i0 _ 2 16 Tryz.underlying105 Hi.out Hi0.out Hi1.out Hi2.out rfl (by decide) _ i _ rfl (Hrow2.out.alloc _) _ 1 _ rfl (Reads.litAt _ _ _ 2 1 _ (by first | rfl | simp) rfl) (by simp [Value.oneCell']) (by unfold maxLen; omega) (by omega) (Nat.zero_le _) ?_; intro v4 w4 hown4 hk4 hf4; have hfr4 := (Hfr2.out.keep (Keeps.alloc _ _)).app hk4 hf4; obtain ⟨ad4, c4, rfl, _, _⟩ := ownsRow_shape hown4; have Hown4 := Lib.hid hown4; have Hfr4 := Lib.hid hfr4; clear hown4 hk4 hf4 hfr4)
    go_roundw
    case rel => exact ⟨i + 1, F + 1, rfl, by go_num, Hnx.out, by rw [Htk.out, List.flatMap_append]; exact Hown4.out, Hfr4.out⟩
    case measure => simp [intOf]; omega
   ·obtain rfl : i = m := by omega
    rw [List.take_of_length_le (by rw [Hm.out]; exact Nat.le_refl _)] at hrow
    obtain ⟨Hat, Hrow, Hfr⟩ := hid3 hat hrow hfr; clear hfr hrow hat
    go_wp2
    go_ret
    exact ⟨_, rfl, Hrow.out, Hfr.out⟩
 ·rw [if_neg h0] at hV ⊢
  subst hV
  have hEI : (E != 0) = true := by simp [h0]
  obtain ⟨Hof, HE, HEd, HAd, HVv, HR⟩ := hid6 hof hE hEd hAd hVv hR; clear hR hVv hAd hEd hE hof
  go_enter Tryz.func74, Tryz.ntmps74
  go_wp2_with fail
  refine Hof.out.mono ?_
  rintro e w1 ⟨rfl, hk1⟩
  have Hk1 := Lib.hid hk1; clear hk1
  go_wp2
  go_ret
  exact ⟨_, rfl, World.ownsRow_nil _ _ _ _, Hk1.out, by simp [Value.ownBlock]⟩
end Go.Proofs.YthcmpcekmkioaaaGreat
namespace Go.Proofs.YthcmpcekmkioaaaGreat
open Go.RowKit
theorem Pages19.pre {w : World} {ao : Option Addr} {co q : Nat} {P : List SV} (h : Pages19 w (.slice ao P.length co) P) (hq : q ≤ P.length) : Pages19 w (.slice ao q co) (P.take q) where
 row := by
  rw [List.length_take, Nat.min_eq_left hq]
  exact Reads.preL SV.cells_length h.row q hq
 ln := fun x hx => h.ln x (List.mem_of_mem_take hx)
 len := fun x hx => h.len x (List.mem_of_mem_take hx)
 few := by rw [List.length_take]; have := h.few; omega
set_option maxRecDepth 100000 in
set_option maxHeartbeats 6400000 in
theorem replayGoes_walk (w : World) (t : Tm) (adt : Option Addr) (ct : Nat) (htr : Reads w 2 (.slice adt t.trs.length ct) t.trs.length (t.trs.flatMap Tn.cells)) (htm : t.trs.length ≤ maxLen)
  (ad : Option Addr) (cap : Nat) (L : List Ev) (hr : Reads w 5 (.slice ad L.length cap) L.length (L.flatMap Ev.cells)) (_ : ∀ a ∈ L, a.wf) (hm : L.length ≤ maxLen) (d : Int) (_ : (Lit.int .i64 d).wf = true) :
  Calls Tryz.prog 4 #[t.val (.slice adt t.trs.length ct), .slice ad L.length cap, .int .i64 d] w fun e w' => e = .returned (.bool true) ∧ Below w.heap.size w w' := by
 obtain ⟨n, hn⟩ : ∃ n, t.trs.length = n := ⟨_, rfl⟩
 obtain ⟨N, hN⟩ : ∃ N, L.length = N := ⟨_, rfl⟩
 rw [hn] at htr htm
 rw [hN] at hr hm
 simp only [Tm.val]
 rw [hn, hN]
 have hmx : n ≤ 9223372036854775807 := htm
 obtain ⟨P, hP⟩ : ∃ P, playT t = P := ⟨_, rfl⟩
 obtain ⟨D, hD⟩ : ∃ D, uq d 300 = D := ⟨_, rfl⟩
 have hu0 : 0 ≤ IntKind.u64.wrap d := by rw [IntKind.wrap_u64]; omega
 have hDt : (IntKind.u64.wrap d).tmod 300 = D := by rw [Int.tmod_eq_emod_of_nonneg hu0]; exact hD
 have hDb := uq_bd d (m := 300) (by decide)
 rw [hD] at hDb
 obtain ⟨D0, D1⟩ := hDb
 have hpt := fun W (hW : Keeps (fun _ => False) w W) => playTerms_any t adt ct n W hn (htr.keeps hW (by simp)) hmx
 have hpo := playT_ok t
 rw [hP] at hpt hpo
 obtain ⟨pz, ps0, ps1⟩ := hpo
 obtain ⟨⟨pl0, pl1⟩, _, ⟨pc0, pc1⟩, _⟩ := tm_nums pz
 by_cases h60 : 60 < N
 ·have h60I : (60 : Int) < (N : Int) := by omega
  obtain ⟨Htr, Hr, Hn, HN, HP, HD, Hu0, Hpt⟩ := hid8 htr hr hn hN hP hD hu0 hpt; clear hpt hu0 hD hP hN hn hr htr
  go_enter Tryz.func4, Tryz.ntmps4
  go_wp2_with (go_at_call 6; (with_reducible refine (awake19_any _).mono ?_); rintro e w3 ⟨rfl, hk3⟩; have Hk3 := Lib.hid hk3; clear hk3)
  go_ret
  exact ⟨rfl, ((Keeps.alloc (S := fun _ => False) w _).nt Hk3.out).below (by simp) (Nat.le_refl _)⟩
 have h60I : ¬ (60 : Int) < (N : Int) := by omega
 obtain ⟨Htr, Hr, Hn, HN, HP, HD, Hu0, Hpt⟩ := hid8 htr hr hn hN hP hD hu0 hpt; clear hpt hu0 hD hP hN hn hr htr
 go_enter Tryz.func4, Tryz.ntmps4
 go_wp2_with (go_at_call 13; (with_reducible refine (Hpt.out _ (Keeps.alloc _ _)).mono ?_); rintro e w1 ⟨v1, rfl, hrd1, hk1, hfr1⟩; obtain ⟨av, cv, rfl, _⟩ := id hrd1; have Hfr1 := Lib.hid hfr1; clear hfr1; have hb1 := box_new hk1 (by simp); have Hrd1 := Lib.hid hrd1; have Hk1 := Lib.hid ((Keeps.alloc (S := fun _ => False) w _).nt hk1); have Hb1 := Lib.hid hb1; clear hrd1 hk1 hb1; refine haltW ?_)
 refine Lib.hid ?_
 obtain ⟨B, hBe⟩ : ∃ x, x = w.heap.size := ⟨_, rfl⟩
 rw [← hBe] at Hb1 ⊢
 have hwk1 := store7 Hb1.out (.int .i64 P.limit) (.slice av P.trs.length cv) (.int .i64 P.cyc) (.int .i64 P.due) (.int .i64 P.minFixed) (.int .i64 P.minPart) (.int .i64 P.start)
 obtain ⟨w2, hw2⟩ : ∃ x, x = ((((((w1.setCell ⟨B, 0, none⟩ (.int .i64 P.limit)).setCell ⟨B, 1, none⟩ (.slice av P.trs.length cv)).setCell ⟨B, 2, none⟩ (.int .i64 P.cyc)).setCell ⟨B, 3, none⟩ (.int .i64 P.due)).setCell ⟨B, 4, none⟩ (.int .i64 P.minFixed)).setCell ⟨B, 5, none⟩ (.int .i64 P.minPart)).setCell ⟨B, 6, none⟩ (.int .i64 P.start) := ⟨_, rfl⟩
 rw [← hw2] at hwk1
 obtain ⟨hb2, hk12⟩ := hwk1
 have hk2 : Keeps (fun _ => False) w w2 := Hk1.out.trans (hk12.mono fun i _ e => .inr (by have e' : i = B := e; omega))
 have hrd2 : Reads w2 2 (.slice av P.trs.length cv) P.trs.length (P.trs.flatMap Tn.cells) := Hrd1.out.keeps hk12 (fun g hg e => by
  have e' : g = B := e
  rcases Hfr1.out with h | h
  ·rw [h] at hg
   obtain ⟨g', e1, e2⟩ := Htr.out.lt (fun e => by
    have h2 := congrArg List.length e
    rw [flatMap_len t.trs, Hn.out] at h2
    simp only [Value.slice.injEq] at h
    simp at h2
    omega)
   rw [e1] at hg
   injection hg with hg
   omega
  ·have := h g hg
   simp only [World.size_alloc] at this
   omega)
 have s0 := cell_of_cells (Hb1.out) 0
 have s1 := cell_of_cells (Hb1.out) 1
 have s2 := cell_of_cells (Hb1.out) 2
 have s3 := cell_of_cells (Hb1.out) 3
 have s4 := cell_of_cells (Hb1.out) 4
 have s5 := cell_of_cells (Hb1.out) 5
 have s6 := cell_of_cells (Hb1.out) 6
 have sl := lt_of_block (Hb1.out)
 have f0 := free_of_cells (Hb1.out) 0
 have f1 := free_of_cells (Hb1.out) 1
 have f2 := free_of_cells (Hb1.out) 2
 have f3 := free_of_cells (Hb1.out) 3
 have f4 := free_of_cells (Hb1.out) 4
 have f5 := free_of_cells (Hb1.out) 5
 have f6 := free_of_cells (Hb1.out) 6
 obtain ⟨Hb2, Hk12, Hk2, Hrd2, HBe⟩ := hid5 hb2 hk12 hk2 hrd2 hBe; clear hBe hrd2 hk2 hk12 hb2
 go_upto_region 4 with fail
 rw [← hw2]
 clear hw2 s0 s1 s2 s3 s4 s5 s6 sl f0 f1 f2 f3 f4 f5 f6
 have hpe := playEvents_any P av cv P.trs.length L ad cap N D 40 w2 rfl Hrd2.out HN.out (Hr.out.keeps Hk2.out (by simp)) (by omega) (by omega) D0 (by omega) (by decide) ps0 ps1
 rw [show (((40 : Nat)) : Int) = 40 by rfl] at hpe
 obtain ⟨E, hE⟩ : ∃ E, playL P D 40 L [] = E := ⟨_, rfl⟩
 have hok := playL_ok (t := P) (days := D) (n := 40) D0 L [] (by simp) (by simp)
 rw [hE] at hpe hok
 obtain ⟨hok1, hok2⟩ := hok
 obtain ⟨o, ho⟩ : ∃ o, E.length = o := ⟨_, rfl⟩
 rw [ho] at hok2
 have hsub : P.start + D - P.start = D := by omega
 have t0 := cell_of_cells (Hb2.out) 0
 have t1 := cell_of_cells (Hb2.out) 1
 have t2 := cell_of_cells (Hb2.out) 2
 have t3 := cell_of_cells (Hb2.out) 3
 have t4 := cell_of_cells (Hb2.out) 4
 have t5 := cell_of_cells (Hb2.out) 5
 have t6 := cell_of_cells (Hb2.out) 6
 have tl := lt_of_block (Hb2.out)
 obtain ⟨Hpe, HE, Hok1, Ho⟩ := hid4 hpe hE hok1 ho; clear ho hok1 hE hpe
 go_wp2_with (go_at_call 14; (with_reducible refine Hpe.out.mono ?_); rintro e w3 ⟨v3, rfl, hat3⟩; have hr3 := hat3.1; rw [Ho.out] at hr3; obtain ⟨aE, cE, rfl, _⟩ := ownsRow_shape hr3; have Hr3 := Lib.hid hr3; have Hk23 := Lib.hid hat3.2.1; clear hr3 hat3; refine haltW ?_)
 refine Lib.hid ?_
 clear t0 t1 t2 t3 t4 t5 t6 tl
 have hk3 : Keeps (fun _ => False) w w3 := Hk2.out.nt Hk23.out
 have hb3 := box_old Hb2.out Hk23.out (by simp)
 have hrd3 := Hrd2.out.keeps Hk23.out (by simp)
 have hev3 : Reads w3 5 (.slice aE o cE) o (E.flatMap Ev.cells) := Reads.of_owns Hr3.out
 obtain ⟨Z1, hZ1⟩ : ∃ Z, walkR P E (P.start + D) = Z := ⟨_, rfl⟩
 obtain ⟨Z2, hZ2⟩ : ∃ Z, walkR P E (P.start + D + 1) = Z := ⟨_, rfl⟩
 have hrun1 := fun W (h : Keeps (fun _ => False) w3 W) => repRun_any P av cv P.trs.length E aE cE o (P.start + D) W rfl (hrd3.keeps h (by simp)) Ho.out (hev3.keeps h (by simp)) (by omega) (by omega)
 have hrun2 := fun W (h : Keeps (fun _ => False) w3 W) => repRun_any P av cv P.trs.length E aE cE o (P.start + D + 1) W rfl (hrd3.keeps h (by simp)) Ho.out (hev3.keeps h (by simp)) (by omega) (by omega)
 have her1 := walkR_err pz Hok1.out (by rw [Ho.out]; omega) (by omega : P.start ≤ P.start + D) (by omega) (by omega)
 have her2 := walkR_err pz (fun x hx => ⟨(Hok1.out x hx).1, by have := (Hok1.out x hx).2; omega⟩ : ∀ x ∈ E, evErr P x = 0 ∧ x.day ≤ P.start + D + 1) (by rw [Ho.out]; omega) (by omega : P.start ≤ P.start + D + 1) (by omega) (by omega)
 have hgo := walkR_goes pz Hok1.out (by rw [Ho.out]; omega) (by omega : P.start ≤ P.start + D) (by omega) (by omega)
 rw [hZ1, hZ2] at hgo
 rw [hZ1] at hrun1 her1
 rw [hZ2] at hrun2 her2
 have ho1 := fun h => walkR_out hZ1 h
 have ho2 := fun h => walkR_out hZ2 h
 have t0 := cell_of_cells (hb3) 0
 have t1 := cell_of_cells (hb3) 1
 have t2 := cell_of_cells (hb3) 2
 have t3 := cell_of_cells (hb3) 3
 have t4 := cell_of_cells (hb3) 4
 have t5 := cell_of_cells (hb3) 5
 have t6 := cell_of_cells (hb3) 6
 have tl := lt_of_block (hb3)
 obtain ⟨Hk3, Hb3, Hrd3, Hev3, Hrun1, Hrun2, Hgo, HZ1, HZ2⟩ := hid9 hk3 hb3 hrd3 hev3 hrun1 hrun2 hgo hZ1 hZ2; clear hZ2 hZ1 hgo hrun2 hrun1 hev3 hrd3 hb3 hk3; obtain ⟨Ho1, Ho2⟩ := hid2 ho1 ho2; clear ho2 ho1
 rcases her1 with hZ1z | hZ1z
 ·rcases her2 with hZ2z | hZ2z
  ·-- both go
   have hgo2 := Hgo.out hZ1z hZ2z
   have hox1 := Ho1.out hZ1z
   have hox2 := Ho2.out hZ2z
   have HZ1z := Lib.hid hZ1z
   have HZ2z := Lib.hid hZ2z
   clear hZ1z hZ2z
   obtain ⟨hgn, hgo3⟩ := hgo2
   obtain ⟨V, hV⟩ : ∃ V, ofV P.start P.cyc (P.start + D + 1) = V := ⟨_, rfl⟩
   have hoe : ofE P.start P.cyc (P.start + D + 1) = 0 := (ofE_far (st := P.start) (day := P.start + D + 1) ⟨pc0, pc1⟩ (by omega) (by omega) (by omega) (by omega)).1
   have hcy := fun W => rcycOf_any P.start P.cyc (P.start + D + 1) W
   rw [hV, hoe] at hcy
   rw [hV] at hgn
   obtain ⟨hx11, hx12, _, hx13⟩ := hox1
   obtain ⟨hx21, hx22, _, hx23⟩ := hox2
   obtain ⟨Hgn, Hgo3, HV, Hoe, Hcy, Hx11, Hx12, Hx13, Hx21⟩ := hid9 hgn hgo3 hV hoe hcy hx11 hx12 hx13 hx21; clear hx21 hx13 hx12 hx11 hcy hoe hV hgo3 hgn; obtain ⟨Hx22, Hx23⟩ := hid2 hx22 hx23; clear hx23 hx22
   go_wp2_with fail
   refine (Hrun1.out _ (Keeps.refl _ _)).mono ?_
   clear t0 t1 t2 t3 t4 t5 t6 tl
   rintro e w4 (⟨hz, vb1, vr1, vo1, Q1, rfl, hres1⟩ | ⟨hz, rfl, hkr1⟩)
   rotate_left
   ·exact absurd HZ1z.out hz
   obtain ⟨a1, c1, rfl, _⟩ := ownsRow_shape hres1.bal
   obtain ⟨q1, hq1⟩ : ∃ q, Q1.length = q := ⟨_, rfl⟩
   have hro1 := hres1.out
   rw [hq1] at hro1
   obtain ⟨ao1, co1, rfl, hco1, _⟩ := ownsRow_shape hro1
   have hkr1 := hres1.kp
   have hb4 := box_old Hb3.out hkr1 (by simp)
   have t0 := cell_of_cells (hb4) 0
   have t1 := cell_of_cells (hb4) 1
   have t2 := cell_of_cells (hb4) 2
   have t3 := cell_of_cells (hb4) 3
   have t4 := cell_of_cells (hb4) 4
   have t5 := cell_of_cells (hb4) 5
   have t6 := cell_of_cells (hb4) 6
   have tl := lt_of_block (hb4)
   obtain ⟨Hres1, Hro1, Hkr1, Hb4, Hq1⟩ := hid5 hres1 hro1 hkr1 hb4 hq1; clear hq1 hb4 hkr1 hro1 hres1
   go_wp2_with fail
   refine (Hrun2.out _ (Hkr1.out.nt (Keeps.alloc _ _))).mono ?_
   clear t0 t1 t2 t3 t4 t5 t6 tl
   rintro e w5 (⟨hz, vb2, vr2, vo2, Q2, rfl, hres2⟩ | ⟨hz, rfl, hkr2⟩)
   rotate_left
   ·exact absurd HZ2z.out hz
   obtain ⟨a2, c2, rfl, _⟩ := ownsRow_shape hres2.bal
   obtain ⟨q2, hq2⟩ : ∃ q, Q2.length = q := ⟨_, rfl⟩
   have hro2 := hres2.out
   rw [hq2] at hro2
   obtain ⟨ao2, co2, rfl, hco2, _⟩ := ownsRow_shape hro2
   have hkr2 := hres2.kp
   have hl1 : Z1.1.out.length = q1 := by rw [← Hres1.out.lp, List.length_map]; exact Hq1.out
   have hl2 : Z2.1.out.length = q2 := by rw [← hres2.lp, List.length_map]; exact hq2
   have hVq : V - 1 = (q2 : Int) := by have := Hgn.out; rw [hl2] at this; omega
   have hq12 : q1 ≤ q2 := by
    rcases Hgo3.out with ⟨h, _⟩ | ⟨X, h⟩
    ·rw [← hl1, ← hl2, h]; exact Nat.le_refl _
    ·rw [← hl1, ← hl2, h, List.length_append]; omega
   have hqI : ¬ (q2 : Int) < (q1 : Int) := by omega
   have hq300 : q2 ≤ 300 := by rw [← hl2]; exact Hx22.out
   have hqc : q1 ≤ co2 := by omega
   have hb5 := box_old (box_alloc Hb4.out _) hkr2 (by simp)
   have hp5 := box_new hkr2 (by simp)
   have hr1 := Reads.of_owns (Hres1.out.bal.of_keeps ((Keeps.alloc _ _).nt hkr2))
   have hr2 := Reads.of_owns hres2.bal
   have hpg1 := (Pages19.of Hres1.out (fun x hx => by rw [Hx11.out x hx]; omega) Hx12.out).keeps ((Keeps.alloc w4 _).nt hkr2)
   have hpg2 := Pages19.of hres2 (fun x hx => by rw [Hx21.out x hx]; omega) Hx22.out
   have hmap : (Q2.take q1).map SV.s = Q1.map SV.s := by
    rw [List.map_take, hres2.lp, Hres1.out.lp]
    rcases Hgo3.out with ⟨h, _⟩ | ⟨X, h⟩
    ·rw [h, ← hl1, List.take_length]
    ·rw [h, ← hl1, List.take_left']
     rfl
   rw [← hq2] at hq12
   have hpg3 : Pages19 w5 (.slice ao2 q1 co2) (Q2.take q1) := Pages19.pre (by rw [hq2]; exact hpg2) hq12
   have hpp := fun W (h : Keeps (fun _ => False) w5 W) => pages19_any (Q2.take q1) Q1 (.slice ao2 q1 co2) (.slice ao1 q1 co1) W (hpg3.keeps h) (hpg1.keeps h) hmap
   have hri := fun W (h : Keeps (fun _ => False) w5 W) => r11Right_any Z2.1.p.bal Z2.1.p.cr Z2.1.p.du a2 c2 P.trs.length W (hr2.keeps h (by simp)) hres2.nb (by omega)
   have hrb : Ps.rightB ⟨Z2.1.p.bal, Z2.1.p.cr, Z2.1.p.du⟩ = true := Hx23.out
   rw [hrb] at hri
   have hps : Z2.1.p = Z1.1.p → ∀ W, Keeps (fun _ => False) w5 W → Calls Tryz.prog 10 #[.agg #[.slice a1 P.trs.length c1, .int .i64 Z1.1.p.cr, .int .i64 Z1.1.p.du], .agg #[.slice a2 P.trs.length c2, .int .i64 Z2.1.p.cr, .int .i64 Z2.1.p.du]] W fun e w' => e = .returned (.bool true) ∧ Keeps (fun _ => False) W w' := fun hp W h => by
    rw [hp] at hr2 ⊢
    exact samePos_any Z1.1.p.bal P.trs.length a1 a2 c1 c2 Z1.1.p.cr Z1.1.p.du W Hres1.out.nb (hr1.keeps h (by simp)) (hr2.keeps h (by simp)) (by omega)
   have hk05 := (Hk3.out.nt Hkr1.out).nt ((Keeps.alloc (S := fun _ => False) w4 _).nt hkr2)
   obtain ⟨Hres2, Hro2, Hkr2, Hq2, Hl1, Hl2, Hb5, Hp5, Hr1⟩ := hid9 hres2 hro2 hkr2 hq2 hl1 hl2 hb5 hp5 hr1; clear hr1 hp5 hb5 hl2 hl1 hq2 hkr2 hro2 hres2; obtain ⟨Hr2, Hpg1, Hpg2, Hpg3, Hmap, Hpp, Hri, Hrb, Hps⟩ := hid9 hr2 hpg1 hpg2 hpg3 hmap hpp hri hrb hps; clear hps hrb hri hpp hmap hpg3 hpg2 hpg1 hr2; obtain ⟨Hq12, Hk05⟩ := hid2 hq12 hk05; clear hk05 hq12
   go_wp2_with (go_at_call 6; (with_reducible refine (awake19_any _).mono ?_); rintro e w7 ⟨rfl, hk7⟩; have Hk7 := Lib.hid hk7; clear hk7; refine haltW ?_)
   refine Lib.hid ?_
   have hk57 : Keeps (fun _ => False) w5 w7 := (Keeps.alloc w5 _).nt Hk7.out
   have hp7 := box_old (box_alloc Hp5.out _) Hk7.out (by simp)
   have hz7 := box_new Hk7.out (by simp)
   have hb7 := box_old Hb5.out hk57 (by simp)
   obtain ⟨Hk57, Hp7, Hz7, Hb7⟩ := hid4 hk57 hp7 hz7 hb7; clear hb7 hz7 hp7 hk57
   go_wp2_with (go_at_call 16; (with_reducible refine (Hpp.out _ Hk57.out).mono ?_); rintro e w8 ⟨rfl, hk8⟩; have Hk8 := Lib.hid hk8; clear hk8; refine haltW ?_)
   refine Lib.hid ?_
   have hb8 := box_old Hb7.out Hk8.out (by simp)
   have t0 := cell_of_cells (hb8) 0
   have t1 := cell_of_cells (hb8) 1
   have t2 := cell_of_cells (hb8) 2
   have t3 := cell_of_cells (hb8) 3
   have t4 := cell_of_cells (hb8) 4
   have t5 := cell_of_cells (hb8) 5
   have t6 := cell_of_cells (hb8) 6
   have tl := lt_of_block (hb8)
   have Hb8 := Lib.hid hb8; clear hb8
   go_wp2_with (go_at_call 17; (with_reducible refine (Hcy.out _).mono ?_); rintro e w9 ⟨rfl, hk9⟩; have Hk9 := Lib.hid hk9; clear hk9; refine haltW ?_)
   refine Lib.hid ?_
   clear t0 t1 t2 t3 t4 t5 t6 tl
   have hk79 := Hk8.out.nt Hk9.out
   have hp9 := box_old Hp7.out hk79 (by simp)
   have hz9 := box_old Hz7.out hk79 (by simp)
   have hk59 := Hk57.out.nt hk79
   have x0 := cell_of_cells hp9 0
   have x1 := cell_of_cells hp9 1
   have x2 := cell_of_cells hp9 2
   have xl := lt_of_block hp9
   have y0 := cell_of_cells hz9 0
   have y1 := cell_of_cells hz9 1
   have y2 := cell_of_cells hz9 2
   have yl := lt_of_block hz9
   have hqq : ((q2 : Int) == V - 1) = true := by rw [beq_iff_eq]; omega
   obtain ⟨Hk79, Hp9, Hz9, Hk59⟩ := hid4 hk79 hp9 hz9 hk59; clear hk59 hz9 hp9 hk79
   rcases Hgo3.out with ⟨h1, h2⟩ | ⟨X, h1⟩
   ·have hqs : q2 = q1 := by rw [← Hl1.out, ← Hl2.out, h1]
    have hqn : ((q2 : Int) == (q1 : Int) + 1) = false := beq_eq_false_iff_ne.2 (by omega)
    have hps2 := Hps.out h2 _ Hk59.out
    obtain ⟨H1, H2, Hqs, Hps2⟩ := hid4 h1 h2 hqs hps2; clear hps2 hqs h2 h1
    go_wp2_with (go_at_call 10; (with_reducible refine Hps2.out.mono ?_); rintro e w10 ⟨rfl, hk10⟩; have Hk10 := Lib.hid hk10; clear hk10; refine haltW ?_)
    refine Lib.hid ?_
    have hz10 := box_old Hz9.out Hk10.out (by simp)
    clear x0 x1 x2 xl y0 y1 y2 yl
    have y0 := cell_of_cells hz10 0
    have y1 := cell_of_cells hz10 1
    have y2 := cell_of_cells hz10 2
    have yl := lt_of_block hz10
    have hk510 := Hk59.out.nt Hk10.out
    obtain ⟨Hz10, Hk510⟩ := hid2 hz10 hk510; clear hk510 hz10
    go_wp2_with (go_at_call 18; (with_reducible refine (Hri.out _ Hk510.out).mono ?_); rintro e w11 ⟨rfl, hk11⟩; have Hk11 := Lib.hid hk11; clear hk11)
    go_ret
    exact ⟨rfl, ((Hk05.out.nt Hk510.out).nt Hk11.out).below (by simp) (Nat.le_refl _)⟩
   ·have hqs : q2 = q1 + 1 := by rw [← Hl1.out, ← Hl2.out, h1, List.length_append]; rfl
    have hqn : ((q2 : Int) == (q1 : Int) + 1) = true := by rw [beq_iff_eq]; omega
    obtain ⟨H1, Hqs⟩ := hid2 h1 hqs; clear hqs h1
    go_wp2_with (go_at_call 18; (with_reducible refine (Hri.out _ Hk59.out).mono ?_); rintro e w11 ⟨rfl, hk11⟩; have Hk11 := Lib.hid hk11; clear hk11)
    go_ret
    exact ⟨rfl, ((Hk05.out.nt Hk59.out).nt Hk11.out).below (by simp) (Nat.le_refl _)⟩
  ·have HZ1z := Lib.hid hZ1z
   have HZ2z := Lib.hid hZ2z
   clear hZ1z hZ2z
   go_wp2_with fail
   refine (Hrun1.out _ (Keeps.refl _ _)).mono ?_
   clear t0 t1 t2 t3 t4 t5 t6 tl
   rintro e w4 (⟨hz, vb1, vr1, vo1, Q1, rfl, hres1⟩ | ⟨hz, rfl, hkr1⟩)
   rotate_left
   ·exact absurd HZ1z.out hz
   obtain ⟨a1, c1, rfl, _⟩ := ownsRow_shape hres1.bal
   obtain ⟨q1, hq1⟩ : ∃ q, Q1.length = q := ⟨_, rfl⟩
   have hro1 := hres1.out
   rw [hq1] at hro1
   obtain ⟨ao1, co1, rfl, hco1, _⟩ := ownsRow_shape hro1
   have hkr1 := hres1.kp
   have hb4 := box_old Hb3.out hkr1 (by simp)
   have t0 := cell_of_cells (hb4) 0
   have t1 := cell_of_cells (hb4) 1
   have t2 := cell_of_cells (hb4) 2
   have t3 := cell_of_cells (hb4) 3
   have t4 := cell_of_cells (hb4) 4
   have t5 := cell_of_cells (hb4) 5
   have t6 := cell_of_cells (hb4) 6
   have tl := lt_of_block (hb4)
   obtain ⟨Hres1, Hro1, Hkr1, Hb4, Hq1⟩ := hid5 hres1 hro1 hkr1 hb4 hq1; clear hq1 hb4 hkr1 hro1 hres1
   go_wp2_with fail
   refine (Hrun2.out _ (Hkr1.out.nt (Keeps.alloc _ _))).mono ?_
   clear t0 t1 t2 t3 t4 t5 t6 tl
   rintro e w5 (⟨hz, _⟩ | ⟨hz, rfl, hkr2⟩)
   ·exact absurd (HZ2z.out.symm.trans hz) (by decide)
   rw [HZ2z.out]
   have hk6 := ((Hk3.out.nt Hkr1.out).nt (Keeps.alloc _ _)).nt (hkr2.nt (Keeps.alloc w5 (.cells #[.slice none 0 0, .int .i64 0, .int .i64 0] 24)))
   obtain ⟨Hk6, Hkr2⟩ := hid2 hk6 hkr2; clear hkr2 hk6
   go_wp2_with (go_at_call 6; (with_reducible refine (awake19_any _).mono ?_); rintro e w7 ⟨rfl, hk7⟩; have Hk7 := Lib.hid hk7; clear hk7; refine haltW ?_)
   refine Lib.hid ?_
   go_wp2_with (go_at_call 6; (with_reducible refine (awake19_any _).mono ?_); rintro e w8 ⟨rfl, hk8⟩; have Hk8 := Lib.hid hk8; clear hk8)
   go_ret
   exact ⟨rfl, ((Hk6.out.nt Hk7.out).nt Hk8.out).below (by simp) (Nat.le_refl _)⟩
 ·have HZ1z := Lib.hid hZ1z
  clear hZ1z
  go_wp2_with fail
  refine (Hrun1.out _ (Keeps.refl _ _)).mono ?_
  clear t0 t1 t2 t3 t4 t5 t6 tl
  rintro e w4 (⟨hz, _⟩ | ⟨hz, rfl, hkr1⟩)
  ·exact absurd (HZ1z.out.symm.trans hz) (by decide)
  rw [HZ1z.out]
  have hb4 := box_old Hb3.out hkr1 (by simp)
  have t0 := cell_of_cells (hb4) 0
  have t1 := cell_of_cells (hb4) 1
  have t2 := cell_of_cells (hb4) 2
  have t3 := cell_of_cells (hb4) 3
  have t4 := cell_of_cells (hb4) 4
  have t5 := cell_of_cells (hb4) 5
  have t6 := cell_of_cells (hb4) 6
  have tl := lt_of_block (hb4)
  obtain ⟨Hkr1, Hb4⟩ := hid2 hkr1 hb4; clear hb4 hkr1
  rcases her2 with hZ2z | hZ2z
  ·have HZ2z := Lib.hid hZ2z
   clear hZ2z
   go_wp2_with fail
   refine (Hrun2.out _ (Hkr1.out.nt (Keeps.alloc _ _))).mono ?_
   clear t0 t1 t2 t3 t4 t5 t6 tl
   rintro e w5 (⟨hz, vb2, vr2, vo2, Q2, rfl, hres2⟩ | ⟨hz, rfl, hkr2⟩)
   rotate_left
   ·exact absurd HZ2z.out hz
   obtain ⟨a2, c2, rfl, _⟩ := ownsRow_shape hres2.bal
   obtain ⟨q2, hq2⟩ : ∃ q, Q2.length = q := ⟨_, rfl⟩
   have hro2 := hres2.out
   rw [hq2] at hro2
   obtain ⟨ao2, co2, rfl, hco2, _⟩ := ownsRow_shape hro2
   have hkr2 := hres2.kp
   have hk6 := ((Hk3.out.nt Hkr1.out).nt (Keeps.alloc _ _)).nt (hkr2.nt (Keeps.alloc w5 (.cells #[.slice a2 P.trs.length c2, .int .i64 Z2.1.p.cr, .int .i64 Z2.1.p.du] 24)))
   obtain ⟨Hres2, Hro2, Hkr2, Hk6, Hq2⟩ := hid5 hres2 hro2 hkr2 hk6 hq2; clear hq2 hk6 hkr2 hro2 hres2
   go_wp2_with (go_at_call 6; (with_reducible refine (awake19_any _).mono ?_); rintro e w7 ⟨rfl, hk7⟩; have Hk7 := Lib.hid hk7; clear hk7; refine haltW ?_)
   refine Lib.hid ?_
   go_wp2_with (go_at_call 6; (with_reducible refine (awake19_any _).mono ?_); rintro e w8 ⟨rfl, hk8⟩; have Hk8 := Lib.hid hk8; clear hk8)
   go_ret
   exact ⟨rfl, ((Hk6.out.nt Hk7.out).nt Hk8.out).below (by simp) (Nat.le_refl _)⟩
  ·have HZ2z := Lib.hid hZ2z
   clear hZ2z
   go_wp2_with fail
   refine (Hrun2.out _ (Hkr1.out.nt (Keeps.alloc _ _))).mono ?_
   clear t0 t1 t2 t3 t4 t5 t6 tl
   rintro e w5 (⟨hz, _⟩ | ⟨hz, rfl, hkr2⟩)
   ·exact absurd (HZ2z.out.symm.trans hz) (by decide)
   rw [HZ2z.out]
   have hk6 := ((Hk3.out.nt Hkr1.out).nt (Keeps.alloc _ _)).nt (hkr2.nt (Keeps.alloc w5 (.cells #[.slice none 0 0, .int .i64 0, .int .i64 0] 24)))
   obtain ⟨Hk6, Hkr2⟩ := hid2 hk6 hkr2; clear hkr2 hk6
   go_wp2_with (go_at_call 6; (with_reducible refine (awake19_any _).mono ?_); rintro e w7 ⟨rfl, hk7⟩; have Hk7 := Lib.hid hk7; clear hk7; refine haltW ?_)
   refine Lib.hid ?_
   go_wp2_with (go_at_call 6; (with_reducible refine (awake19_any _).mono ?_); rintro e w8 ⟨rfl, hk8⟩; have Hk8 := Lib.hid hk8; clear hk8)
   go_ret
   exact ⟨rfl, ((Hk6.out.nt Hk7.out).nt Hk8.out).below (by simp) (Nat.le_refl _)⟩
end Go.Proofs.YthcmpcekmkioaaaGreat
namespace Go.Proofs.YthcmpcekmkioaaaGreat.replayGoesOn
open Go.ChangeShapes Go.WideShapes Go.ChangeAt Go.RowKit Go.Deep
set_option maxRecDepth 100000 in
theorem lifted (os : Os) (started : os.Started) (H : Type) (enc : TypeId × Value → H) :
  ReturnsInHanded {} Tryz.checked os 4 .any (Rows.replayGoesOnSpec.pre6 enc Tryz.prog Tryz.f4 Rows.replayGoesOnRow.domain false) (Rows.replayGoesOnSpec.post enc Tryz.prog Tryz.f4 false true false false) := by
 refine returnsInHanded_of_change (C := Tryz.checked) own started (by kernel_rfl) Tryz.func4
  (ChangeSpec.witness6 (enc := enc) (C := Tryz.checked) false ⟨#[], #[.agg #[.int .i64 0, .slice none 0 0, .int .i64 0, .int .i64 0, .int .i64 0, .int .i64 0, .int .i64 0], .slice none 0 0, .int .i64 0], []⟩ 8 (by kernel_rfl) (by kernel_rfl) (by kernel_rfl) (by kernel_rfl)) ?_
 intro W base args ds gs before hval0 hW hcnd _
 have hval : ∀ (j : Nat) t v, Tryz.f4.params[j]? = some t → args[j]? = some v → Value.okWide Tryz.prog W .any base t v := hval0
 have hW' := hW
 obtain ⟨p, q, hA0, hV, rfl, hfz, hnd⟩ := hW
 have hA : DataW.TrodAll enc Tryz.prog W 0 (fun _ => true) true Tryz.f4.params.toList args.toList ds p := hA0
 rw [Tryz.params4] at hA hval
 obtain ⟨v0, vs0, d0, ds0, p0, q0, hargs, rfl, rfl, h0, r0⟩ := trodAll_cons hA
 obtain ⟨v1, vs1, d1, ds1, p1, q1, rfl, rfl, rfl, h1, r1⟩ := trodAll_cons r0
 obtain ⟨v2, vs2, d2, ds2, p2, q2, rfl, rfl, rfl, h2, r2⟩ := trodAll_cons r1
 obtain ⟨rfl, rfl, rfl⟩ := trodAll_nil r2
 obtain rfl : args = #[v0, v1, v2] := by cases args; simp_all
 obtain ⟨rfl, rfl⟩ := trodVars_none hV
 obtain ⟨cs0, rfl, hsz0⟩ := okWide_struct Tryz.underlying38 (hval 0 38 v0 rfl rfl)
 have k0 := h0
 have lt0 : ∀ x ∈ p0, x.block < W.heap.size := by obtain ⟨m, hm⟩ := k0; exact DataW.trod_lt m _ _ _ hm
 obtain ⟨a0, ad0, cap0, e0, hr0, hm0⟩ : ∃ (a : Tm) (ad : Option Addr) (cap : Nat), (Value.agg cs0).cells.toList = Tm.list a ad cap ∧ Reads W 2 (.slice ad a.trs.length cap) a.trs.length (a.trs.flatMap Tn.cells) ∧ a.trs.length ≤ maxLen := by obtain ⟨fuel, hf⟩ := h0; exact open_Tm _ _ _ hf
 have f0 : cs0 = (Tm.list a0 ad0 cap0).toArray := by rw [← e0]; simp [Value.cells]
 subst f0
 obtain ⟨ad1, len1, cap1, rfl⟩ := okWide_slice Tryz.underlying39 (hval 1 39 v1 rfl rfl)
 have k1 := h1
 have lt1 : ∀ x ∈ p1, x.block < W.heap.size := by obtain ⟨m, hm⟩ := k1; exact DataW.trod_lt m _ _ _ hm
 obtain ⟨L1, e1, hr1, hp1, hm1⟩ : ∃ L : List Ev, L.length = len1 ∧ Reads W 5 (.slice ad1 len1 cap1) L.length (L.flatMap Ev.cells) ∧ (∀ a ∈ L, a.wf) ∧ L.length ≤ maxLen := by
  obtain ⟨fuel, hf⟩ := h1
  exact open_reads (f := Ev.cells) (size := 5) Ev.cells_length (by decide) Tryz.underlying39 (by kernel_rfl) (fun n cs d hd => open_Ev n cs d hd) hf
 subst e1
 obtain ⟨a2, rfl, rfl, rfl, w2⟩ := open_int Tryz.underlying3 (hval 2 3 v2 rfl rfl) h2
 clear hA0 hval0
 refine (replayGoes_walk W a0 ad0 cap0 hr0 hm0 ad1 cap1 L1 hr1 hp1 hm1 a2 w2).mono fun e W' ⟨he, bel⟩ => ?_
 subst he
 exact ⟨_, rfl, _, _, _, [], _, [], hW', trodAll_mk1 (shut_bool Tryz.underlying4 _), (trodAll_cons_mk (Below.trod laidOut (by kernel_rfl) (of_decide_eq_true (by kernel_rfl)) k0 bel lt0) (trodAll_cons_mk (Below.trod laidOut (by kernel_rfl) (of_decide_eq_true (by kernel_rfl)) k1 bel lt1) (trodAll_cons_mk (shut_int Tryz.underlying3 w2) trodAll_mk0))), rfl, bel.frame _, fun h => by cases h⟩
theorem over : Rows.replayGoesOnRow.holds Tryz.pinned (OpenSpec.ofChange Rows.replayGoesOnSpec) :=
 OpenClaim.holds_of_wide 4 Tryz.f4 rfl rfl rfl rfl rfl rfl rfl ⟨rfl, rfl, rfl, rfl, rfl⟩ rfl rfl rfl rfl rfl (by kernel_rfl) Tryz.func4 (by kernel_rfl)
  (of_decide_eq_true (by kernel_rfl)) (by unfold Func.isWrapper; first | (rw [if_pos (by decide +kernel)]; kernel_rfl) | (rw [if_neg (by decide +kernel)]; exact ⟨rfl, rfl⟩))
  (fun os started H enc _ => lifted os started H enc)
theorem proved : Rows.ReplayGoesOnSaid := over
#print axioms proved
end Go.Proofs.YthcmpcekmkioaaaGreat.replayGoesOn
