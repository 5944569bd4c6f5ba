/-
  ReplayEmpty: for every input the law returns true, and each argument reads behind the call as it read before. No condition.
-/
import Derived.Deep.DeepCutAuto
import Derived.Test.YthcmpcekmkioaaaB10
namespace Go.Proofs.Ythcmpcekmkioaaa
open Go.ChangeShapes Go.WideShapes Go.RowKit Go.Deep
def Ev.wf (a : Ev) : Prop := (Lit.int .i64 a.kind).wf = true ∧ (Lit.int .i64 a.day).wf = true ∧ (Lit.int .i64 a.tranche).wf = true ∧ (Lit.int .i64 a.amount).wf = true ∧ (Lit.int .i64 a.ref).wf = true
set_option maxRecDepth 100000 in
theorem open_Ev {H : Type} {enc : TypeId × Value → H} {w : World} {spare : Nat → Bool} {held : Bool} (n : Nat) (cs : List Value) (d : DataW H × List MemPlace) (h : DataW.trod enc Try.prog w 0 spare held n 54 cs = some d) : ∃ a : Ev, cs = a.cells ∧ a.wf := by
 obtain ⟨xs, m, rfl, _, hlen, hxs, hf⟩ := DataW.trod_struct Try.underlying54 h
 have hl : cs.length = 5 := hlen.trans (by kernel_rfl)
 have hx : xs.length = 5 := hxs
 have g0 := hf 0 _ rfl
 rw [show Try.prog.cellsOf _ = 1 from by kernel_rfl, List.getElem?_eq_getElem (show 0 < xs.length by omega)] at g0
 have g1 := hf 1 _ rfl
 rw [show Try.prog.cellsOf _ = 1 from by kernel_rfl, List.getElem?_eq_getElem (show 1 < xs.length by omega)] at g1
 have g2 := hf 2 _ rfl
 rw [show Try.prog.cellsOf _ = 1 from by kernel_rfl, List.getElem?_eq_getElem (show 2 < xs.length by omega)] at g2
 have g3 := hf 3 _ rfl
 rw [show Try.prog.cellsOf _ = 1 from by kernel_rfl, List.getElem?_eq_getElem (show 3 < xs.length by omega)] at g3
 have g4 := hf 4 _ rfl
 rw [show Try.prog.cellsOf _ = 1 from by kernel_rfl, List.getElem?_eq_getElem (show 4 < xs.length by omega)] at g4
 match cs, hl with
 | [c0, c1, c2, c3, c4], _ =>
  obtain ⟨a0, e0, _, w0⟩ := DataW.trod_int Try.underlying3 g0
  simp at e0
  subst e0
  obtain ⟨a1, e1, _, w1⟩ := DataW.trod_int Try.underlying3 g1
  simp at e1
  subst e1
  obtain ⟨a2, e2, _, w2⟩ := DataW.trod_int Try.underlying3 g2
  simp at e2
  subst e2
  obtain ⟨a3, e3, _, w3⟩ := DataW.trod_int Try.underlying2 g3
  simp at e3
  subst e3
  obtain ⟨a4, e4, _, w4⟩ := DataW.trod_int Try.underlying3 g4
  simp at e4
  subst e4
  exact ⟨⟨a0, a1, a2, a3, a4⟩, rfl, w0, w1, w2, w3, w4⟩
def Tn.wf (a : Tn) : Prop := (Lit.int .i64 a.rate).wf = true ∧ True
set_option maxRecDepth 100000 in
theorem open_Tn {H : Type} {enc : TypeId × Value → H} {w : World} {spare : Nat → Bool} {held : Bool} (n : Nat) (cs : List Value) (d : DataW H × List MemPlace) (h : DataW.trod enc Try.prog w 0 spare held n 67 cs = some d) : ∃ a : Tn, cs = a.cells ∧ a.wf := by
 obtain ⟨xs, m, rfl, _, hlen, hxs, hf⟩ := DataW.trod_struct Try.underlying67 h
 have hl : cs.length = 2 := hlen.trans (by kernel_rfl)
 have hx : xs.length = 2 := hxs
 have g0 := hf 0 _ rfl
 rw [show Try.prog.cellsOf _ = 1 from by kernel_rfl, List.getElem?_eq_getElem (show 0 < xs.length by omega)] at g0
 have g1 := hf 1 _ rfl
 rw [show Try.prog.cellsOf _ = 1 from by kernel_rfl, List.getElem?_eq_getElem (show 1 < xs.length by omega)] at g1
 match cs, hl with
 | [c0, c1], _ =>
  obtain ⟨a0, e0, _, w0⟩ := DataW.trod_int Try.underlying2 g0
  simp at e0
  subst e0
  obtain ⟨a1, e1, _⟩ := DataW.trod_bool Try.underlying4 g1
  simp at e1
  subst e1
  exact ⟨⟨a0, a1⟩, rfl, w0, trivial⟩
def Tm.list (t : Tm) (ad : Option Addr) (cap : Nat) : List Value := [.int .i64 t.limit, .slice ad t.trs.length cap, .int .i64 t.cyc, .int .i64 t.due, .int .i64 t.minFixed, .int .i64 t.minPart, .int .i64 t.start]
def Tm.wf (t : Tm) : Prop := (Lit.int .i64 t.limit).wf = true ∧ (Lit.int .i64 t.start).wf = true
set_option maxRecDepth 100000 in
theorem open_Tm {H : Type} {enc : TypeId × Value → H} {w : World} {spare : Nat → Bool} {held : Bool} (n : Nat) (cs : List Value) (d : DataW H × List MemPlace) (h : DataW.trod enc Try.prog w 0 spare held n 24 cs = some d) :
  ∃ (s : Tm) (ad : Option Addr) (cap : Nat), cs = s.list ad cap ∧
   Reads w 2 (.slice ad s.trs.length cap) s.trs.length (s.trs.flatMap Tn.cells) ∧ s.trs.length ≤ maxLen := by
 obtain ⟨xs, m, rfl, _, hlen, hxs, hf⟩ := DataW.trod_struct Try.underlying24 h
 have hl : cs.length = 7 := hlen.trans (by kernel_rfl)
 have hx : xs.length = 7 := hxs
 have g0 := hf 0 _ rfl
 have g1 := hf 1 _ rfl
 have g2 := hf 2 _ rfl
 have g3 := hf 3 _ rfl
 have g4 := hf 4 _ rfl
 have g5 := hf 5 _ rfl
 have g6 := hf 6 _ rfl
 rw [show Try.prog.cellsOf _ = 1 from by kernel_rfl, List.getElem?_eq_getElem (show 0 < xs.length by omega)] at g0
 rw [show Try.prog.cellsOf _ = 1 from by kernel_rfl, List.getElem?_eq_getElem (show 1 < xs.length by omega)] at g1
 rw [show Try.prog.cellsOf _ = 1 from by kernel_rfl, List.getElem?_eq_getElem (show 2 < xs.length by omega)] at g2
 rw [show Try.prog.cellsOf _ = 1 from by kernel_rfl, List.getElem?_eq_getElem (show 3 < xs.length by omega)] at g3
 rw [show Try.prog.cellsOf _ = 1 from by kernel_rfl, List.getElem?_eq_getElem (show 4 < xs.length by omega)] at g4
 rw [show Try.prog.cellsOf _ = 1 from by kernel_rfl, List.getElem?_eq_getElem (show 5 < xs.length by omega)] at g5
 rw [show Try.prog.cellsOf _ = 1 from by kernel_rfl, List.getElem?_eq_getElem (show 6 < xs.length by omega)] at g6
 match cs, hl with
 | [c0, c1, c2, c3, c4, c5, c6], _ =>
  obtain ⟨a0, e0, _, w0⟩ := DataW.trod_int Try.underlying2 g0
  simp at e0
  subst e0
  obtain ⟨ad, len, cap, e4⟩ : ∃ ad len cap, c1 = .slice ad len cap := by
   rcases open_slice Try.underlying22 g1 with ⟨h0, _⟩ | ⟨a, len', cap', m, n, D, Pl, h0, _⟩
   ·simp at h0; exact ⟨_, _, _, h0⟩
   ·simp at h0; exact ⟨_, _, _, h0⟩
  subst e4
  obtain ⟨L, hLl, hr, _, hm⟩ := open_reads (f := Tn.cells) (size := 2) Tn.cells_length (by decide) Try.underlying22 (by kernel_rfl) (fun n cs d hd => open_Tn n cs d hd) g1
  subst hLl
  obtain ⟨a2, e2, _, w2⟩ := DataW.trod_int Try.underlying3 g2
  simp at e2
  subst e2
  obtain ⟨a3, e3, _, w3⟩ := DataW.trod_int Try.underlying3 g3
  simp at e3
  subst e3
  obtain ⟨a4, e4, _, w4⟩ := DataW.trod_int Try.underlying2 g4
  simp at e4
  subst e4
  obtain ⟨a5, e5, _, w5⟩ := DataW.trod_int Try.underlying2 g5
  simp at e5
  subst e5
  obtain ⟨a6, e6, _, w6⟩ := DataW.trod_int Try.underlying3 g6
  simp at e6
  subst e6
  exact ⟨⟨a0, a2, a3, a4, a5, a6, L⟩, ad, cap, rfl, hr, hm⟩
end Go.Proofs.Ythcmpcekmkioaaa
namespace Go.Proofs.Ythcmpcekmkioaaa
open Go.RowKit
def uq (x m : Int) : Int := IntKind.u64.wrap x % m
theorem uq_bd (x : Int) {m : Int} (hm : 0 < m) : 0 ≤ uq x m ∧ uq x m < m := ⟨Int.emod_nonneg _ (by omega), Int.emod_lt_of_pos _ hm⟩
def playTrs (L : List Tn) : List Tn := if ((L.take 8).map fun x => (⟨uq x.rate 3000000, x.grace⟩ : Tn)) = [] then [⟨500000, false⟩] else (L.take 8).map fun x => ⟨uq x.rate 3000000, x.grace⟩
def playT (t : Tm) : Tm := if ({ t with start := 10957 + uq t.start 400 } : Tm).err = 0 then { t with start := 10957 + uq t.start 400 } else ⟨uq t.limit 100000, 1 + uq t.cyc 28, 1 + uq t.due 25, uq t.minFixed 100, uq t.minPart 101, 10957 + uq t.start 400, playTrs t.trs⟩
theorem inB_iff (v a b : Int) : inB v a b = true ↔ a ≤ v ∧ v ≤ b := by simp [inB]
theorem playTrs_ok (L : List Tn) : 1 ≤ (playTrs L).length ∧ (playTrs L).length ≤ 8 ∧ ∀ x ∈ playTrs L, x.okB = true := by
 unfold playTrs
 split
 ·refine ⟨by simp, by simp, fun x hx => ?_⟩
  obtain rfl : x = ⟨500000, false⟩ := by simpa using hx
  rfl
 ·rename_i h
  have hl : ((L.take 8).map fun x => (⟨uq x.rate 3000000, x.grace⟩ : Tn)).length ≠ 0 := fun e => h (List.eq_nil_of_length_eq_zero e)
  have hl2 : ((L.take 8).map fun x => (⟨uq x.rate 3000000, x.grace⟩ : Tn)).length ≤ 8 := by rw [List.length_map, List.length_take]; omega
  refine ⟨by omega, hl2, fun x hx => ?_⟩
  obtain ⟨y, _, rfl⟩ := List.mem_map.1 hx
  have := uq_bd y.rate (m := 3000000) (by decide)
  exact (inB_iff _ _ _).2 ⟨this.1, by show uq y.rate 3000000 ≤ _; omega⟩
theorem playT_ok (t : Tm) : (playT t).err = 0 ∧ 10957 ≤ (playT t).start ∧ (playT t).start ≤ 11356 := by
 have hs := uq_bd t.start (m := 400) (by decide)
 unfold playT
 split
 ·rename_i h
  exact ⟨h, by show 10957 ≤ 10957 + uq t.start 400; omega, by show 10957 + uq t.start 400 ≤ 11356; omega⟩
 ·refine ⟨?_, by show 10957 ≤ 10957 + uq t.start 400; omega, by show 10957 + uq t.start 400 ≤ 11356; omega⟩
  obtain ⟨h1, h2, h3⟩ := playTrs_ok t.trs
  have l := uq_bd t.limit (m := 100000) (by decide)
  have c := uq_bd t.cyc (m := 28) (by decide)
  have d := uq_bd t.due (m := 25) (by decide)
  have f := uq_bd t.minFixed (m := 100) (by decide)
  have p := uq_bd t.minPart (m := 101) (by decide)
  unfold Tm.err
  rw [if_pos]
  simp only [Tm.okB, Bool.and_eq_true, inB_iff, List.all_eq_true]
  refine ⟨⟨⟨?_, ?_⟩, h3⟩, ⟨⟨⟨?_, ?_⟩, ?_⟩, ?_⟩, ?_⟩ <;> constructor <;> omega
def playE (t : Tm) (days : Int) (e : Ev) : Ev := ⟨e.kind, t.start + uq e.day (days + 1), e.tranche, if e.kind = 6 then (uq e.amount 100000000) % 3000000 else uq e.amount 100000000, e.ref⟩
def playL (t : Tm) (days : Int) (n : Nat) : List Ev → List Ev → List Ev
 | [], O => O
 | e :: L, O => if O.length < n then (if evErr t (playE t days e) = 0 then playL t days n L (O ++ [playE t days e]) else playL t days n L O) else O
theorem playL_ok {t : Tm} {days : Int} {n : Nat} (hd : 0 ≤ days) : ∀ (L O : List Ev), (∀ x ∈ O, evErr t x = 0 ∧ x.day ≤ t.start + days) → O.length ≤ n → (∀ x ∈ playL t days n L O, evErr t x = 0 ∧ x.day ≤ t.start + days) ∧ (playL t days n L O).length ≤ n := by
 intro L
 induction L with
 | nil => intro O h hn; exact ⟨h, hn⟩
 | cons e L ih =>
  intro O h hn
  unfold playL
  split
  ·rename_i hlt
   split
   ·rename_i h0
    refine ih _ (fun x hx => ?_) (by rw [List.length_append, List.length_singleton]; omega)
    rcases List.mem_append.1 hx with hx | hx
    ·exact h x hx
    ·obtain rfl : x = playE t days e := by simpa using hx
     refine ⟨h0, ?_⟩
     have := (uq_bd e.day (m := days + 1) (by omega)).2
     show t.start + uq e.day (days + 1) ≤ _
     omega
   ·exact ih _ h hn
  ·exact ⟨h, hn⟩
end Go.Proofs.Ythcmpcekmkioaaa
namespace Go.Proofs.Ythcmpcekmkioaaa
open Go.RowKit
theorem repI_mem {α : Type} {n : Nat} {a x : α} (h : x ∈ List.replicate n a) : x = a := (List.mem_replicate.1 h).2
theorem zip_rep (n : Nat) (r : List Int) (v : Int) : List.zipWith (fun r v => r ++ [v]) (List.replicate n r) (List.replicate n v) = List.replicate n (r ++ [v]) := by
 induction n with
 | zero => rfl
 | succ n ih => simp only [List.replicate_succ, List.zipWith_cons_cons, ih]
theorem dotI_z : ∀ (X Y : List Int), (∀ x ∈ X, x = 0) → dotI X Y = 0 := by
 intro X
 induction X with
 | nil => intro Y _; cases Y <;> rfl
 | cons x X ih =>
  intro Y h
  cases Y with
  | nil => rfl
  | cons y Y => simp only [dotI]; rw [h x (List.mem_cons_self ..), ih Y (fun z hz => h z (List.mem_cons_of_mem _ hz))]; simp
theorem ofR_z {X Y : List Int} (h : ∀ x ∈ X, x = 0) : ofR X Y = (0, 0) := by
 unfold ofR
 rw [dotI_z X Y h]
 rfl
theorem intrO_zero (g : Bool) {r : List Int} (hr : ∀ x ∈ r, x = 0) : ∀ (T : List Tn) (E : List (List Int)), E.length = T.length → intrO g T (List.replicate T.length r) E = some (List.replicate T.length 0) := by
 intro T
 induction T with
 | nil => intro E _; rfl
 | cons x T ih =>
  intro E h
  cases E with
  | nil => simp at h
  | cons y E =>
   have := ih E (by simpa using h)
   simp only [List.length_cons, List.replicate_succ, intrO]
   rw [this]
   split
   ·rfl
   ·rw [ofR_z hr]
    rfl
theorem sum_rep (n : Nat) : sumI (List.replicate n 0) = 0 := by
 induction n with
 | zero => rfl
 | succ n ih => rw [List.replicate_succ, sumI, ih]; rfl
theorem rep_right {n : Nat} (h1 : 1 ≤ n) (h2 : n ≤ 8) : Ps.rightB ⟨List.replicate n 0, 0, 0⟩ = true := by
 have h3 : (List.replicate n (0 : Int)).all moneyP = true := List.all_eq_true.2 fun x hx => by rw [repI_mem hx]; rfl
 simp only [Ps.rightB, scanB, sum_rep, h3, List.length_replicate]
 simp [moneyP, h1, h2]
theorem set_rep (n k : Nat) : (List.replicate n (0 : Int)).set k 0 = List.replicate n 0 := by
 apply List.ext_getElem?
 intro i
 rw [List.getElem?_set]
 split
 ·rename_i h
  subst h
  split
  ·rename_i h2
   rw [List.getElem?_eq_getElem h2]
   simp
  ·rename_i h2
   rw [List.getElem?_eq_none (by omega)]
 ·rfl
theorem bearS_zero (n : Nat) : ∀ k, bearS (List.replicate n 0) ⟨List.replicate n 0, 0, 0⟩ k = ⟨List.replicate n 0, 0, 0⟩ := by
 intro k
 induction k with
 | zero => rfl
 | succ k ih =>
  unfold bearS
  rw [ih]
  have h0 : (List.replicate n (0 : Int)).getD k 0 = 0 := by
   rw [List.getD_eq_getElem?_getD, List.getElem?_replicate]
   split <;> rfl
  have h1 : (List.replicate n (0 : Int)).getD ((k : Int) + 1 - 1).toNat 0 = 0 := by
   rw [List.getD_eq_getElem?_getD, List.getElem?_replicate]
   split <;> rfl
  unfold chargeP
  simp only [h0, h1]
  have hm : minI 0 0 = 0 := rfl
  rw [hm]
  simp only [Int.sub_zero, Int.add_zero, set_rep]
theorem bearR_zero {n : Nat} (h1 : 1 ≤ n) (h2 : n ≤ 8) : bearR ⟨List.replicate n 0, 0, 0⟩ (List.replicate n 0) = (⟨List.replicate n 0, 0, 0⟩, 0) := by
 unfold bearR
 rw [if_pos ⟨rep_right h1 h2, by simp, List.all_eq_true.2 fun x hx => by rw [repI_mem hx]; rfl⟩, List.length_replicate, bearS_zero, if_pos (rep_right h1 h2)]
theorem leastI_zero {mf mp : Int} (hf : 0 ≤ mf) : leastI mf mp 0 = 0 := by
 have := leastI_bd (mf := mf) (mp := mp) (total := 0) (by omega) hf
 omega
def empS (t : Tm) (i : Nat) (fr te : Int) : Stm := ⟨(i : Int) + 1, fr, te, te + t.due, 0, 0, 0, true, lnL (List.replicate t.trs.length 0) (List.replicate t.trs.length 0) (t.trs.map Tn.rate)⟩
theorem empS_lines (t : Tm) (i : Nat) (fr te : Int) : (empS t i fr te).lines.length = t.trs.length := lnL_length _ _ _ (by simp) (by simp) (by simp)
def empP (t : Tm) : Nat → List (Int × Int) → List Stm
 | i, (fr, te) :: x :: S => empS t i fr te :: empP t (i + 1) (x :: S)
 | _, _ => []
theorem empP_length (t : Tm) : ∀ (S : List (Int × Int)) (i : Nat), (empP t i S).length = S.length - 1 := by
 intro S
 induction S with
 | nil => intro i; rfl
 | cons p S ih =>
  intro i
  cases S with
  | nil => rfl
  | cons q S => simp only [empP, List.length_cons, ih]; omega
theorem empP_get (t : Tm) : ∀ (S : List (Int × Int)) (i k : Nat), k + 1 < S.length → ∃ fr te, S[k]? = some (fr, te) ∧ (empP t i S)[k]? = some (empS t (i + k) fr te) := by
 intro S
 induction S with
 | nil => intro i k h; simp at h
 | cons p S ih =>
  intro i k h
  cases S with
  | nil => simp at h
  | cons q S =>
   cases k with
   | zero => exact ⟨p.1, p.2, rfl, rfl⟩
   | succ k =>
    obtain ⟨fr, te, h1, h2⟩ := ih (i + 1) k (by simpa using h)
    exact ⟨fr, te, h1, by rw [show i + (k + 1) = i + 1 + k by omega]; exact h2⟩
theorem free_emp {out : List Stm} (h : ∀ x ∈ out, x.total = 0) (fr : Int) : freeB out fr [] = true := by
 unfold freeB
 split
 ·rfl
 ·rename_i x hx
  have := h x (List.mem_of_getLast? hx)
  unfold hasB
  rw [this]
  rfl
theorem close_emp {t : Tm} (hz : t.err = 0) {day : Int} {r : List Int} {E : List (List Int)} {out : List Stm} (hr : ∀ x ∈ r, x = 0) (hE : E.length = t.trs.length) (ho : ∀ x ∈ out, x.total = 0) (fr te : Int) :
  closeS t [] t.trs.length ⟨0, day, ⟨List.replicate t.trs.length 0, 0, 0⟩, t.trs.map Tn.rate, List.replicate t.trs.length r, E, out⟩ fr te = some ⟨0, day, ⟨List.replicate t.trs.length 0, 0, 0⟩, t.trs.map Tn.rate, List.replicate t.trs.length [], List.replicate t.trs.length [], out ++ [empS t out.length fr te]⟩ := by
 obtain ⟨⟨n1, n8⟩, _, _, _, hf, _, _⟩ := tm_nums hz
 unfold closeS
 simp only
 rw [free_emp ho, intrO_zero true hr _ _ hE]
 simp only [closeR, bearR_zero n1 n8, if_true, sum_rep, leastI_zero hf.1]
 rfl
theorem emp_go {t : Tm} (hz : t.err = 0) : ∀ (d : Nat) (fr te : Int) (S : List (Int × Int)) (day : Int) (r : List Int) (E : List (List Int)) (out : List Stm), SpanC (day + d) fr ((fr, te) :: S) → day ≤ te → (∀ x ∈ r, x = 0) → E.length = t.trs.length → (∀ x ∈ out, x.total = 0) →
  ∃ s, walkD t [] t.trs.length d ((fr, te) :: S) ⟨0, day, ⟨List.replicate t.trs.length 0, 0, 0⟩, t.trs.map Tn.rate, List.replicate t.trs.length r, E, out⟩ = (s, 0) ∧ s.p = ⟨List.replicate t.trs.length 0, 0, 0⟩ ∧ s.R = t.trs.map Tn.rate ∧ s.out = out ++ empP t out.length ((fr, te) :: S) := by
 intro d
 induction d with
 | zero =>
  intro fr te S day r E out hS hte hr hE ho
  refine ⟨_, rfl, rfl, rfl, ?_⟩
  have : S = [] := by
   cases hS with
   | last h1 h2 h3 => rfl
   | more h1 h2 h3 => omega
  subst this
  simp [empP, evSt, evR]
 | succ d ih =>
  intro fr te S day r E out hS hte hr hE ho
  have he0 : extL (List.replicate t.trs.length r) (List.replicate t.trs.length 0) t.trs.length = List.replicate t.trs.length (r ++ [0]) := by
   rw [extL_full (by simp) (by simp), zip_rep]
  have he1 : (extL E (t.trs.map Tn.rate) t.trs.length).length = t.trs.length := by
   rw [extL_full (by simp) hE, List.length_zipWith, hE, List.length_map]; omega
  have hr2 : ∀ x ∈ r ++ [0], x = 0 := fun x hx => by
   rcases List.mem_append.1 hx with h | h
   ·exact hr x h
   ·simpa using h
  unfold walkD
  simp only [List.drop_nil, evR, evSt, endSt, if_true]
  rw [he0]
  obtain ⟨E2, hE2⟩ : ∃ E2, extL E (t.trs.map Tn.rate) t.trs.length = E2 := ⟨_, rfl⟩
  rw [hE2] at he1 ⊢
  by_cases hcl : te = day
  ·rw [if_pos hcl, close_emp hz hr2 he1 ho fr te]
   cases hS with
   | last h1 h2 h3 => omega
   | more h1 h2 h3 =>
    obtain ⟨te', S', rfl, ok', lo', _⟩ := h3.head
    have ho2 : ∀ x ∈ out ++ [empS t out.length fr te], x.total = 0 := fun x hx => by
     rcases List.mem_append.1 hx with h | h
     ·exact ho x h
     ·obtain rfl : x = empS t out.length fr te := by simpa using h
      rfl
    obtain ⟨s, i1, i2, i3, i4⟩ := ih (te + 1) te' S' (day + 1) [] (List.replicate t.trs.length []) (out ++ [empS t out.length fr te]) (by rw [show day + 1 + (d : Int) = day + ((d + 1 : Nat) : Int) by omega]; exact h3) (by have := ok'.le; omega) (by simp) (by simp) ho2
    refine ⟨s, i1, i2, i3, ?_⟩
    rw [i4]
    simp [empP]
  ·rw [if_neg hcl]
   obtain ⟨s, i1, i2, i3, i4⟩ := ih fr te S (day + 1) (r ++ [0]) E2 out (by rw [show day + 1 + (d : Int) = day + ((d + 1 : Nat) : Int) by omega]; exact hS) (by omega) hr2 he1 ho
   exact ⟨s, i1, i2, i3, i4⟩
theorem find_far {cd : Int} (hc : 1 ≤ cd ∧ cd ≤ 28) {day : Int} (hd : day ≤ 100000) : ∀ (f : Nat) (fr : Int), -135140 ≤ fr → fr ≤ day → dD fr = cd → day < fr + 28 * f → (findW cd day f fr).2 = true := by
 intro f
 induction f with
 | zero => intro fr h0 h1 h2 h3; omega
 | succ f ih =>
  intro fr h0 h1 h2 h3
  have hge := lastF_ge (fr := fr) (cd := cd) h0 (by omega) hc.1 hc.2
  have hF : fr + 27 ≤ lastF fr cd := by
   have hi := date_is h0 (by omega : fr ≤ 2932896)
   unfold lastF
   rw [h2, if_pos (by omega)]
   have : 28 ≤ mlen (dY fr) (dM fr) := by
    have m0 := hi.m0
    have m1 := hi.m1
    unfold mlen
    split
    ·split <;> omega
    ·split
     ·omega
     ·rw [if_pos ⟨m0, m1⟩]; omega
   omega
  have he : lastE fr cd = 0 := by
   unfold lastE
   rw [if_neg (by omega), if_neg (by omega), if_neg (by omega)]
  by_cases hl : lastF fr cd < day
  ·have hy := lastF_yes (fr := fr) (cd := cd) h0 (by omega) hc.1 hc.2 (by omega)
   have := ih (lastF fr cd + 1) (by omega) (by omega) hy (by omega)
   rw [findW_go he ⟨hl, by omega⟩]
   exact this
  ·rw [findW_stop he (by omega)]
   simp
   omega
theorem ofE_far {st cd day : Int} (hc : 1 ≤ cd ∧ cd ≤ 28) (h0 : -135140 ≤ st) (h1 : st ≤ day) (h2 : day ≤ 100000) (h3 : day < st + 8000) : ofE st cd day = 0 ∧ (findW cd day 300 st).2 = true := by
 have hge := lastF_ge (fr := st) (cd := cd) h0 (by omega) hc.1 hc.2
 have he : lastE st cd = 0 := by
  unfold lastE
  rw [if_neg (by omega), if_neg (by omega), if_neg (by omega)]
 have hf : (findW cd day 300 st).2 = true := by
  by_cases hl : lastF st cd < day
  ·have hy := lastF_yes (fr := st) (cd := cd) h0 (by omega) hc.1 hc.2 (by omega)
   rw [findW_go he ⟨hl, by omega⟩]
   exact find_far hc h2 299 (lastF st cd + 1) (by omega) (by omega) hy (by omega)
  ·rw [findW_stop he (by omega)]
   simp
   omega
 refine ⟨?_, hf⟩
 unfold ofE
 rw [if_pos he, if_pos hf]
theorem empty_walk {t : Tm} (hz : t.err = 0) (hs0 : 10957 ≤ t.start) (hs1 : t.start ≤ 11356) {d : Nat} (hd : d < 700) :
  ∃ s, walkR t [] (t.start + d) = (s, 0) ∧ s.p = ⟨List.replicate t.trs.length 0, 0, 0⟩ ∧ s.R = t.trs.map Tn.rate ∧ s.out = empP t 0 (allL t.start t.cyc (t.start + d)) ∧ 1 ≤ (allL t.start t.cyc (t.start + d)).length ∧ (allL t.start t.cyc (t.start + d)).length ≤ 300 ∧ ofE t.start t.cyc (t.start + d) = 0 := by
 obtain ⟨_, _, hc, _, _, _, hst⟩ := tm_nums hz
 obtain ⟨ho, hf⟩ := ofE_far (st := t.start) (day := t.start + d) hc (by omega) (by omega) (by omega) (by omega)
 have hr : repErr t [] (t.start + d) = 0 := by
  unfold repErr
  rw [if_pos hz]
  show (if (0 : Int) = 0 then _ else _) = _
  rw [if_pos rfl, if_neg (by simp), if_neg (by omega), ho]
  simp
 obtain ⟨hS, hS2⟩ := find_spans t.cyc (t.start + d) 300 t.start hf
 have hall : allL t.start t.cyc (t.start + d) = (findW t.cyc (t.start + d) 300 t.start).1 := by unfold allL; rw [if_pos hf]
 rw [← hall] at hS hS2
 obtain ⟨te, S', hS', ok, lo, _⟩ := hS.head
 rw [hS'] at hS hS2 ⊢
 obtain ⟨s, i1, i2, i3, i4⟩ := emp_go hz d t.start te S' t.start [] (List.replicate t.trs.length []) [] hS ok.le (by simp) (by simp) (by simp)
 refine ⟨s, ?_, i2, i3, by simpa using i4, by simp, hS2, ho⟩
 unfold walkR
 rw [if_pos hr, hS', show (t.start + (d : Int) - t.start).toNat = d by omega]
 exact i1
end Go.Proofs.Ythcmpcekmkioaaa
namespace Go.Proofs.Ythcmpcekmkioaaa
open Go.RowKit
set_option maxRecDepth 100000 in
set_option maxHeartbeats 3200000 in
theorem rtmRight_big (t : Tm) (ad : Option Addr) (cap : Nat) (w : World) (hr : Reads w 2 (.slice ad t.trs.length cap) t.trs.length (t.trs.flatMap Tn.cells)) (hl : t.trs.length ≤ 9223372036854775807) :
  Calls Try.prog 24 #[t.val (.slice ad t.trs.length cap)] w fun e w' => e = .returned (.int .i64 t.err) ∧ Keeps (fun _ => False) w w' := by
 obtain ⟨li, cy, du, mf, mp, st, L⟩ := t
 simp only [Tm.val] at hr hl ⊢
 obtain ⟨n, hn⟩ : ∃ n, L.length = n := ⟨_, rfl⟩
 have hf0 : Tm.err ⟨li, cy, du, mf, mp, st, L⟩ = if (inB li 0 1000000000000000 && inB (n : Int) 1 8 && L.all Tn.okB && (inB cy 1 28 && inB du 1 25 && inB mf 0 1000000000000000 && inB mp 0 1000 && inB st (-135140) 2922896)) = true then 0 else 6 := by
  simp only [Tm.err, Tm.okB, hn]
 rw [hn] at hr hl ⊢
 obtain ⟨ok0, hok0⟩ : ∃ b, (inB li 0 1000000000000000 && inB (n : Int) 1 8) = b := ⟨_, rfl⟩
 rw [hok0] at hf0
 have hbox := heap_alloc_new w (.cells #[.int .i64 li, .slice ad n cap, .int .i64 cy, .int .i64 du, .int .i64 mf, .int .i64 mp, .int .i64 st] 24)
 obtain ⟨Hr, Hf0, Hn, Hbox⟩ := hid4 hr hf0 hn hbox; clear hbox hn hf0 hr
 go_enter Try.func24, Try.ntmps24
 go_upto_region 1 with (fail)
 go_cut [3] (fun s3 wx => s3 = .bool ok0 ∧ wx = w.alloc (.cells #[.int .i64 li, .slice ad n cap, .int .i64 cy, .int .i64 du, .int .i64 mf, .int .i64 mp, .int .i64 st] 24))
 case first =>
  rcases b1 : inB li 0 1000000000000000 with _ | _
  ·have : ok0 = false := by rw [← hok0, b1]; rfl
   subst this
   obtain ⟨B1, Hok0⟩ := hid2 b1 hok0; clear hok0 b1
   go_wp2_with (go_at_call 38; ((with_reducible refine (rtmWithin_at B1.out _).mono ?_); rintro e w1 ⟨rfl, rfl⟩))
   go_meet
   exact ⟨rfl, rfl⟩
  ·by_cases l1 : n < 1
   ·obtain rfl : n = 0 := by omega
    have : ok0 = false := by rw [← hok0, b1]; rfl
    subst this
    obtain ⟨B1, Hok0⟩ := hid2 b1 hok0; clear hok0 b1
    go_wp2_with (go_at_call 38; ((with_reducible refine (rtmWithin_at B1.out _).mono ?_); rintro e w1 ⟨rfl, rfl⟩))
    go_meet
    exact ⟨rfl, rfl⟩
   ·by_cases l2 : 8 < n
    ·have : ok0 = false := by rw [← hok0, b1]; simp [inB]; omega
     subst this
     have l2' : (8 : Int) < (n : Int) := by omega
     have l1' : (1 : Int) ≤ (n : Int) := by omega
     obtain ⟨B1, Hok0⟩ := hid2 b1 hok0; clear hok0 b1
     go_wp2_with (go_at_call 38; ((with_reducible refine (rtmWithin_at B1.out _).mono ?_); rintro e w1 ⟨rfl, rfl⟩))
     go_meet
     exact ⟨by simp; omega, rfl⟩
    ·have : ok0 = true := by rw [← hok0, b1]; simp [inB]; omega
     subst this
     have l1' : (1 : Int) ≤ (n : Int) := by omega
     have l2' : (n : Int) ≤ 8 := by omega
     obtain ⟨B1, Hok0⟩ := hid2 b1 hok0; clear hok0 b1
     go_wp2_with (go_at_call 38; ((with_reducible refine (rtmWithin_at B1.out _).mono ?_); rintro e w1 ⟨rfl, rfl⟩))
     go_meet
     exact ⟨rfl, rfl⟩
 case rest =>
  obtain ⟨rfl, rfl⟩ := hcut
  clear hok0
  go_wp2_with fail
  go_loopw [3, 4] (fun b c wr => ∃ (j : Nat) (ok : Bool), j ≤ n ∧ c = .int .i64 (j : Nat) ∧ b = .bool ok ∧ ok = (ok0 && (L.take j).all Tn.okB) ∧ Keeps (fun _ => False) w wr ∧ wr.heap[w.heap.size]? = some (.cells #[.int .i64 li, .slice ad n cap, .int .i64 cy, .int .i64 du, .int .i64 mf, .int .i64 mp, .int .i64 st] 24 (0, 0))) (fun _ c _ => n - (intOf c).toNat)
  case atStart => exact ⟨0, ok0, Nat.zero_le _, rfl, rfl, by simp, Keeps.alloc _ _, Hbox.out⟩
  case round =>
   obtain ⟨j, ok, hj, rfl, rfl, hok, hk, hb⟩ := hrel
   have hbl := lt_of_block hb
   have c1 : wr.cell? ⟨w.heap.size, 1, none⟩ = some (.slice ad n cap) := cell_of_cells hb 1
   by_cases hjl : j < n
   ·obtain ⟨⟨xr, xg⟩, hx⟩ := get_some (L := L) (k := j) (by rw [Hn.out]; exact hjl)
    obtain ⟨g, o, c, he, hc⟩ := (Hr.out.keeps hk (by simp)).elem Tn.cells_length hx (by decide)
    simp only [Value.slice.injEq, true_and] at he
    obtain ⟨rfl, rfl⟩ := he
    have x0 : wr.cell? ⟨g, o + j * 2, none⟩ = some (.int .i64 xr) := hc 0 (by decide)
    clear hc
    have hok' : (ok && inB xr 0 10000000) = (ok0 && (L.take (j + 1)).all Tn.okB) := by
     rw [take_snoc' hx, List.all_append, hok]; simp [Tn.okB, Bool.and_assoc]
    cases ok with
    | false =>
     obtain ⟨Hx, Hok, Hk, Hb, Hok'⟩ := hid5 hx hok hk hb hok'; clear hok' hb hk hok hx
     go_wp2_with fail
     go_roundw
     case rel => exact ⟨j + 1, false, by omega, by go_num, rfl, by rw [← Hok'.out]; rfl, Hk.out, Hb.out⟩
     case measure => simp [intOf]; omega
    | true =>
     rcases b3 : inB xr 0 10000000 with _ | _
     ·rw [b3] at hok'
      obtain ⟨Hx, Hok, Hk, Hb, Hok', B3⟩ := hid6 hx hok hk hb hok' b3; clear b3 hok' hb hk hok hx
      go_wp2_with (go_at_call 38; ((with_reducible refine (rtmWithin_at B3.out _).mono ?_); rintro e w1 ⟨rfl, rfl⟩))
      go_roundw
      case rel => exact ⟨j + 1, false, by omega, by go_num, rfl, by rw [← Hok'.out]; rfl, Hk.out, Hb.out⟩
      case measure => simp [intOf]; omega
     ·rw [b3] at hok'
      obtain ⟨Hx, Hok, Hk, Hb, Hok', B3⟩ := hid6 hx hok hk hb hok' b3; clear b3 hok' hb hk hok hx
      go_wp2_with (go_at_call 38; ((with_reducible refine (rtmWithin_at B3.out _).mono ?_); rintro e w1 ⟨rfl, rfl⟩))
      go_roundw
      case rel => exact ⟨j + 1, true, by omega, by go_num, rfl, by rw [← Hok'.out]; rfl, Hk.out, Hb.out⟩
      case measure => simp [intOf]; omega
   ·obtain rfl : j = n := by omega
    rw [List.take_of_length_le (by rw [Hn.out]; exact Nat.le_refl _)] at hok
    have hf1 := Hf0.out
    rw [← hok] at hf1
    have c2 : wr.cell? ⟨w.heap.size, 2, none⟩ = some (.int .i64 cy) := cell_of_cells hb 2
    have c3 : wr.cell? ⟨w.heap.size, 3, none⟩ = some (.int .i64 du) := cell_of_cells hb 3
    have c4 : wr.cell? ⟨w.heap.size, 4, none⟩ = some (.int .i64 mf) := cell_of_cells hb 4
    have c5 : wr.cell? ⟨w.heap.size, 5, none⟩ = some (.int .i64 mp) := cell_of_cells hb 5
    have c6 : wr.cell? ⟨w.heap.size, 6, none⟩ = some (.int .i64 st) := cell_of_cells hb 6
    cases ok with
    | false =>
     have hf : Tm.err ⟨li, cy, du, mf, mp, st, L⟩ = 6 := by rw [hf1]; simp
     obtain ⟨Hok, Hk, Hb, Hf, Hf1⟩ := hid5 hok hk hb hf hf1; clear hf1 hf hb hk hok
     go_wp2_with fail
     go_ret
     exact ⟨by rw [Hf.out]; rfl, Hk.out⟩
    | true =>
     rw [Bool.true_and] at hf1
     rcases bc : inB cy 1 28 with _ | _
     ·have hf : Tm.err ⟨li, cy, du, mf, mp, st, L⟩ = 6 := by rw [hf1, bc]; simp
      obtain ⟨Hok, Hk, Hb, Hf, Hf1, Bc⟩ := hid6 hok hk hb hf hf1 bc; clear bc hf1 hf hb hk hok
      go_wp2_with (go_at_call 38; ((with_reducible refine (rtmWithin_at Bc.out _).mono ?_); rintro e w1 ⟨rfl, rfl⟩))
      go_ret
      exact ⟨by rw [Hf.out]; rfl, Hk.out⟩
     rcases bd : inB du 1 25 with _ | _
     ·have hf : Tm.err ⟨li, cy, du, mf, mp, st, L⟩ = 6 := by rw [hf1, bd]; simp
      obtain ⟨Hok, Hk, Hb, Hf, Hf1, Bc, Bd⟩ := hid7 hok hk hb hf hf1 bc bd; clear bd bc hf1 hf hb hk hok
      go_wp2_with (first | (go_at_call 38; ((with_reducible refine (rtmWithin_at Bc.out _).mono ?_); rintro e w1 ⟨rfl, rfl⟩)) | (go_at_call 38; ((with_reducible refine (rtmWithin_at Bd.out _).mono ?_); rintro e w1 ⟨rfl, rfl⟩)))
      go_ret
      exact ⟨by rw [Hf.out]; rfl, Hk.out⟩
     rcases bf : inB mf 0 1000000000000000 with _ | _
     ·have hf : Tm.err ⟨li, cy, du, mf, mp, st, L⟩ = 6 := by rw [hf1, bf]; simp
      obtain ⟨Hok, Hk, Hb, Hf, Hf1, Bc, Bd, Bf⟩ := hid8 hok hk hb hf hf1 bc bd bf; clear bf bd bc hf1 hf hb hk hok
      go_wp2_with (first | (go_at_call 38; ((with_reducible refine (rtmWithin_at Bc.out _).mono ?_); rintro e w1 ⟨rfl, rfl⟩)) | (go_at_call 38; ((with_reducible refine (rtmWithin_at Bd.out _).mono ?_); rintro e w1 ⟨rfl, rfl⟩)) | (go_at_call 38; ((with_reducible refine (rtmWithin_at Bf.out _).mono ?_); rintro e w1 ⟨rfl, rfl⟩)))
      go_ret
      exact ⟨by rw [Hf.out]; rfl, Hk.out⟩
     rcases bp : inB mp 0 1000 with _ | _
     ·have hf : Tm.err ⟨li, cy, du, mf, mp, st, L⟩ = 6 := by rw [hf1, bp]; simp
      obtain ⟨Hok, Hk, Hb, Hf, Hf1, Bc, Bd, Bf, Bp⟩ := hid9 hok hk hb hf hf1 bc bd bf bp; clear bp bf bd bc hf1 hf hb hk hok
      go_wp2_with (first | (go_at_call 38; ((with_reducible refine (rtmWithin_at Bc.out _).mono ?_); rintro e w1 ⟨rfl, rfl⟩)) | (go_at_call 38; ((with_reducible refine (rtmWithin_at Bd.out _).mono ?_); rintro e w1 ⟨rfl, rfl⟩)) | (go_at_call 38; ((with_reducible refine (rtmWithin_at Bf.out _).mono ?_); rintro e w1 ⟨rfl, rfl⟩)) | (go_at_call 38; ((with_reducible refine (rtmWithin_at Bp.out _).mono ?_); rintro e w1 ⟨rfl, rfl⟩)))
      go_ret
      exact ⟨by rw [Hf.out]; rfl, Hk.out⟩
     rcases bs : inB st (-135140) 2922896 with _ | _
     ·have hf : Tm.err ⟨li, cy, du, mf, mp, st, L⟩ = 6 := by rw [hf1, bs]; simp
      obtain ⟨Hok, Hk, Hb, Hf, Hf1, Bc, Bd, Bf, Bp⟩ := hid9 hok hk hb hf hf1 bc bd bf bp; clear bp bf bd bc hf1 hf hb hk hok; have Bs := Lib.hid bs; clear bs
      go_wp2_with (first | (go_at_call 38; ((with_reducible refine (rtmWithin_at Bc.out _).mono ?_); rintro e w1 ⟨rfl, rfl⟩)) | (go_at_call 38; ((with_reducible refine (rtmWithin_at Bd.out _).mono ?_); rintro e w1 ⟨rfl, rfl⟩)) | (go_at_call 38; ((with_reducible refine (rtmWithin_at Bf.out _).mono ?_); rintro e w1 ⟨rfl, rfl⟩)) | (go_at_call 38; ((with_reducible refine (rtmWithin_at Bp.out _).mono ?_); rintro e w1 ⟨rfl, rfl⟩)) | (go_at_call 38; ((with_reducible refine (rtmWithin_at Bs.out _).mono ?_); rintro e w1 ⟨rfl, rfl⟩)))
      go_ret
      exact ⟨by rw [Hf.out]; rfl, Hk.out⟩
     have hf : Tm.err ⟨li, cy, du, mf, mp, st, L⟩ = 0 := by rw [hf1, bc, bd, bf, bp, bs]; simp
     obtain ⟨Hok, Hk, Hb, Hf, Hf1, Bc, Bd, Bf, Bp⟩ := hid9 hok hk hb hf hf1 bc bd bf bp; clear bp bf bd bc hf1 hf hb hk hok; have Bs := Lib.hid bs; clear bs
     go_wp2_with (first | (go_at_call 38; ((with_reducible refine (rtmWithin_at Bc.out _).mono ?_); rintro e w1 ⟨rfl, rfl⟩)) | (go_at_call 38; ((with_reducible refine (rtmWithin_at Bd.out _).mono ?_); rintro e w1 ⟨rfl, rfl⟩)) | (go_at_call 38; ((with_reducible refine (rtmWithin_at Bf.out _).mono ?_); rintro e w1 ⟨rfl, rfl⟩)) | (go_at_call 38; ((with_reducible refine (rtmWithin_at Bp.out _).mono ?_); rintro e w1 ⟨rfl, rfl⟩)) | (go_at_call 38; ((with_reducible refine (rtmWithin_at Bs.out _).mono ?_); rintro e w1 ⟨rfl, rfl⟩)))
     go_ret
     exact ⟨by rw [Hf.out]; rfl, Hk.out⟩
theorem rtmRight_bigAt (t : Tm) (v : Value) (w : World) {z : Int} (hz : t.err = z) (hr : Reads w 2 v t.trs.length (t.trs.flatMap Tn.cells)) (hl : t.trs.length ≤ 9223372036854775807) :
  Calls Try.prog 24 #[.agg #[.int .i64 t.limit, v, .int .i64 t.cyc, .int .i64 t.due, .int .i64 t.minFixed, .int .i64 t.minPart, .int .i64 t.start]] w fun e w' => e = .returned (.int .i64 z) ∧ Keeps (fun _ => False) w w' := by
 have hr' := hr
 obtain ⟨ad, c, rfl, _⟩ := hr'
 subst hz
 exact rtmRight_big t ad c w hr hl
end Go.Proofs.Ythcmpcekmkioaaa
namespace Go.Proofs.Ythcmpcekmkioaaa
open Go.RowKit
theorem info_tTr : (Try.prog.info? 67).map (fun i => (i.zero, i.size, i.bytes)) = some (some (.agg #[.int .i64 0, .bool false]), 2, 16) := by kernel_rfl
theorem store7 {W : World} {R : Nat} {t : TypeId} {a0 a1 a2 a3 a4 a5 a6 : Value} (h : W.heap[R]? = some (.cells #[a0, a1, a2, a3, a4, a5, a6] t (0, 0))) (v0 v1 v2 v3 v4 v5 v6 : Value) :
  (((((((W.setCell ⟨R, 0, none⟩ v0).setCell ⟨R, 1, none⟩ v1).setCell ⟨R, 2, none⟩ v2).setCell ⟨R, 3, none⟩ v3).setCell ⟨R, 4, none⟩ v4).setCell ⟨R, 5, none⟩ v5).setCell ⟨R, 6, none⟩ v6).heap[R]? = some (.cells #[v0, v1, v2, v3, v4, v5, v6] t (0, 0)) ∧ Keeps (fun i => i = R) W (((((((W.setCell ⟨R, 0, none⟩ v0).setCell ⟨R, 1, none⟩ v1).setCell ⟨R, 2, none⟩ v2).setCell ⟨R, 3, none⟩ v3).setCell ⟨R, 4, none⟩ v4).setCell ⟨R, 5, none⟩ v5).setCell ⟨R, 6, none⟩ v6) := by
 have h0 : (W.setCell ⟨R, 0, none⟩ v0).heap[R]? = some (.cells #[v0, a1, a2, a3, a4, a5, a6] t (0, 0)) := (heap_setCell_same _ _ 0 _ _ _ h).trans rfl
 have h1 : ((W.setCell ⟨R, 0, none⟩ v0).setCell ⟨R, 1, none⟩ v1).heap[R]? = some (.cells #[v0, v1, a2, a3, a4, a5, a6] t (0, 0)) := (heap_setCell_same _ _ 1 _ _ _ h0).trans rfl
 have h2 : (((W.setCell ⟨R, 0, none⟩ v0).setCell ⟨R, 1, none⟩ v1).setCell ⟨R, 2, none⟩ v2).heap[R]? = some (.cells #[v0, v1, v2, a3, a4, a5, a6] t (0, 0)) := (heap_setCell_same _ _ 2 _ _ _ h1).trans rfl
 have h3 : ((((W.setCell ⟨R, 0, none⟩ v0).setCell ⟨R, 1, none⟩ v1).setCell ⟨R, 2, none⟩ v2).setCell ⟨R, 3, none⟩ v3).heap[R]? = some (.cells #[v0, v1, v2, v3, a4, a5, a6] t (0, 0)) := (heap_setCell_same _ _ 3 _ _ _ h2).trans rfl
 have h4 : (((((W.setCell ⟨R, 0, none⟩ v0).setCell ⟨R, 1, none⟩ v1).setCell ⟨R, 2, none⟩ v2).setCell ⟨R, 3, none⟩ v3).setCell ⟨R, 4, none⟩ v4).heap[R]? = some (.cells #[v0, v1, v2, v3, v4, a5, a6] t (0, 0)) := (heap_setCell_same _ _ 4 _ _ _ h3).trans rfl
 have h5 : ((((((W.setCell ⟨R, 0, none⟩ v0).setCell ⟨R, 1, none⟩ v1).setCell ⟨R, 2, none⟩ v2).setCell ⟨R, 3, none⟩ v3).setCell ⟨R, 4, none⟩ v4).setCell ⟨R, 5, none⟩ v5).heap[R]? = some (.cells #[v0, v1, v2, v3, v4, v5, a6] t (0, 0)) := (heap_setCell_same _ _ 5 _ _ _ h4).trans rfl
 have h6 : (((((((W.setCell ⟨R, 0, none⟩ v0).setCell ⟨R, 1, none⟩ v1).setCell ⟨R, 2, none⟩ v2).setCell ⟨R, 3, none⟩ v3).setCell ⟨R, 4, none⟩ v4).setCell ⟨R, 5, none⟩ v5).setCell ⟨R, 6, none⟩ v6).heap[R]? = some (.cells #[v0, v1, v2, v3, v4, v5, v6] t (0, 0)) := (heap_setCell_same _ _ 6 _ _ _ h5).trans rfl
 have k0 : Keeps (fun i => i = R) W (W.setCell ⟨R, 0, none⟩ v0) := Keeps.setCell _ _ _ rfl
 have k1 := k0.trans (Keeps.setCell (S := fun j => j = R ∨ W.heap.size ≤ j) (W.setCell ⟨R, 0, none⟩ v0) ⟨R, 1, none⟩ v1 (.inl rfl))
 have k2 := k1.trans (Keeps.setCell (S := fun j => j = R ∨ W.heap.size ≤ j) ((W.setCell ⟨R, 0, none⟩ v0).setCell ⟨R, 1, none⟩ v1) ⟨R, 2, none⟩ v2 (.inl rfl))
 have k3 := k2.trans (Keeps.setCell (S := fun j => j = R ∨ W.heap.size ≤ j) (((W.setCell ⟨R, 0, none⟩ v0).setCell ⟨R, 1, none⟩ v1).setCell ⟨R, 2, none⟩ v2) ⟨R, 3, none⟩ v3 (.inl rfl))
 have k4 := k3.trans (Keeps.setCell (S := fun j => j = R ∨ W.heap.size ≤ j) ((((W.setCell ⟨R, 0, none⟩ v0).setCell ⟨R, 1, none⟩ v1).setCell ⟨R, 2, none⟩ v2).setCell ⟨R, 3, none⟩ v3) ⟨R, 4, none⟩ v4 (.inl rfl))
 have k5 := k4.trans (Keeps.setCell (S := fun j => j = R ∨ W.heap.size ≤ j) (((((W.setCell ⟨R, 0, none⟩ v0).setCell ⟨R, 1, none⟩ v1).setCell ⟨R, 2, none⟩ v2).setCell ⟨R, 3, none⟩ v3).setCell ⟨R, 4, none⟩ v4) ⟨R, 5, none⟩ v5 (.inl rfl))
 have k6 := k5.trans (Keeps.setCell (S := fun j => j = R ∨ W.heap.size ≤ j) ((((((W.setCell ⟨R, 0, none⟩ v0).setCell ⟨R, 1, none⟩ v1).setCell ⟨R, 2, none⟩ v2).setCell ⟨R, 3, none⟩ v3).setCell ⟨R, 4, none⟩ v4).setCell ⟨R, 5, none⟩ v5) ⟨R, 6, none⟩ v6 (.inl rfl))
 exact ⟨h6, k6⟩
def pF (x : Tn) : Tn := ⟨uq x.rate 3000000, x.grace⟩
structure PtAt (w2 : World) (B b3 : Nat) (E0 E2 : Array Value) (l c d f p st : Int) (L : List Tn) (i : Nat) (v : Value) (wx : World) : Prop where
 h0 : wx.heap[B]? = some (.cells E0 24 (0, 0))
 h2 : wx.heap[B + 1]? = some (.cells E2 24 (0, 0))
 h3 : wx.heap[b3]? = some (.cells #[.int .i64 l, v, .int .i64 c, .int .i64 d, .int .i64 f, .int .i64 p, .int .i64 st] 24 (0, 0))
 row : wx.ownsRow 0 67 2 v i (((L.take i).map pF).flatMap Tn.cells)
 nw : ∀ g, v.ownBlock = some g → w2.heap.size ≤ g
 kp : Keeps (fun i => i = b3) w2 wx
theorem PtAt.app {w2 : World} {B b3 : Nat} {E0 E2 : Array Value} {l c d f p st : Int} {L : List Tn} {i : Nat} {v v9 : Value} {wx w8 w9 : World} {x : Tn} (h : PtAt w2 B b3 E0 E2 l c d f p st L i v wx) (hB : ¬ B = b3) (hB1 : ¬ B + 1 = b3) (hx : L[i]? = some x) (hk8 : Keeps (fun _ => False) wx w8) (hr : w9.ownsRow 0 67 2 v9 (i + 1) (((L.take i).map pF).flatMap Tn.cells ++ (pF x).cells))
  (hk : Keeps (fun k => v.ownBlock = some k) w8 w9) (hf : v9.ownBlock = v.ownBlock ∨ ∃ g, v9.ownBlock = some g ∧ w8.heap.size ≤ g) : PtAt w2 B b3 E0 E2 l c d f p st L (i + 1) v9 (w9.setCell ⟨b3, 1, none⟩ v9) := by
 have hv : ∀ {b : Nat} {cs : Array Value}, wx.heap[b]? = some (.cells cs 24 (0, 0)) → ¬ v.ownBlock = some b := fun hb => ownsRow_ne h.row hb (by decide)
 have kb : Keeps (fun i => i = b3) w9 (w9.setCell ⟨b3, 1, none⟩ v9) := Keeps.setCell _ _ _ rfl
 have c0 := box_old (box_old (box_old h.h0 hk8 (by simp)) hk (hv h.h0)) kb hB
 have c2 := box_old (box_old (box_old h.h2 hk8 (by simp)) hk (hv h.h2)) kb hB1
 have c3 := box_old (box_old h.h3 hk8 (by simp)) hk (hv h.h3)
 have hne : ∀ k, v9.ownBlock = some k → ¬ k = b3 := fun k hk' e => by
  subst e
  exact ownsRow_ne hr c3 (by decide) hk'
 refine ⟨c0, c2, (heap_setCell_same _ _ 1 _ _ _ c3).trans rfl, ?_, ?_, ?_⟩
 ·rw [take_snoc' hx, List.map_append, List.flatMap_append]
  simpa using kb.row hr hne
 ·intro g hg
  rcases hf with e | ⟨g', e1, e2⟩
  ·rw [e] at hg; exact h.nw g hg
  ·rw [e1] at hg; injection hg with hg; have := h.kp.size; have := hk8.size; omega
 ·exact ((h.kp.trans (hk8.mono (by simp))).trans (hk.mono fun i _ e => .inr (h.nw i e))).trans (kb.mono fun i _ e => .inl e)
def pt8 (b3 B : Nat) (v vs : Value) (g o : Nat) (r : Int) (gr : Bool) (W : World) : Prop := W.cell? ⟨b3, 1, none⟩ = some v ∧ W.cell? ⟨B, 1, none⟩ = some vs ∧ W.cell? ⟨g, o, none⟩ = some (.int .i64 r) ∧ W.cell? ⟨g, o + 1, none⟩ = some (.bool gr)
theorem pt8.keep {b3 B : Nat} {v vs : Value} {g o : Nat} {r : Int} {gr : Bool} {W W' : World} {S : Nat → Prop} (h : pt8 b3 B v vs g o r gr W) (hk : Keeps S W W') (h1 : ¬ S b3) (h2 : ¬ S B) (h3 : ¬ S g) : pt8 b3 B v vs g o r gr W' :=
 ⟨(hk.cell (cell_lt h.1) h1).trans h.1, (hk.cell (cell_lt h.2.1) h2).trans h.2.1, (hk.cell (cell_lt h.2.2.1) h3).trans h.2.2.1, (hk.cell (cell_lt h.2.2.2) h3).trans h.2.2.2⟩
set_option maxRecDepth 100000 in
set_option maxHeartbeats 1600000 in
theorem playTerms_any (t : Tm) (adt : Option Addr) (ct n : Nat) (w : World) (hn : t.trs.length = n) (htr : Reads w 2 (.slice adt n ct) n (t.trs.flatMap Tn.cells)) (htl : n ≤ 9223372036854775807) :
  Calls Try.prog 12 #[.agg #[.int .i64 t.limit, .slice adt n ct, .int .i64 t.cyc, .int .i64 t.due, .int .i64 t.minFixed, .int .i64 t.minPart, .int .i64 t.start]] w fun e w' => ∃ v, e = .returned (.agg #[.int .i64 (playT t).limit, v, .int .i64 (playT t).cyc, .int .i64 (playT t).due, .int .i64 (playT t).minFixed, .int .i64 (playT t).minPart, .int .i64 (playT t).start]) ∧ Reads w' 2 v (playT t).trs.length ((playT t).trs.flatMap Tn.cells) ∧ Keeps (fun _ => False) w w' ∧ (v = .slice adt n ct ∨ ∀ g, v.ownBlock = some g → w.heap.size ≤ g) := by
 obtain ⟨i0, hi, hi0, hi1, hi2⟩ := info_parts info_tTr
 obtain ⟨q, hq⟩ : ∃ q, uq t.start 400 = q := ⟨_, rfl⟩
 have hu0 : ∀ x, 0 ≤ IntKind.u64.wrap x := fun x => by rw [IntKind.wrap_u64]; omega
 have hqt : (IntKind.u64.wrap t.start).tmod 400 = q := by rw [Int.tmod_eq_emod_of_nonneg (hu0 _)]; exact hq
 obtain ⟨q0, q1⟩ := uq_bd t.start (m := 400) (by decide)
 rw [hq] at q0 q1
 have hrt := fun W (hW : Keeps (fun _ => False) w W) => rtmRight_bigAt { t with start := 10957 + q } (.slice adt n ct) W rfl (by rw [← hn] at *; exact htr.keeps hW (by simp)) (by rw [← hn] at htl; exact htl)
 obtain ⟨E, hE⟩ : ∃ E, ({ t with start := 10957 + q } : Tm).err = E := ⟨_, rfl⟩
 rw [hE] at hrt
 have hE2 := Tm.err_or { t with start := 10957 + q }
 rw [hE] at hE2
 dsimp only at hrt
 obtain ⟨Z, hZ⟩ : ∃ Z, playT t = Z := ⟨_, rfl⟩
 have hZ2 := hZ
 unfold playT at hZ2
 rw [hq, hE] at hZ2
 rw [hZ]
 obtain ⟨Hi, Hi0, Hi1, Hi2, Hq, Hrt, HE, HZ, Hu0⟩ := hid9 hi hi0 hi1 hi2 hq hrt hE hZ hu0; clear hu0 hZ hE hrt hq hi2 hi1 hi0 hi; obtain ⟨Htr, Hn, HZ2⟩ := hid3 htr hn hZ2; clear hZ2 hn htr
 go_enter Try.func12, Try.ntmps12
 go_wp2_with fail
 refine (Hrt.out _ (by (repeat (first | exact Keeps.refl _ _ | exact Keeps.alloc _ _ | exact Keeps.drew _ | exact Keeps.drewN _ _ | refine Keeps.trans_drew ?_ | refine Keeps.trans_drewN ?_ | refine Keeps.trans_alloc ?_)))).mono ?_
 rintro e w1 ⟨rfl, hk1⟩
 have hb0 := box_old (box_alloc (heap_alloc_new w _) _) hk1 (by simp)
 have hb2 := box_new hk1 (by simp)
 rw [World.size_alloc] at hb2
 have hk0 : Keeps (fun _ => False) w w1 := Keeps.nt (by (repeat (first | exact Keeps.refl _ _ | exact Keeps.alloc _ _ | exact Keeps.drew _ | exact Keeps.drewN _ _ | refine Keeps.trans_drew ?_ | refine Keeps.trans_drewN ?_ | refine Keeps.trans_alloc ?_))) hk1
 clear hk1
 rcases hE2 with rfl | rfl
 ·have hZ3 := HZ2.out
  rw [if_pos rfl] at hZ3
  have t0 := cell_of_cells (hb0) 0
  have t1 := cell_of_cells (hb0) 1
  have t2 := cell_of_cells (hb0) 2
  have t3 := cell_of_cells (hb0) 3
  have t4 := cell_of_cells (hb0) 4
  have t5 := cell_of_cells (hb0) 5
  have t6 := cell_of_cells (hb0) 6
  have tl := lt_of_block (hb0)
  have s0 := cell_of_cells (hb2) 0
  have s1 := cell_of_cells (hb2) 1
  have s2 := cell_of_cells (hb2) 2
  have s3 := cell_of_cells (hb2) 3
  have s4 := cell_of_cells (hb2) 4
  have s5 := cell_of_cells (hb2) 5
  have s6 := cell_of_cells (hb2) 6
  have sl := lt_of_block (hb2)
  have f0 := free_of_cells (hb2) 0
  have f1 := free_of_cells (hb2) 1
  have f2 := free_of_cells (hb2) 2
  have f3 := free_of_cells (hb2) 3
  have f4 := free_of_cells (hb2) 4
  have f5 := free_of_cells (hb2) 5
  have f6 := free_of_cells (hb2) 6
  obtain ⟨hb3, hk3⟩ := store7 hb2 (.int .i64 t.limit) (.slice adt n ct) (.int .i64 t.cyc) (.int .i64 t.due) (.int .i64 t.minFixed) (.int .i64 t.minPart) (.int .i64 (10957 + q))
  have hkz := hk0.trans (hk3.mono fun i _ e => .inr (by have e' : i = w.heap.size + 1 := e; omega))
  have hrz : ∀ W, Keeps (fun _ => False) w W → Reads W 2 (.slice adt n ct) Z.trs.length (Z.trs.flatMap Tn.cells) := fun W hW => by rw [← hZ3]; show Reads W 2 _ t.trs.length (t.trs.flatMap Tn.cells); rw [Hn.out]; exact Htr.out.keeps hW (by simp)
  obtain ⟨Hb0, Hb2, Hk0, HZ3, Hb3, Hk3, Hkz, Hrz⟩ := hid8 hb0 hb2 hk0 hZ3 hb3 hk3 hkz hrz; clear hrz hkz hk3 hb3 hZ3 hk0 hb2 hb0
  go_wp2
  clear s0 s1 s2 s3 s4 s5 s6
  have r0 := cell_of_cells (Hb3.out) 0
  have r1 := cell_of_cells (Hb3.out) 1
  have r2 := cell_of_cells (Hb3.out) 2
  have r3 := cell_of_cells (Hb3.out) 3
  have r4 := cell_of_cells (Hb3.out) 4
  have r5 := cell_of_cells (Hb3.out) 5
  have r6 := cell_of_cells (Hb3.out) 6
  exact bodyPost_ret (v := .agg #[.int .i64 (t.limit), .slice adt n ct, .int .i64 (t.cyc), .int .i64 (t.due), .int .i64 (t.minFixed), .int .i64 (t.minPart), .int .i64 (10957 + q)]) (by simp [results, Try.results12, go_sem, r0, r1, r2, r3, r4, r5, r6]) rfl ⟨.slice adt n ct, by rw [← HZ3.out], Hrz.out _ Hkz.out, Hkz.out, .inl rfl⟩
 ·have hZ3 := HZ2.out
  rw [if_neg (by decide)] at hZ3
  obtain ⟨ul, hul⟩ : ∃ z, uq t.limit 100000 = z := ⟨_, rfl⟩
  have tul : (IntKind.u64.wrap t.limit).tmod 100000 = ul := by rw [Int.tmod_eq_emod_of_nonneg (Hu0.out _)]; exact hul
  have bul := uq_bd t.limit (m := 100000) (by decide)
  rw [hul] at bul
  obtain ⟨bul0, bul1⟩ := bul
  obtain ⟨uc, huc⟩ : ∃ z, uq t.cyc 28 = z := ⟨_, rfl⟩
  have tuc : (IntKind.u64.wrap t.cyc).tmod 28 = uc := by rw [Int.tmod_eq_emod_of_nonneg (Hu0.out _)]; exact huc
  have buc := uq_bd t.cyc (m := 28) (by decide)
  rw [huc] at buc
  obtain ⟨buc0, buc1⟩ := buc
  obtain ⟨ud, hud⟩ : ∃ z, uq t.due 25 = z := ⟨_, rfl⟩
  have tud : (IntKind.u64.wrap t.due).tmod 25 = ud := by rw [Int.tmod_eq_emod_of_nonneg (Hu0.out _)]; exact hud
  have bud := uq_bd t.due (m := 25) (by decide)
  rw [hud] at bud
  obtain ⟨bud0, bud1⟩ := bud
  obtain ⟨uf, huf⟩ : ∃ z, uq t.minFixed 100 = z := ⟨_, rfl⟩
  have tuf : (IntKind.u64.wrap t.minFixed).tmod 100 = uf := by rw [Int.tmod_eq_emod_of_nonneg (Hu0.out _)]; exact huf
  have buf := uq_bd t.minFixed (m := 100) (by decide)
  rw [huf] at buf
  obtain ⟨buf0, buf1⟩ := buf
  obtain ⟨up, hup⟩ : ∃ z, uq t.minPart 101 = z := ⟨_, rfl⟩
  have tup : (IntKind.u64.wrap t.minPart).tmod 101 = up := by rw [Int.tmod_eq_emod_of_nonneg (Hu0.out _)]; exact hup
  have bup := uq_bd t.minPart (m := 101) (by decide)
  rw [hup] at bup
  obtain ⟨bup0, bup1⟩ := bup
  rw [hul, huc, hud, huf, hup] at hZ3
  obtain ⟨B, hBe⟩ : ∃ x, x = w.heap.size := ⟨_, rfl⟩
  obtain ⟨b3, hb3e⟩ : ∃ x, x = w1.heap.size := ⟨_, rfl⟩
  have hs0 : B + 1 < b3 := by rw [hBe, hb3e]; exact lt_of_block hb2
  rw [← hBe] at hb0 hb2
  obtain ⟨w2, hw2⟩ : ∃ x, x = w1.alloc (.cells #[.int .i64 ul, .slice none 0 0, .int .i64 (1 + uc), .int .i64 (1 + ud), .int .i64 uf, .int .i64 up, .int .i64 (10957 + q)] 24) := ⟨_, rfl⟩
  have hst : PtAt w2 B b3 #[.int .i64 t.limit, .slice adt n ct, .int .i64 t.cyc, .int .i64 t.due, .int .i64 t.minFixed, .int .i64 t.minPart, .int .i64 (10957 + q)] #[.int .i64 0, .slice none 0 0, .int .i64 0, .int .i64 0, .int .i64 0, .int .i64 0, .int .i64 0] ul (1 + uc) (1 + ud) uf up (10957 + q) t.trs 0 (.slice none 0 0) w2 :=
   ⟨by rw [hw2]; exact box_alloc hb0 _, by rw [hw2]; exact box_alloc hb2 _, by rw [hw2, hb3e]; exact heap_alloc_new w1 _, World.ownsRow_nil _ _ _ _, by simp [Value.ownBlock], Keeps.refl _ _⟩
  have hk2 : Keeps (fun _ => False) w w2 := by rw [hw2]; exact hk0.nt (Keeps.alloc _ _)
  have hb3w : w.heap.size ≤ b3 := by rw [← hBe]; omega
  have hb3s : b3 < w2.heap.size := lt_of_block hst.h3
  rw [← hBe]
  have t0 := cell_of_cells (hb0) 0
  have t1 := cell_of_cells (hb0) 1
  have t2 := cell_of_cells (hb0) 2
  have t3 := cell_of_cells (hb0) 3
  have t4 := cell_of_cells (hb0) 4
  have t5 := cell_of_cells (hb0) 5
  have t6 := cell_of_cells (hb0) 6
  have tl := lt_of_block (hb0)
  obtain ⟨Hb0, Hb2, Hk0, HZ3, Hul, Huc, Hud, Huf, Hup⟩ := hid9 hb0 hb2 hk0 hZ3 hul huc hud huf hup; clear hup huf hud huc hul hZ3 hk0 hb2 hb0; obtain ⟨Hst, Hk2, HBe, Hs0, Hb3w, Hb3s⟩ := hid6 hst hk2 hBe hs0 hb3w hb3s; clear hb3s hb3w hs0 hBe hk2 hst
  go_wp2
  rw [← hw2]
  clear hw2 t0 t1 t2 t3 t4 t5 t6 tl
  rw [← hb3e]
  clear hb3e
  go_loopw [4] (fun x wx => ∃ (i : Nat) (v : Value), x = .int .i64 (i : Nat) ∧ i ≤ n ∧ i ≤ 8 ∧ PtAt w2 B b3 #[.int .i64 t.limit, .slice adt n ct, .int .i64 t.cyc, .int .i64 t.due, .int .i64 t.minFixed, .int .i64 t.minPart, .int .i64 (10957 + q)] #[.int .i64 0, .slice none 0 0, .int .i64 0, .int .i64 0, .int .i64 0, .int .i64 0, .int .i64 0] ul (1 + uc) (1 + ud) uf up (10957 + q) t.trs i v wx) (fun x _ => 8 - (intOf x).toNat)
  case atStart => exact ⟨0, _, rfl, Nat.zero_le _, Nat.zero_le _, Hst.out⟩
  case round =>
   obtain ⟨i, v, rfl, hin, hi8, hat⟩ := hrel
   obtain ⟨wq, hwq⟩ : ∃ x, x = wr := ⟨_, rfl⟩
   subst hwq
   obtain ⟨av, cv, rfl⟩ : ∃ a c, v = .slice a i c := by obtain ⟨a, c, h, _⟩ := ownsRow_shape hat.row; exact ⟨a, c, h⟩
   have hkq : Keeps (fun _ => False) w wq := Hk2.out.trans (hat.kp.mono fun i _ e => .inr (by have e' : i = b3 := e; have := Hb3w.out; omega))
   by_cases hlt : i < n ∧ i < 8
   ·have hltI : (i : Int) < (n : Int) := by omega
    have hlt8 : (i : Int) < 8 := by omega
    obtain ⟨x, hx⟩ := get_some (L := t.trs) (k := i) (by rw [Hn.out]; exact hlt.1)
    obtain ⟨g, o, c', he, hc⟩ := (Htr.out.keeps hkq (by simp)).elem Tn.cells_length hx (by decide)
    simp only [Value.slice.injEq, true_and] at he
    obtain ⟨rfl, rfl⟩ := he
    obtain ⟨xr, xg⟩ := x
    have x0 : wq.cell? ⟨g, o + i * 2, none⟩ = some (.int .i64 xr) := hc 0 (by decide)
    have x1 : wq.cell? ⟨g, o + i * 2 + 1, none⟩ = some (.bool xg) := hc 1 (by decide)
    clear hc
    obtain ⟨ur, hur⟩ : ∃ z, uq xr 3000000 = z := ⟨_, rfl⟩
    have tur : (IntKind.u64.wrap xr).tmod 3000000 = ur := by rw [Int.tmod_eq_emod_of_nonneg (Hu0.out _)]; exact hur
    have bur := uq_bd xr (m := 3000000) (by decide)
    rw [hur] at bur
    obtain ⟨bur0, bur1⟩ := bur
    have hwr : IntKind.i64.wrap ur = ur := by rw [IntKind.wrap_i64]; omega
    have hS : pt8 b3 B (.slice av i cv) (.slice (some ⟨g, o, none⟩) n ct) g (o + i * 2) xr xg wq.drew := (show pt8 b3 B (.slice av i cv) (.slice (some ⟨g, o, none⟩) n ct) g (o + i * 2) xr xg wq from ⟨cell_of_cells hat.h3 1, cell_of_cells hat.h0 1, x0, x1⟩).keep (S := fun _ => False) (Keeps.drew _) (by simp) (by simp) (by simp)
    have hne3 : ¬ (Value.slice av i cv).ownBlock = some b3 := ownsRow_ne hat.row hat.h3 (by decide)
    have hneB : ¬ (Value.slice av i cv).ownBlock = some B := ownsRow_ne hat.row hat.h0 (by decide)
    have hneg : ¬ (Value.slice av i cv).ownBlock = some g := fun e => by
     have h1 := hat.nw g e
     have h2 := Htr.out.lt (fun e => by rw [List.flatMap_eq_nil_iff] at e; have := e _ (List.mem_of_getElem? hx); simp [Tn.cells] at this)
     obtain ⟨g', e1, e2⟩ := h2
     simp only [Value.ownBlock, Option.some.injEq] at e1
     have := Hk2.out.size
     omega
    have hbB := lt_of_block hat.h0
    have hb3q := lt_of_block hat.h3
    have hgl := cell_lt x0
    have c01 := cell_of_cells hat.h0 1
    obtain ⟨Hat, Hkq, Hx, Hur, HS, Hlt⟩ := hid6 hat hkq hx hur hS hlt; clear hlt hS hur hx hkq hat
    go_wp2_with fail
    clear x0 x1 c01
    refine wp_region_mixz (pt8 b3 B (.slice av i cv) (.slice (some ⟨g, o, none⟩) n ct) g (o + i * 2) xr xg) 21 (.take 0 (.take 1 (.take 2 (.take 3 (.take 4 (.take 5 (.take 6 (.take 7 (.take 8 (.take 9 (.take 10 (.take 11 (.take 12 (.take 13 (.take 14 (.take 15 (.take 16 (.take 17 (.move 18 (.move 19 (.take 20 (.move 21 .done)))))))))))))))))))))) (by kernel_rfl) (by kernel_rfl) ?_ ?_
    ·exact HS.out
    intro w8 hs8 hk8
    repeat (first
     | (refine mix_skip rfl (by rfl) ?_; try simp only [Act.put, List.setIfInBounds_toArray, List.set_cons_zero, List.set_cons_succ])
     | (refine mix_skipm rfl (by rfl) ?_; try simp only [Act.put, List.setIfInBounds_toArray, List.set_cons_zero, List.set_cons_succ])
     | (refine mix_take (v := ?_) rfl (by rfl) ?_ ?_; rotate_left; (· intro w' hSw; unfold pt8 at hSw; go_simp; (try with_reducible rfl)); rotate_right; try simp only [Act.put, List.setIfInBounds_toArray, List.set_cons_zero, List.set_cons_succ]))
    refine mix_move rfl (fun K hK => ?_)
    go_simp
    refine hK.out _ _ (by exact hs8.keep (S := fun _ => False) (Keeps.alloc _ _) (by simp) (by simp) (by simp)) ?_
    clear hK K
    try simp only [Act.put, List.setIfInBounds_toArray, List.set_cons_zero, List.set_cons_succ]
    have hk8a := hk8.nt (Keeps.alloc w8 (.cells #[.int .i64 ur, .bool xg] 67))
    have hrow8 := Hat.out.row.of_keeps hk8a
    refine mix_move rfl (fun K hK => ?_)
    refine step_append_row rfl (.tmp 58) (.tmp 75) 22 rfl 0 67 i0 _ 2 16 Try.underlying22 Hi.out Hi0.out Hi1.out Hi2.out rfl (by decide) (.slice av i cv) i _ rfl hrow8 _ 1 _ rfl (Reads.litAt _ _ _ 2 1 _ (by first | rfl | simp) rfl) (by simp [Value.oneCell']) (by unfold maxLen; omega) (by omega) (Nat.zero_le _) ?_
    intro v9 w9 hown9 hk9 hf9
    obtain ⟨a9, c9, rfl, _, _⟩ := ownsRow_shape hown9
    have happ := Hat.out.app (by have := Hs0.out; omega) (by have := Hs0.out; omega) Hx.out hk8a (by unfold pF; rw [Hur.out]; exact hown9) hk9 hf9
    have hb39 := box_old (box_old Hat.out.h3 hk8a (by simp)) hk9 hne3
    have o1 := cell_of_cells hb39 1
    have f1 := free_of_cells hb39 1
    have l1 := lt_of_block hb39
    refine hK.out _ _ (by exact (hs8.keep (S := fun _ => False) (Keeps.alloc _ _) (by simp) (by simp) (by simp)).keep hk9 hne3 hneB hneg) ?_
    clear hK K
    try simp only [Act.put, List.setIfInBounds_toArray, List.set_cons_zero, List.set_cons_succ]
    clear hs8
    obtain ⟨Hk8a, Hrow8, Happ, Hb39, Hown9, Hk9, Hk8⟩ := hid7 hk8a hrow8 happ hb39 hown9 hk9 hk8; clear hk8 hk9 hown9 hb39 happ hrow8 hk8a
    repeat (first
     | (refine mix_skip rfl (by rfl) ?_; try simp only [Act.put, List.setIfInBounds_toArray, List.set_cons_zero, List.set_cons_succ])
     | (refine mix_skipm rfl (by rfl) ?_; try simp only [Act.put, List.setIfInBounds_toArray, List.set_cons_zero, List.set_cons_succ])
     | (refine mix_take (v := ?_) rfl (by rfl) ?_ ?_; rotate_left; (· intro w' hSw; unfold pt8 at hSw; go_simp; (try with_reducible rfl)); rotate_right; try simp only [Act.put, List.setIfInBounds_toArray, List.set_cons_zero, List.set_cons_succ]))
    refine mix_last rfl (fun K hK => ?_)
    go_simp
    refine hK.out _ _ ?_
    clear hK K
    try simp only [Act.put, List.setIfInBounds_toArray, List.set_cons_zero, List.set_cons_succ]
    refine mix_done ?_
    clear o1 f1 l1
    go_wp2_with fail
    go_roundw
    case rel => exact ⟨i + 1, _, by go_num, by have := Hlt.out; omega, by have := Hlt.out; omega, Happ.out⟩
    case measure => simp [intOf]; omega
   ·have hmap : (t.trs.take i).map pF = (t.trs.take 8).map pF := by
     by_cases h8 : i = 8
     ·rw [h8]
     ·have : n = i := by omega
      rw [List.take_of_length_le (by rw [Hn.out]; omega), List.take_of_length_le (by rw [Hn.out]; omega)]
    have hlen : ((t.trs.take 8).map pF).length = i := by rw [← hmap, List.length_map, List.length_take, Hn.out]; omega
    have hpl : playTrs t.trs = if (t.trs.take 8).map pF = [] then [⟨500000, false⟩] else (t.trs.take 8).map pF := rfl
    have hrow := hat.row
    rw [hmap] at hrow
    have c01 := cell_of_cells hat.h0 1
    have hbB := lt_of_block hat.h0
    by_cases h0 : i = 0
    ·subst h0
     have hn0 : ¬ ((0 : Nat) : Int) < (n : Int) := by omega
     rw [if_pos (List.eq_nil_of_length_eq_zero hlen)] at hpl
     have hZ4 := HZ3.out
     rw [hpl] at hZ4
     have o1 := cell_of_cells hat.h3 1
     have f1 := free_of_cells hat.h3 1
     have l1 := lt_of_block hat.h3
     obtain ⟨W4, hW4⟩ : ∃ x, x = (wq.setCell ⟨b3, 1, none⟩ (.slice (some ⟨wq.heap.size, 0, none⟩) 1 1)).alloc (.cells #[.int .i64 500000, .bool false] 67) := ⟨_, rfl⟩
     have hk4 : Keeps (fun i => i = b3) wq W4 := by rw [hW4]; exact (Keeps.setCell (S := fun i => i = b3) wq _ _ rfl).trans (Keeps.alloc _ _)
     have hb34 : W4.heap[b3]? = some (.cells #[.int .i64 ul, .slice (some ⟨wq.heap.size, 0, none⟩) 1 1, .int .i64 (1 + uc), .int .i64 (1 + ud), .int .i64 uf, .int .i64 up, .int .i64 (10957 + q)] 24 (0, 0)) := by rw [hW4]; exact box_alloc ((heap_setCell_same _ _ 1 _ _ _ hat.h3).trans rfl) _
     have hb24 := box_old hat.h2 hk4 (by have := Hs0.out; omega)
     have hrd4 : Reads W4 2 (.slice (some ⟨wq.heap.size, 0, none⟩) 1 1) 1 ([(⟨500000, false⟩ : Tn)].flatMap Tn.cells) := by
      rw [hW4]
      exact Reads.litAt (n := 1) _ #[.int .i64 500000, .bool false] _ 2 _ (by simp) rfl
     have hkw4 : Keeps (fun _ => False) w W4 := hkq.trans (hk4.mono fun i _ e => .inr (by have e' : i = b3 := e; have := Hb3w.out; omega))
     obtain ⟨Hat, Hkq, Hmap, Hlen, Hpl, Hrow, Hlt, HZ4, Hk4⟩ := hid9 hat hkq hmap hlen hpl hrow hlt hZ4 hk4; clear hk4 hZ4 hlt hrow hpl hlen hmap hkq hat; obtain ⟨Hb34, Hb24, Hrd4, Hkw4⟩ := hid4 hb34 hb24 hrd4 hkw4; clear hkw4 hrd4 hb24 hb34
     go_upto_region 11 with fail
     rw [← hW4]
     clear hW4 o1 f1 l1
     have t0 := cell_of_cells (Hb34.out) 0
     have t1 := cell_of_cells (Hb34.out) 1
     have t2 := cell_of_cells (Hb34.out) 2
     have t3 := cell_of_cells (Hb34.out) 3
     have t4 := cell_of_cells (Hb34.out) 4
     have t5 := cell_of_cells (Hb34.out) 5
     have t6 := cell_of_cells (Hb34.out) 6
     have tl := lt_of_block (Hb34.out)
     have s0 := cell_of_cells (Hb24.out) 0
     have s1 := cell_of_cells (Hb24.out) 1
     have s2 := cell_of_cells (Hb24.out) 2
     have s3 := cell_of_cells (Hb24.out) 3
     have s4 := cell_of_cells (Hb24.out) 4
     have s5 := cell_of_cells (Hb24.out) 5
     have s6 := cell_of_cells (Hb24.out) 6
     have sl := lt_of_block (Hb24.out)
     have f0 := free_of_cells (Hb24.out) 0
     have f1 := free_of_cells (Hb24.out) 1
     have f2 := free_of_cells (Hb24.out) 2
     have f3 := free_of_cells (Hb24.out) 3
     have f4 := free_of_cells (Hb24.out) 4
     have f5 := free_of_cells (Hb24.out) 5
     have f6 := free_of_cells (Hb24.out) 6
     obtain ⟨hb5, hk5⟩ := store7 (Hb24.out) (.int .i64 ul) (.slice (some ⟨wq.heap.size, 0, none⟩) 1 1) (.int .i64 (1 + uc)) (.int .i64 (1 + ud)) (.int .i64 uf) (.int .i64 up) (.int .i64 (10957 + q))
     have hkz := (Hkw4.out).trans (hk5.mono fun i _ e => .inr (by have e' : i = B + 1 := e; have := HBe.out; omega))
     have hrz : Reads _ 2 (.slice (some ⟨wq.heap.size, 0, none⟩) 1 1) Z.trs.length (Z.trs.flatMap Tn.cells) := (by rw [← HZ4.out]; exact Hrd4.out.keeps hk5 (fun g hg e => by simp only [Value.ownBlock, Option.some.injEq] at hg; have e' : g = B + 1 := e; have := lt_of_block Hat.out.h2; omega))
     obtain ⟨Hb5, Hk5, Hkz, Hrz⟩ := hid4 hb5 hk5 hkz hrz; clear hrz hkz hk5 hb5
     go_wp2
     clear s0 s1 s2 s3 s4 s5 s6
     have r0 := cell_of_cells (Hb5.out) 0
     have r1 := cell_of_cells (Hb5.out) 1
     have r2 := cell_of_cells (Hb5.out) 2
     have r3 := cell_of_cells (Hb5.out) 3
     have r4 := cell_of_cells (Hb5.out) 4
     have r5 := cell_of_cells (Hb5.out) 5
     have r6 := cell_of_cells (Hb5.out) 6
     exact bodyPost_ret (v := .agg #[.int .i64 ul, .slice (some ⟨wq.heap.size, 0, none⟩) 1 1, .int .i64 (1 + uc), .int .i64 (1 + ud), .int .i64 uf, .int .i64 up, .int .i64 (10957 + q)]) (by simp [results, Try.results12, go_sem, r0, r1, r2, r3, r4, r5, r6]) rfl ⟨.slice (some ⟨wq.heap.size, 0, none⟩) 1 1, by rw [← HZ4.out], Hrz.out, Hkz.out, .inr (fun g hg => by simp only [Value.ownBlock, Option.some.injEq] at hg; have := Hkq.out.size; omega)⟩
    ·have hi0 : ((i : Int) == 0) = false := beq_eq_false_iff_ne.2 (by omega)
     rw [if_neg (fun e => by rw [e] at hlen; simp at hlen; omega)] at hpl
     have hZ4 := HZ3.out
     rw [hpl] at hZ4
     have hrd4 : Reads wq 2 (.slice av i cv) ((t.trs.take 8).map pF).length (((t.trs.take 8).map pF).flatMap Tn.cells) := by rw [hlen]; exact Reads.of_owns hrow
     have hnb : ¬ (Value.slice av i cv).ownBlock = some (B + 1) := ownsRow_ne hat.row hat.h2 (by decide)
     by_cases h8 : i < n
     ·have hltI : (i : Int) < (n : Int) := by omega
      have hlt8 : ¬ (i : Int) < 8 := by omega
      obtain ⟨Hat, Hkq, Hmap, Hlen, Hpl, Hrow, Hlt, HZ4, Hrd4⟩ := hid9 hat hkq hmap hlen hpl hrow hlt hZ4 hrd4; clear hrd4 hZ4 hlt hrow hpl hlen hmap hkq hat; have Hnb := Lib.hid hnb; clear hnb
      have t0 := cell_of_cells (Hat.out.h3) 0
      have t1 := cell_of_cells (Hat.out.h3) 1
      have t2 := cell_of_cells (Hat.out.h3) 2
      have t3 := cell_of_cells (Hat.out.h3) 3
      have t4 := cell_of_cells (Hat.out.h3) 4
      have t5 := cell_of_cells (Hat.out.h3) 5
      have t6 := cell_of_cells (Hat.out.h3) 6
      have tl := lt_of_block (Hat.out.h3)
      have s0 := cell_of_cells (Hat.out.h2) 0
      have s1 := cell_of_cells (Hat.out.h2) 1
      have s2 := cell_of_cells (Hat.out.h2) 2
      have s3 := cell_of_cells (Hat.out.h2) 3
      have s4 := cell_of_cells (Hat.out.h2) 4
      have s5 := cell_of_cells (Hat.out.h2) 5
      have s6 := cell_of_cells (Hat.out.h2) 6
      have sl := lt_of_block (Hat.out.h2)
      have f0 := free_of_cells (Hat.out.h2) 0
      have f1 := free_of_cells (Hat.out.h2) 1
      have f2 := free_of_cells (Hat.out.h2) 2
      have f3 := free_of_cells (Hat.out.h2) 3
      have f4 := free_of_cells (Hat.out.h2) 4
      have f5 := free_of_cells (Hat.out.h2) 5
      have f6 := free_of_cells (Hat.out.h2) 6
      obtain ⟨hb5, hk5⟩ := store7 (Hat.out.h2) (.int .i64 ul) (.slice av i cv) (.int .i64 (1 + uc)) (.int .i64 (1 + ud)) (.int .i64 uf) (.int .i64 up) (.int .i64 (10957 + q))
      have hkz := (Hkq.out).trans (hk5.mono fun i _ e => .inr (by have e' : i = B + 1 := e; have := HBe.out; omega))
      have hrz : Reads _ 2 (.slice av i cv) Z.trs.length (Z.trs.flatMap Tn.cells) := (by rw [← HZ4.out]; exact Hrd4.out.keeps hk5 (fun g hg e => by have e' : g = B + 1 := e; subst e'; exact Hnb.out hg))
      obtain ⟨Hb5, Hk5, Hkz, Hrz⟩ := hid4 hb5 hk5 hkz hrz; clear hrz hkz hk5 hb5
      go_wp2
      clear s0 s1 s2 s3 s4 s5 s6
      have r0 := cell_of_cells (Hb5.out) 0
      have r1 := cell_of_cells (Hb5.out) 1
      have r2 := cell_of_cells (Hb5.out) 2
      have r3 := cell_of_cells (Hb5.out) 3
      have r4 := cell_of_cells (Hb5.out) 4
      have r5 := cell_of_cells (Hb5.out) 5
      have r6 := cell_of_cells (Hb5.out) 6
      exact bodyPost_ret (v := .agg #[.int .i64 ul, .slice av i cv, .int .i64 (1 + uc), .int .i64 (1 + ud), .int .i64 uf, .int .i64 up, .int .i64 (10957 + q)]) (by simp [results, Try.results12, go_sem, r0, r1, r2, r3, r4, r5, r6]) rfl ⟨.slice av i cv, by rw [← HZ4.out], Hrz.out, Hkz.out, .inr (fun g hg => Nat.le_trans Hk2.out.size (Hat.out.nw g hg))⟩
     ·have hltI : ¬ (i : Int) < (n : Int) := by omega
      obtain ⟨Hat, Hkq, Hmap, Hlen, Hpl, Hrow, Hlt, HZ4, Hrd4⟩ := hid9 hat hkq hmap hlen hpl hrow hlt hZ4 hrd4; clear hrd4 hZ4 hlt hrow hpl hlen hmap hkq hat; have Hnb := Lib.hid hnb; clear hnb
      have t0 := cell_of_cells (Hat.out.h3) 0
      have t1 := cell_of_cells (Hat.out.h3) 1
      have t2 := cell_of_cells (Hat.out.h3) 2
      have t3 := cell_of_cells (Hat.out.h3) 3
      have t4 := cell_of_cells (Hat.out.h3) 4
      have t5 := cell_of_cells (Hat.out.h3) 5
      have t6 := cell_of_cells (Hat.out.h3) 6
      have tl := lt_of_block (Hat.out.h3)
      have s0 := cell_of_cells (Hat.out.h2) 0
      have s1 := cell_of_cells (Hat.out.h2) 1
      have s2 := cell_of_cells (Hat.out.h2) 2
      have s3 := cell_of_cells (Hat.out.h2) 3
      have s4 := cell_of_cells (Hat.out.h2) 4
      have s5 := cell_of_cells (Hat.out.h2) 5
      have s6 := cell_of_cells (Hat.out.h2) 6
      have sl := lt_of_block (Hat.out.h2)
      have f0 := free_of_cells (Hat.out.h2) 0
      have f1 := free_of_cells (Hat.out.h2) 1
      have f2 := free_of_cells (Hat.out.h2) 2
      have f3 := free_of_cells (Hat.out.h2) 3
      have f4 := free_of_cells (Hat.out.h2) 4
      have f5 := free_of_cells (Hat.out.h2) 5
      have f6 := free_of_cells (Hat.out.h2) 6
      obtain ⟨hb5, hk5⟩ := store7 (Hat.out.h2) (.int .i64 ul) (.slice av i cv) (.int .i64 (1 + uc)) (.int .i64 (1 + ud)) (.int .i64 uf) (.int .i64 up) (.int .i64 (10957 + q))
      have hkz := (Hkq.out).trans (hk5.mono fun i _ e => .inr (by have e' : i = B + 1 := e; have := HBe.out; omega))
      have hrz : Reads _ 2 (.slice av i cv) Z.trs.length (Z.trs.flatMap Tn.cells) := (by rw [← HZ4.out]; exact Hrd4.out.keeps hk5 (fun g hg e => by have e' : g = B + 1 := e; subst e'; exact Hnb.out hg))
      obtain ⟨Hb5, Hk5, Hkz, Hrz⟩ := hid4 hb5 hk5 hkz hrz; clear hrz hkz hk5 hb5
      go_wp2
      clear s0 s1 s2 s3 s4 s5 s6
      have r0 := cell_of_cells (Hb5.out) 0
      have r1 := cell_of_cells (Hb5.out) 1
      have r2 := cell_of_cells (Hb5.out) 2
      have r3 := cell_of_cells (Hb5.out) 3
      have r4 := cell_of_cells (Hb5.out) 4
      have r5 := cell_of_cells (Hb5.out) 5
      have r6 := cell_of_cells (Hb5.out) 6
      exact bodyPost_ret (v := .agg #[.int .i64 ul, .slice av i cv, .int .i64 (1 + uc), .int .i64 (1 + ud), .int .i64 uf, .int .i64 up, .int .i64 (10957 + q)]) (by simp [results, Try.results12, go_sem, r0, r1, r2, r3, r4, r5, r6]) rfl ⟨.slice av i cv, by rw [← HZ4.out], Hrz.out, Hkz.out, .inr (fun g hg => Nat.le_trans Hk2.out.size (Hat.out.nw g hg))⟩
end Go.Proofs.Ythcmpcekmkioaaa
namespace Go.Proofs.Ythcmpcekmkioaaa
open Go.RowKit
set_option maxRecDepth 100000 in
set_option maxHeartbeats 400000 in
theorem r11may_any (v : Int) (w : World) : Calls Try.prog 48 #[.int .i64 v] w fun e w' => e = .returned (.bool (moneyP v)) ∧ w = w' := by
 by_cases h1 : v < 0
 ·have hf : moneyP v = false := by simp [moneyP]; omega
  have h1' : ¬ 0 ≤ v := by omega
  have Hf := Lib.hid hf; clear hf
  go_enter Try.func48, Try.ntmps48
  go_wp2
  go_ret
  exact ⟨by rw [Hf.out]; rfl, rfl⟩
 ·by_cases h2 : 1000000000000000 < v
  ·have hf : moneyP v = false := by simp [moneyP]; omega
   have hd : decide (v ≤ 1000000000000000) = false := by rw [decide_eq_false_iff_not]; omega
   have h1' : 0 ≤ v := by omega
   have Hf := Lib.hid hf; clear hf
   go_enter Try.func48, Try.ntmps48
   go_wp2
   go_ret
   exact ⟨by rw [Hf.out]; rfl, rfl⟩
  ·have hf : moneyP v = true := by simp [moneyP]; omega
   have h1' : 0 ≤ v := by omega
   have Hf := Lib.hid hf; clear hf
   go_enter Try.func48, Try.ntmps48
   go_wp2
   go_ret
   exact ⟨by rw [Hf.out]; rfl, rfl⟩
theorem r11may_at {v : Int} {b : Bool} (h : moneyP v = b) (w : World) : Calls Try.prog 48 #[.int .i64 v] w fun e w' => e = .returned (.bool b) ∧ w = w' := by subst h; exact r11may_any v w
set_option maxRecDepth 100000 in
set_option maxHeartbeats 3200000 in
theorem r11Right_any (L : List Int) (cr du : Int) (ad : Option Addr) (cap n : Nat) (w : World) (hr : Reads w 1 (.slice ad n cap) n (L.flatMap i64c)) (hN : L.length = n) (hl : n ≤ 9223372036854775807) :
  Calls Try.prog 34 #[.agg #[.slice ad n cap, .int .i64 cr, .int .i64 du]] w fun e w' => e = .returned (.bool (Ps.rightB ⟨L, cr, du⟩)) ∧ Keeps (fun _ => False) w w' := by
 obtain ⟨z, hz⟩ : ∃ z, Ps.rightB ⟨L, cr, du⟩ = z := ⟨_, rfl⟩
 rw [hz]
 rcases m1 : moneyP cr with _ | _
 ·rcases m2 : moneyP du with _ | _
  all_goals
   by_cases n1 : n < 1
   ·have n1I : (n : Int) < 1 := by omega
    have hf : Ps.rightB ⟨L, cr, du⟩ = false := by unfold Ps.rightB; simp [m1]
    obtain rfl : z = false := hz.symm.trans hf
    obtain ⟨Hf, Hz, Hr, HN⟩ := hid4 hf hz hr hN; clear hN hr hz hf
    go_enter Try.func34, Try.ntmps34
    go_wp2_with (first | (go_at_call 48; (with_reducible refine (r11may_at m1 _).mono ?_); rintro e w1 ⟨rfl, rfl⟩) | (go_at_call 48; (with_reducible refine (r11may_at m2 _).mono ?_); rintro e w1 ⟨rfl, rfl⟩))
    go_ret
    exact ⟨rfl, Keeps.alloc w _⟩
   ·have n1I : ¬ (n : Int) < 1 := by omega
    by_cases n8 : 8 < n
    ·have n8I : (8 : Int) < (n : Int) := by omega
     have hf : Ps.rightB ⟨L, cr, du⟩ = false := by unfold Ps.rightB; simp [m1]
     obtain rfl : z = false := hz.symm.trans hf
     obtain ⟨Hf, Hz, Hr, HN⟩ := hid4 hf hz hr hN; clear hN hr hz hf
     go_enter Try.func34, Try.ntmps34
     go_wp2_with (first | (go_at_call 48; (with_reducible refine (r11may_at m1 _).mono ?_); rintro e w1 ⟨rfl, rfl⟩) | (go_at_call 48; (with_reducible refine (r11may_at m2 _).mono ?_); rintro e w1 ⟨rfl, rfl⟩))
     go_ret
     exact ⟨rfl, Keeps.alloc w _⟩
    ·have n8I : ¬ (8 : Int) < (n : Int) := by omega
     have hf : Ps.rightB ⟨L, cr, du⟩ = false := by unfold Ps.rightB; simp [m1]
     obtain rfl : z = false := hz.symm.trans hf
     obtain ⟨Hf, Hz, Hr, HN⟩ := hid4 hf hz hr hN; clear hN hr hz hf
     go_enter Try.func34, Try.ntmps34
     go_wp2_with (first | (go_at_call 48; (with_reducible refine (r11may_at m1 _).mono ?_); rintro e w1 ⟨rfl, rfl⟩) | (go_at_call 48; (with_reducible refine (r11may_at m2 _).mono ?_); rintro e w1 ⟨rfl, rfl⟩))
     go_ret
     exact ⟨rfl, Keeps.alloc w _⟩
 rcases m2 : moneyP du with _ | _
 ·by_cases n1 : n < 1
  ·have n1I : (n : Int) < 1 := by omega
   have hf : Ps.rightB ⟨L, cr, du⟩ = false := by unfold Ps.rightB; simp [m2]
   obtain rfl : z = false := hz.symm.trans hf
   obtain ⟨Hf, Hz, Hr, HN⟩ := hid4 hf hz hr hN; clear hN hr hz hf
   go_enter Try.func34, Try.ntmps34
   go_wp2_with (first | (go_at_call 48; (with_reducible refine (r11may_at m1 _).mono ?_); rintro e w1 ⟨rfl, rfl⟩) | (go_at_call 48; (with_reducible refine (r11may_at m2 _).mono ?_); rintro e w1 ⟨rfl, rfl⟩))
   go_ret
   exact ⟨rfl, Keeps.alloc w _⟩
  ·have n1I : ¬ (n : Int) < 1 := by omega
   by_cases n8 : 8 < n
   ·have n8I : (8 : Int) < (n : Int) := by omega
    have hf : Ps.rightB ⟨L, cr, du⟩ = false := by unfold Ps.rightB; simp [m2]
    obtain rfl : z = false := hz.symm.trans hf
    obtain ⟨Hf, Hz, Hr, HN⟩ := hid4 hf hz hr hN; clear hN hr hz hf
    go_enter Try.func34, Try.ntmps34
    go_wp2_with (first | (go_at_call 48; (with_reducible refine (r11may_at m1 _).mono ?_); rintro e w1 ⟨rfl, rfl⟩) | (go_at_call 48; (with_reducible refine (r11may_at m2 _).mono ?_); rintro e w1 ⟨rfl, rfl⟩))
    go_ret
    exact ⟨rfl, Keeps.alloc w _⟩
   ·have n8I : ¬ (8 : Int) < (n : Int) := by omega
    have hf : Ps.rightB ⟨L, cr, du⟩ = false := by unfold Ps.rightB; simp [m2]
    obtain rfl : z = false := hz.symm.trans hf
    obtain ⟨Hf, Hz, Hr, HN⟩ := hid4 hf hz hr hN; clear hN hr hz hf
    go_enter Try.func34, Try.ntmps34
    go_wp2_with (first | (go_at_call 48; (with_reducible refine (r11may_at m1 _).mono ?_); rintro e w1 ⟨rfl, rfl⟩) | (go_at_call 48; (with_reducible refine (r11may_at m2 _).mono ?_); rintro e w1 ⟨rfl, rfl⟩))
    go_ret
    exact ⟨rfl, Keeps.alloc w _⟩
 by_cases n1 : n < 1
 ·have n1I : (n : Int) < 1 := by omega
  have hq : ¬ 1 ≤ L.length := by omega
  have hf : Ps.rightB ⟨L, cr, du⟩ = false := by unfold Ps.rightB; simp [hq]
  obtain rfl : z = false := hz.symm.trans hf
  obtain ⟨Hf, Hz, Hr, HN⟩ := hid4 hf hz hr hN; clear hN hr hz hf
  go_enter Try.func34, Try.ntmps34
  go_wp2_with (first | (go_at_call 48; (with_reducible refine (r11may_at m1 _).mono ?_); rintro e w1 ⟨rfl, rfl⟩) | (go_at_call 48; (with_reducible refine (r11may_at m2 _).mono ?_); rintro e w1 ⟨rfl, rfl⟩))
  go_ret
  exact ⟨rfl, Keeps.alloc w _⟩
 have n1I : ¬ (n : Int) < 1 := by omega
 by_cases n8 : 8 < n
 ·have n8I : (8 : Int) < (n : Int) := by omega
  have hq : ¬ L.length ≤ 8 := by omega
  have hf : Ps.rightB ⟨L, cr, du⟩ = false := by unfold Ps.rightB; simp [hq]
  obtain rfl : z = false := hz.symm.trans hf
  obtain ⟨Hf, Hz, Hr, HN⟩ := hid4 hf hz hr hN; clear hN hr hz hf
  go_enter Try.func34, Try.ntmps34
  go_wp2_with (first | (go_at_call 48; (with_reducible refine (r11may_at m1 _).mono ?_); rintro e w1 ⟨rfl, rfl⟩) | (go_at_call 48; (with_reducible refine (r11may_at m2 _).mono ?_); rintro e w1 ⟨rfl, rfl⟩))
  go_ret
  exact ⟨rfl, Keeps.alloc w _⟩
 have n8I : ¬ (8 : Int) < (n : Int) := by omega
 have n1' : 1 ≤ n := by omega
 have n8' : n ≤ 8 := by omega
 have hbx : ∀ W, Keeps (fun _ => False) (w.alloc (.cells #[.slice ad n cap, .int .i64 cr, .int .i64 du] 32)) W → W.heap[w.heap.size]? = some (.cells #[.slice ad n cap, .int .i64 cr, .int .i64 du] 32 (0, 0)) := fun W hW => box_old (heap_alloc_new w _) hW (by simp)
 obtain ⟨Hr, Hz, Hbx⟩ := hid3 hr hz hbx; clear hbx hz hr
 go_enter Try.func34, Try.ntmps34
 go_wp2_with (first | (go_at_call 48; (with_reducible refine (r11may_at m1 _).mono ?_); rintro e w1 ⟨rfl, rfl⟩) | (go_at_call 48; (with_reducible refine (r11may_at m2 _).mono ?_); rintro e w1 ⟨rfl, rfl⟩))
 go_loopw [3, 4] (fun x y wx => ∃ (i : Nat) (s : Int), x = .int .i64 s ∧ y = .int .i64 (i : Nat) ∧ i ≤ n ∧ sumI (L.take i) = s ∧ (L.take i).all moneyP = true ∧ 0 ≤ s ∧ s ≤ i * 1000000000000000 ∧ Keeps (fun _ => False) (w.alloc (.cells #[.slice ad n cap, .int .i64 cr, .int .i64 du] 32)) wx) (fun _ y _ => n - (intOf y).toNat)
 case atStart => exact ⟨0, 0, rfl, rfl, Nat.zero_le _, rfl, rfl, by omega, by omega, Keeps.refl _ _⟩
 case round =>
  obtain ⟨i, s, rfl, rfl, hin, hs, hall, hs0, hs1, hk⟩ := hrel
  obtain ⟨wq, hwq⟩ : ∃ x, x = wr := ⟨_, rfl⟩
  subst hwq
  have hb := Hbx.out _ hk
  have c0 := cell_of_cells hb 0
  have c1 := cell_of_cells hb 1
  have c2 := cell_of_cells hb 2
  have bl := lt_of_block hb
  have hs2 : s ≤ 8000000000000000 := by omega
  by_cases hlt : i < n
  ·have hltI : (i : Int) < (n : Int) := by omega
   obtain ⟨x, hx⟩ := get_some (L := L) (k := i) (by omega)
   obtain ⟨g, o, he, hc⟩ := (Hr.out.keeps ((Keeps.alloc w _).nt hk) (by simp)).int (k := .i64) hx
   subst he
   have hgl := cell_lt hc
   have hsn := sumI_snoc hx
   rw [hs] at hsn
   rcases m3 : moneyP x with _ | _
   ·have hf : Ps.rightB ⟨L, cr, du⟩ = false := by unfold Ps.rightB; rw [show scanB L = false from scan_bad1 hx m3]; rfl
    obtain rfl : z = false := Hz.out.symm.trans hf
    obtain ⟨Hall, Hk, Hs, Hsn, Hx, Hf, Hb⟩ := hid7 hall hk hs hsn hx hf hb; clear hb hf hx hsn hs hk hall
    go_wp2_with (go_at_call 48; (with_reducible refine (r11may_at m3 _).mono ?_); rintro e w1 ⟨rfl, rfl⟩)
    go_ret
    exact ⟨rfl, (Keeps.alloc w _).nt Hk.out⟩
   ·obtain ⟨x0, x1⟩ := (moneyP_iff x).1 m3
    have hall2 : (L.take (i + 1)).all moneyP = true := by rw [take_snoc' hx, List.all_append, hall]; simp [m3]
    obtain ⟨Hall, Hall2, Hk, Hs, Hsn, Hx, Hb⟩ := hid7 hall hall2 hk hs hsn hx hb; clear hb hx hsn hs hk hall2 hall
    go_wp2_with (go_at_call 48; (with_reducible refine (r11may_at m3 _).mono ?_); rintro e w1 ⟨rfl, rfl⟩)
    go_roundw
    case rel => exact ⟨i + 1, s + x, rfl, by go_num, by omega, Hsn.out, Hall2.out, by omega, by omega, Hk.out⟩
    case measure => simp [intOf]; omega
  ·obtain rfl : n = i := by omega
   rw [List.take_of_length_le (by omega)] at hs hall
   have Hb := Lib.hid hb; clear hb
   rcases m5 : moneyP s with _ | _
   ·skip
    have hf : Ps.rightB ⟨L, cr, du⟩ = false := by unfold Ps.rightB scanB; simp only [hall, hs, hN, m1, m2, m5, Bool.true_and, Bool.and_true, Bool.false_and, Bool.and_false, decide_true, decide_false, Bool.or_true, Bool.true_or, Bool.or_false, Bool.false_or, decide_eq_true n1', decide_eq_true n8']
    obtain rfl : z = false := Hz.out.symm.trans hf
    obtain ⟨Hf, Hs, Hall, Hk⟩ := hid4 hf hs hall hk; clear hk hall hs hf
    go_wp2_with (go_at_call 48; (with_reducible refine (r11may_at m5 _).mono ?_); rintro e w1 ⟨rfl, rfl⟩)
    go_ret
    exact ⟨rfl, (Keeps.alloc w _).nt Hk.out⟩
   ·by_cases h6 : cr = 0
    ·have h6I : (cr == 0) = true := by rw [beq_iff_eq]; exact h6
     have h6d : decide (cr = 0) = true := decide_eq_true h6
     clear h6
     have hf : Ps.rightB ⟨L, cr, du⟩ = true := by unfold Ps.rightB scanB; simp only [hall, hs, hN, m1, m2, m5, h6d, Bool.true_and, Bool.and_true, Bool.false_and, Bool.and_false, decide_true, decide_false, Bool.or_true, Bool.true_or, Bool.or_false, Bool.false_or, decide_eq_true n1', decide_eq_true n8']
     obtain rfl : z = true := Hz.out.symm.trans hf
     obtain ⟨Hf, Hs, Hall, Hk⟩ := hid4 hf hs hall hk; clear hk hall hs hf
     go_wp2_with (go_at_call 48; (with_reducible refine (r11may_at m5 _).mono ?_); rintro e w1 ⟨rfl, rfl⟩)
     go_ret
     exact ⟨rfl, (Keeps.alloc w _).nt Hk.out⟩
    ·have h6I : (cr == 0) = false := beq_eq_false_iff_ne.2 h6
     have h6d : decide (cr = 0) = false := decide_eq_false h6
     by_cases h7 : s = 0
     ·have h7I : (s == 0) = true := by rw [beq_iff_eq]; exact h7
      have h7d : decide (s = 0) = true := decide_eq_true h7
      clear h6 h7
      have hf : Ps.rightB ⟨L, cr, du⟩ = true := by unfold Ps.rightB scanB; simp only [hall, hs, hN, m1, m2, m5, h6d, h7d, Bool.true_and, Bool.and_true, Bool.false_and, Bool.and_false, decide_true, decide_false, Bool.or_true, Bool.true_or, Bool.or_false, Bool.false_or, decide_eq_true n1', decide_eq_true n8']
      obtain rfl : z = true := Hz.out.symm.trans hf
      obtain ⟨Hf, Hs, Hall, Hk⟩ := hid4 hf hs hall hk; clear hk hall hs hf
      go_wp2_with (go_at_call 48; (with_reducible refine (r11may_at m5 _).mono ?_); rintro e w1 ⟨rfl, rfl⟩)
      go_ret
      exact ⟨rfl, (Keeps.alloc w _).nt Hk.out⟩
     ·have h7I : (s == 0) = false := beq_eq_false_iff_ne.2 h7
      have h7d : decide (s = 0) = false := decide_eq_false h7
      clear h6 h7
      have hf : Ps.rightB ⟨L, cr, du⟩ = false := by unfold Ps.rightB scanB; simp only [hall, hs, hN, m1, m2, m5, h6d, h7d, Bool.true_and, Bool.and_true, Bool.false_and, Bool.and_false, decide_true, decide_false, Bool.or_true, Bool.true_or, Bool.or_false, Bool.false_or, decide_eq_true n1', decide_eq_true n8']
      obtain rfl : z = false := Hz.out.symm.trans hf
      obtain ⟨Hf, Hs, Hall, Hk⟩ := hid4 hf hs hall hk; clear hk hall hs hf
      go_wp2_with (go_at_call 48; (with_reducible refine (r11may_at m5 _).mono ?_); rintro e w1 ⟨rfl, rfl⟩)
      go_ret
      exact ⟨rfl, (Keeps.alloc w _).nt Hk.out⟩
set_option maxRecDepth 100000 in
set_option maxHeartbeats 1600000 in
theorem r11Total_any (L : List Int) (cr du : Int) (ad : Option Addr) (cap n : Nat) (w : World) (hr : Reads w 1 (.slice ad n cap) n (L.flatMap i64c)) (hN : L.length = n) (hl : n ≤ 9223372036854775807) (hright : Ps.rightB ⟨L, cr, du⟩ = true) :
  Calls Try.prog 20 #[.agg #[.slice ad n cap, .int .i64 cr, .int .i64 du]] w fun e w' => e = .returned (.int .i64 (sumI L)) ∧ Keeps (fun _ => False) w w' := by
 obtain ⟨hm, n1, n8⟩ : (∀ x ∈ L, 0 ≤ x ∧ x ≤ 1000000000000000) ∧ 1 ≤ n ∧ n ≤ 8 := by
  have h := right_nums hright
  exact ⟨h.1, by have h2 := h.2.2.2.1; simp only at h2; omega, by have h2 := h.2.2.2.2; simp only at h2; omega⟩
 have hri := fun W (hW : Keeps (fun _ => False) w W) => r11Right_any L cr du ad cap n W (hr.keeps hW (by simp)) hN hl
 rw [hright] at hri
 obtain ⟨R, hR⟩ : ∃ R, sumI L = R := ⟨_, rfl⟩
 rw [hR]
 obtain ⟨Hr, Hm, Hri, HR, Hright⟩ := hid5 hr hm hri hR hright; clear hright hR hri hm hr
 go_enter Try.func20, Try.ntmps20
 go_wp2_with (go_at_call 34; (with_reducible refine (Hri.out _ (Keeps.alloc _ _)).mono ?_); rintro e w1 ⟨rfl, hk1⟩; have hb1 := box_new hk1 (by simp); have c0 := cell_of_cells hb1 0; have bl := lt_of_block hb1; have Hk1 := Lib.hid hk1; have Hb1 := Lib.hid hb1; clear hk1 hb1)
 clear c0 bl
 go_loopw [3, 4] (fun x y wx => ∃ (i : Nat) (s : Int), x = .int .i64 s ∧ y = .int .i64 (i : Nat) ∧ i ≤ n ∧ sumI (L.take i) = s ∧ 0 ≤ s ∧ s ≤ i * 1000000000000000 ∧ Keeps (fun _ => False) w1 wx) (fun _ y _ => n - (intOf y).toNat)
 case atStart => exact ⟨0, 0, rfl, rfl, Nat.zero_le _, rfl, by omega, by omega, Keeps.refl _ _⟩
 case round =>
  obtain ⟨i, s, rfl, rfl, hin, hs, hs0, hs1, hk⟩ := hrel
  obtain ⟨wq, hwq⟩ : ∃ x, x = wr := ⟨_, rfl⟩
  subst hwq
  have hb := box_old Hb1.out hk (by simp)
  have c0 := cell_of_cells hb 0
  have bl := lt_of_block hb
  by_cases hlt : i < n
  ·have hltI : (i : Int) < (n : Int) := by omega
   obtain ⟨x, hx⟩ := get_some (L := L) (k := i) (by omega)
   obtain ⟨g, o, he, hc⟩ := (Hr.out.keeps (((Keeps.alloc w _).nt Hk1.out).nt hk) (by simp)).int (k := .i64) hx
   subst he
   have hgl := cell_lt hc
   have hsn := sumI_snoc hx
   rw [hs] at hsn
   obtain ⟨x0, x1⟩ := Hm.out x (List.mem_of_getElem? hx)
   obtain ⟨Hk, Hs, Hsn, Hx, Hb⟩ := hid5 hk hs hsn hx hb; clear hb hx hsn hs hk
   go_wp2
   go_roundw
   case rel => exact ⟨i + 1, s + x, rfl, by go_num, by omega, Hsn.out, by omega, by omega, Hk.out⟩
   case measure => simp [intOf]; omega
  ·obtain rfl : n = i := by omega
   rw [List.take_of_length_le (by omega), HR.out] at hs
   subst hs
   obtain ⟨Hk, Hb⟩ := hid2 hk hb; clear hb hk
   go_wp2
   go_ret
   exact ⟨rfl, ((Keeps.alloc w _).nt Hk1.out).nt Hk.out⟩
end Go.Proofs.Ythcmpcekmkioaaa
namespace Go.Proofs.Ythcmpcekmkioaaa
open Go.RowKit
set_option maxRecDepth 100000 in
set_option maxHeartbeats 1600000 in
theorem rcycLast_any (fr cd : Int) (w : World) : Calls Try.prog 33 #[.int .i64 fr, .int .i64 cd] w fun e w' => e = .returned (.tuple #[.int .i64 (lastV fr cd), .int .i64 (lastE fr cd)]) ∧ Keeps (fun _ => False) w w' := by
 obtain ⟨F, hF⟩ : ∃ F, lastF fr cd = F := ⟨_, rfl⟩
 obtain ⟨E, hE⟩ : ∃ E, lastE fr cd = E := ⟨_, rfl⟩
 obtain ⟨V, hV⟩ : ∃ V, lastV fr cd = V := ⟨_, rfl⟩
 have hE' := hE
 have hV' := hV
 unfold lastE at hE'
 unfold lastV at hV'
 rw [hF] at hE' hV'
 rw [hE] at hV'
 rw [hE, hV]
 by_cases hc : cd < 1 ∨ 28 < cd
 ·rw [if_pos hc] at hE'
  subst hE'
  rw [if_neg (by decide)] at hV'
  subst hV'
  obtain ⟨HF, HE, HV⟩ := hid3 hF hE hV; clear hV hE hF
  go_enter Try.func33, Try.ntmps33
  rcases hc with hc | hc
  ·go_wp2
   exact bodyPost_ret (v := .tuple #[.int .i64 0, .int .i64 1]) (by simp [results, Try.results33, go_sem]) rfl ⟨rfl, by (repeat (first | exact Keeps.refl _ _ | exact Keeps.alloc _ _ | exact Keeps.drew _ | exact Keeps.drewN _ _ | refine Keeps.trans_drew ?_ | refine Keeps.trans_drewN ?_ | refine Keeps.trans_alloc ?_))⟩
  ·have hc2 : ¬ cd < 1 := by omega
   go_wp2
   exact bodyPost_ret (v := .tuple #[.int .i64 0, .int .i64 1]) (by simp [results, Try.results33, go_sem]) rfl ⟨rfl, by (repeat (first | exact Keeps.refl _ _ | exact Keeps.alloc _ _ | exact Keeps.drew _ | exact Keeps.drewN _ _ | refine Keeps.trans_drew ?_ | refine Keeps.trans_drewN ?_ | refine Keeps.trans_alloc ?_))⟩
 ·rw [if_neg hc] at hE'
  have c1 : ¬ cd < 1 := by omega
  have c2 : ¬ 28 < cd := by omega
  by_cases hin : -135140 ≤ fr ∧ fr ≤ 2932896
  ·rw [if_neg (by omega)] at hE'
   obtain ⟨hf0, hf1⟩ := hin
   have hge := lastF_ge hf0 hf1 (by omega : 1 ≤ cd) (by omega : cd ≤ 28)
   have hno := fun n => lastF_no (fr := fr) (cd := cd) (n := n) hf0 hf1 (by omega) (by omega)
   have hyes := lastF_yes (fr := fr) (cd := cd) hf0 hf1 (by omega) (by omega)
   have hend := lastF_end (fr := fr) (cd := cd) hf0 hf1 (by omega) (by omega)
   rw [hF] at hge hno hyes hend
   clear hc
   obtain ⟨HF, HE, HV, HE', HV', Hno, Hyes, Hend⟩ := hid8 hF hE hV hE' hV' hno hyes hend; clear hend hyes hno hV' hE' hV hE hF
   go_enter Try.func33, Try.ntmps33
   go_wp2
   go_loopw [6] (fun x wx => ∃ n : Int, x = .int .i64 n ∧ fr ≤ n ∧ n ≤ F ∧ n ≤ 2932897 ∧ Keeps (fun _ => False) w wx) (fun x _ => (2932900 - intOf x).toNat)
   case atStart => exact ⟨fr, rfl, by omega, by omega, by omega, Keeps.refl _ _⟩
   case round =>
    obtain ⟨n, rfl, hn0, hnF, hnL, hk⟩ := hrel
    by_cases hn9 : n ≤ 2932896
    ·skip
     obtain ⟨wq, hwq⟩ : ∃ x, x = wr := ⟨_, rfl⟩
     subst hwq
     have hdt := rdayDate_any (n + 1) wq (by omega)
     obtain ⟨D, hD⟩ : ∃ D, (if n + 1 ≤ 2932896 then dD (n + 1) else 1) = D := ⟨_, rfl⟩
     have hstop : D = cd ↔ n = F := by
      rw [← hD]
      by_cases h1 : n + 1 ≤ 2932896
      ·rw [if_pos h1]
       by_cases h2 : n = F
       ·subst h2
        exact ⟨fun _ => rfl, fun _ => Hyes.out h1⟩
       ·exact ⟨fun e => absurd e (Hno.out n hn0 (by omega) h1), fun e => absurd e h2⟩
      ·rw [if_neg h1]
       have := Hend.out (by omega)
       constructor
       ·intro e; have := this.2 e.symm; omega
       ·intro e; exact (this.1 (by omega)).symm
     by_cases h1 : n + 1 ≤ 2932896
     ·have hd : dayIn (n + 1) = true := by simp [dayIn]; omega
      rw [if_pos hd, if_pos hd] at hdt
      rw [if_pos h1] at hD
      rw [hD] at hdt
      have h1' : ¬ 2932896 < n + 1 := by omega
      by_cases h2 : n = F
      ·have hDc := hstop.2 h2
       subst h2
       subst hDc
       have h := HE'.out
       rw [if_neg (by omega)] at h
       subst h
       have h := HV'.out
       rw [if_pos rfl] at h
       subst h
       clear hstop
       obtain ⟨Hdt, HD, Hd, Hk⟩ := hid4 hdt hD hd hk; clear hk hd hD hdt
       go_wp2_with fail
       refine Hdt.out.mono ?_
       rintro e w1 ⟨rfl, hk1⟩
       have Hk1 := Lib.hid (Hk.out.nt hk1); clear hk1
       go_wp2
       exact bodyPost_ret (v := .tuple #[.int .i64 n, .int .i64 0]) (by simp [results, Try.results33, go_sem]) rfl ⟨rfl, Hk1.out.nt (by (repeat (first | exact Keeps.refl _ _ | exact Keeps.alloc _ _ | exact Keeps.drew _ | exact Keeps.drewN _ _ | refine Keeps.trans_drew ?_ | refine Keeps.trans_drewN ?_ | refine Keeps.trans_alloc ?_)))⟩
      ·have hDc : (D == cd) = false := beq_eq_false_iff_ne.2 (fun e => h2 (hstop.1 e))
       clear hstop
       obtain ⟨Hdt, HD, Hd, Hk⟩ := hid4 hdt hD hd hk; clear hk hd hD hdt
       go_wp2_with fail
       refine Hdt.out.mono ?_
       rintro e w1 ⟨rfl, hk1⟩
       have Hk1 := Lib.hid (Hk.out.nt hk1); clear hk1
       go_wp2
       go_roundw
       case rel => exact ⟨n + 1, rfl, by omega, by omega, by omega, Hk1.out.nt (by (repeat (first | exact Keeps.refl _ _ | exact Keeps.alloc _ _ | exact Keeps.drew _ | exact Keeps.drewN _ _ | refine Keeps.trans_drew ?_ | refine Keeps.trans_drewN ?_ | refine Keeps.trans_alloc ?_)))⟩
       case measure => simp [intOf]; omega
     ·have hd : dayIn (n + 1) = false := by simp [dayIn]; omega
      have hdd : ¬ dayIn (n + 1) = true := by rw [hd]; decide
      rw [if_neg hdd, if_neg hdd] at hdt
      rw [if_neg h1] at hD
      subst hD
      have hD : True := trivial
      have h1' : 2932896 < n + 1 := by omega
      clear hdd
      by_cases h2 : n = F
      ·have hDc := hstop.2 h2
       subst h2
       subst hDc
       have h := HE'.out
       rw [if_neg (by omega)] at h
       subst h
       have h := HV'.out
       rw [if_pos rfl] at h
       subst h
       clear hstop
       obtain ⟨Hdt, HD, Hd, Hk⟩ := hid4 hdt hD hd hk; clear hk hd hD hdt
       go_wp2_with fail
       refine Hdt.out.mono ?_
       rintro e w1 ⟨rfl, hk1⟩
       have Hk1 := Lib.hid (Hk.out.nt hk1); clear hk1
       go_wp2
       exact bodyPost_ret (v := .tuple #[.int .i64 n, .int .i64 0]) (by simp [results, Try.results33, go_sem]) rfl ⟨rfl, Hk1.out.nt (by (repeat (first | exact Keeps.refl _ _ | exact Keeps.alloc _ _ | exact Keeps.drew _ | exact Keeps.drewN _ _ | refine Keeps.trans_drew ?_ | refine Keeps.trans_drewN ?_ | refine Keeps.trans_alloc ?_)))⟩
      ·have hDc : ((1 : Int) == cd) = false := beq_eq_false_iff_ne.2 (fun e => h2 (hstop.1 e))
       clear hstop
       obtain ⟨Hdt, HD, Hd, Hk⟩ := hid4 hdt hD hd hk; clear hk hd hD hdt
       go_wp2_with fail
       refine Hdt.out.mono ?_
       rintro e w1 ⟨rfl, hk1⟩
       have Hk1 := Lib.hid (Hk.out.nt hk1); clear hk1
       go_wp2
       go_roundw
       case rel => exact ⟨n + 1, rfl, by omega, by omega, by omega, Hk1.out.nt (by (repeat (first | exact Keeps.refl _ _ | exact Keeps.alloc _ _ | exact Keeps.drew _ | exact Keeps.drewN _ _ | refine Keeps.trans_drew ?_ | refine Keeps.trans_drewN ?_ | refine Keeps.trans_alloc ?_)))⟩
       case measure => simp [intOf]; omega
    ·have h := HE'.out
     rw [if_pos (by omega)] at h
     subst h
     have h := HV'.out
     rw [if_neg (by decide)] at h
     subst h
     have Hk := Lib.hid hk; clear hk
     go_wp2
     exact bodyPost_ret (v := .tuple #[.int .i64 0, .int .i64 10]) (by simp [results, Try.results33, go_sem]) rfl ⟨rfl, Hk.out⟩
  ·rw [if_pos hin] at hE'
   subst hE'
   rw [if_neg (by decide)] at hV'
   subst hV'
   clear hc
   obtain ⟨HF, HE, HV⟩ := hid3 hF hE hV; clear hV hE hF
   by_cases hf0 : fr < -135140
   ·clear hin
    go_enter Try.func33, Try.ntmps33
    go_wp2
    exact bodyPost_ret (v := .tuple #[.int .i64 0, .int .i64 10]) (by simp [results, Try.results33, go_sem]) rfl ⟨rfl, by (repeat (first | exact Keeps.refl _ _ | exact Keeps.alloc _ _ | exact Keeps.drew _ | exact Keeps.drewN _ _ | refine Keeps.trans_drew ?_ | refine Keeps.trans_drewN ?_ | refine Keeps.trans_alloc ?_))⟩
   ·have hf1 : 2932896 < fr := by omega
    clear hin
    go_enter Try.func33, Try.ntmps33
    go_wp2
    exact bodyPost_ret (v := .tuple #[.int .i64 0, .int .i64 10]) (by simp [results, Try.results33, go_sem]) rfl ⟨rfl, by (repeat (first | exact Keeps.refl _ _ | exact Keeps.alloc _ _ | exact Keeps.drew _ | exact Keeps.drewN _ _ | refine Keeps.trans_drew ?_ | refine Keeps.trans_drewN ?_ | refine Keeps.trans_alloc ?_))⟩
end Go.Proofs.Ythcmpcekmkioaaa
namespace Go.Proofs.Ythcmpcekmkioaaa
open Go.RowKit
structure OfAt (R : List (Int × Int) × Bool) (st cd day : Int) (k : Nat) (fr : Int) : Prop where
 k3 : k ≤ 300
 two : R.2 = (findW cd day (300 - k) fr).2
 len : R.1.length = k + (findW cd day (300 - k) fr).1.length
 st0 : k = 0 → fr = st
 st1 : 0 < k → lastE st cd = 0 ∧ st ≤ day ∧ fr ≤ day
theorem OfAt.next {R : List (Int × Int) × Bool} {st cd day : Int} {k : Nat} {fr : Int} (h : OfAt R st cd day k fr) (hk : k < 300) (he : lastE fr cd = 0) (hF : lastF fr cd < day) (hst : st ≤ day) : OfAt R st cd day (k + 1) (lastF fr cd + 1) := by
 obtain ⟨k3, two, len, st0, st1⟩ := h
 have he0 : lastE st cd = 0 := by
  rcases Nat.eq_zero_or_pos k with h | h
  ·rw [← st0 h]; exact he
  ·exact (st1 h).1
 obtain ⟨f, hf⟩ : ∃ f, 300 - (k + 1) = f := ⟨_, rfl⟩
 have hkk : 300 - k = f + 1 := by omega
 rw [hkk] at two len
 refine ⟨by omega, ?_, ?_, by omega, fun _ => ⟨he0, hst, by omega⟩⟩
 ·rw [hf]
  by_cases hf0 : f = 0
  ·subst hf0
   rw [findW_stop he (fun h => h.2 rfl)] at two
   rw [two, show decide (day ≤ lastF fr cd) = false by simp; omega]
   simp [findW]
  ·rw [findW_go he ⟨hF, hf0⟩] at two; exact two
 ·rw [hf]
  by_cases hf0 : f = 0
  ·subst hf0
   rw [findW_stop he (fun h => h.2 rfl)] at len
   rw [len]; rfl
  ·rw [findW_go he ⟨hF, hf0⟩, List.length_cons] at len; omega
theorem ofE_0 {R : List (Int × Int) × Bool} {st cd day : Int} (hR : findW cd day 300 st = R) (h : lastE st cd = 0) (h2 : R.2 = true) : ofE st cd day = 0 := by unfold ofE; rw [if_pos h, hR, if_pos h2]
theorem ofE_10 {R : List (Int × Int) × Bool} {st cd day : Int} (hR : findW cd day 300 st = R) (h : lastE st cd = 0) (h2 : R.2 = false) : ofE st cd day = 10 := by unfold ofE; rw [if_pos h, hR, if_neg (by rw [h2]; decide)]
theorem ofE_n {st cd day : Int} (h : ¬ lastE st cd = 0) : ofE st cd day = lastE st cd := by unfold ofE; rw [if_neg h]
theorem ofV_R {R : List (Int × Int) × Bool} {st cd day : Int} (hR : findW cd day 300 st = R) : ofV st cd day = if ofE st cd day = 0 then (R.1.length : Int) else 0 := by unfold ofV; rw [hR]
set_option maxRecDepth 100000 in
set_option maxHeartbeats 1600000 in
theorem rcycOf_any (st cd day : Int) (w : World) : Calls Try.prog 32 #[.int .i64 st, .int .i64 cd, .int .i64 day] w fun e w' => e = .returned (.tuple #[.int .i64 (ofV st cd day), .int .i64 (ofE st cd day)]) ∧ Keeps (fun _ => False) w w' := by
 obtain ⟨E, hE⟩ : ∃ z, ofE st cd day = z := ⟨_, rfl⟩
 obtain ⟨V, hV⟩ : ∃ z, ofV st cd day = z := ⟨_, rfl⟩
 obtain ⟨R, hR⟩ : ∃ R, findW cd day 300 st = R := ⟨_, rfl⟩
 have hV' := ofV_R hR
 rw [hE, hV] at hV'
 rw [hE, hV]
 have h10 := ofE_10 hR
 have h00 := ofE_0 hR
 rw [hE] at h10 h00
 have hnn := ofE_n (st := st) (cd := cd) (day := day)
 rw [hE] at hnn
 have hof0 : OfAt R st cd day 0 st := ⟨by omega, by rw [hR], by rw [hR]; simp, fun _ => rfl, fun h => by omega⟩
 obtain ⟨HE, HV, HV', HR, H10, H00, Hnn, Hof0⟩ := hid8 hE hV hV' hR h10 h00 hnn hof0; clear hof0 hnn h00 h10 hR hV' hV hE
 go_enter Try.func32, Try.ntmps32
 go_wp2
 go_loopw [8, 9] (fun x y wx => ∃ (k : Nat) (fr : Int), x = .int .i64 fr ∧ y = .int .i64 ((k : Int) + 1) ∧ OfAt R st cd day k fr ∧ Keeps (fun _ => False) w wx) (fun _ y _ => 400 - (intOf y).toNat)
 case atStart => exact ⟨0, st, rfl, rfl, Hof0.out, Keeps.refl _ _⟩
 case round =>
  obtain ⟨k, fr, rfl, rfl, hof, hk⟩ := hrel
  obtain ⟨wq, hwq⟩ : ∃ x, x = wr := ⟨_, rfl⟩
  subst hwq
  have hk3 := hof.k3
  by_cases hlt : k < 300
  ·have hltI : (k : Int) + 1 ≤ 300 := by omega
   have hla := rcycLast_any fr cd wq
   obtain ⟨F, hF⟩ : ∃ F, lastF fr cd = F := ⟨_, rfl⟩
   by_cases he : lastE fr cd = 0
   ·have hv : lastV fr cd = F := by unfold lastV; rw [if_pos he, hF]
    rw [hv, he] at hla
    obtain ⟨o1, o2, o3, o4, o5, o6⟩ := lastE_ok he
    rw [hF] at o5 o6
    have he0 : lastE st cd = 0 := by
     rcases Nat.eq_zero_or_pos k with h | h
     ·rw [← hof.st0 h]; exact he
     ·exact (hof.st1 h).1
    have hkk : 300 - k = (300 - (k + 1)) + 1 := by omega
    by_cases hds : day < st
    ·have hk0 : k = 0 := by
      rcases Nat.eq_zero_or_pos k with h | h
      ·exact h
      ·have := (hof.st1 h).2.1; omega
     have hfs := hof.st0 hk0
     have h2 := hof.two
     rw [hkk, findW_stop he (by rw [hF]; omega)] at h2
     have hd : decide (fr ≤ day) = false := by rw [decide_eq_false_iff_not]; omega
     have h2' : R.2 = false := by rw [h2]; simp only [hd, Bool.false_and]
     clear h2
     have h2 := h2'
     clear h2'
     have hE10 := H10.out he0 h2
     subst hE10
     have h := HV'.out
     rw [if_neg (by decide)] at h
     subst h
     clear o1 o2 o3 o4
     subst hk0
     subst hfs
     obtain ⟨Hof, Hk, Hla, HF, He, He0, Hv, H2, Hd⟩ := hid9 hof hk hla hF he he0 hv h2 hd; clear hd h2 hv he0 he hF hla hk hof
     go_wp2_with fail
     with_reducible refine Hla.out.mono ?_
     rintro e w1 ⟨rfl, hk1⟩
     have Hk2 := Lib.hid (Hk.out.nt hk1); clear hk1
     go_wp2
     exact bodyPost_ret (v := .tuple #[.int .i64 0, .int .i64 10]) (by simp [results, Try.results32, go_sem]) rfl ⟨rfl, Hk2.out⟩
    ·have hst : st ≤ day := by omega
     by_cases hdF : day ≤ F
     ·have h2 := hof.two
      have h3 := hof.len
      rw [hkk, findW_stop he (by rw [hF]; omega), hF] at h2 h3
      have hfd : fr ≤ day := by
       rcases Nat.eq_zero_or_pos k with h | h
       ·rw [hof.st0 h]; omega
       ·exact (hof.st1 h).2.2
      have hd : (decide (fr ≤ day) && decide (day ≤ F)) = true := by simp [hfd, hdF]
      have h2' : R.2 = true := by rw [h2]; simp only [hd]
      clear h2
      have h2 := h2'
      clear h2'
      have hE0 := H00.out he0 h2
      subst hE0
      have h := HV'.out
      rw [if_pos rfl, h3] at h
      simp only [List.length_cons, List.length_nil, Nat.zero_add] at h
      subst h
      obtain ⟨Hof, Hk, Hla, HF, He, He0, Hv, H2, H3⟩ := hid9 hof hk hla hF he he0 hv h2 h3; clear h3 h2 hv he0 he hF hla hk hof; have Hd := Lib.hid hd; clear hd
      rcases Nat.eq_zero_or_pos k with hk0 | hk0
      ·subst hk0
       go_wp2_with fail
       with_reducible refine Hla.out.mono ?_
       rintro e w1 ⟨rfl, hk1⟩
       have Hk2 := Lib.hid (Hk.out.nt hk1); clear hk1
       go_wp2
       exact bodyPost_ret (v := .tuple #[.int .i64 (((0 : Nat) : Int) + 1), .int .i64 0]) (by simp [results, Try.results32, go_sem]) rfl ⟨rfl, Hk2.out⟩
      ·have hk1' : ((k : Int) + 1 == 1) = false := by rw [beq_eq_false_iff_ne]; omega
       go_wp2_with fail
       with_reducible refine Hla.out.mono ?_
       rintro e w1 ⟨rfl, hk1⟩
       have Hk2 := Lib.hid (Hk.out.nt hk1); clear hk1
       go_wp2
       exact bodyPost_ret (v := .tuple #[.int .i64 ((k : Int) + 1), .int .i64 0]) (by simp [results, Try.results32, go_sem]) rfl ⟨rfl, Hk2.out⟩
     ·have hnx := hof.next hlt he (by rw [hF]; omega) hst
      rw [hF] at hnx
      have hdF' : F < day := by omega
      obtain ⟨Hof, Hk, Hla, HF, He, He0, Hv, Hnx⟩ := hid8 hof hk hla hF he he0 hv hnx; clear hnx hv he0 he hF hla hk hof
      rcases Nat.eq_zero_or_pos k with hk0 | hk0
      ·subst hk0
       go_wp2_with fail
       with_reducible refine Hla.out.mono ?_
       rintro e w1 ⟨rfl, hk1⟩
       have Hk2 := Lib.hid (Hk.out.nt hk1); clear hk1
       go_wp2
       go_roundw
       case rel => exact ⟨0 + 1, F + 1, rfl, by go_num, Hnx.out, Hk2.out⟩
       case measure => simp [intOf]
      ·have hk1' : ((k : Int) + 1 == 1) = false := by rw [beq_eq_false_iff_ne]; omega
       go_wp2_with fail
       with_reducible refine Hla.out.mono ?_
       rintro e w1 ⟨rfl, hk1⟩
       have Hk2 := Lib.hid (Hk.out.nt hk1); clear hk1
       go_wp2
       go_roundw
       case rel => exact ⟨k + 1, F + 1, rfl, by go_num, Hnx.out, Hk2.out⟩
       case measure => simp [intOf]; omega
   ·have hv : lastV fr cd = 0 := by unfold lastV; rw [if_neg he]
    obtain ⟨z, hz⟩ : ∃ z, lastE fr cd = z := ⟨_, rfl⟩
    rw [hv, hz] at hla
    rcases Nat.eq_zero_or_pos k with hk0 | hk0
    ·have hfs := hof.st0 hk0
     have hne : ¬ lastE st cd = 0 := by rw [← hfs]; exact he
     obtain rfl : E = z := (Hnn.out hne).trans (by rw [← hfs]; exact hz)
     rw [hz] at he
     have h := HV'.out
     rw [if_neg he] at h
     subst h
     subst hk0
     have hzI : (E != 0) = true := by simp [he]
     obtain ⟨Hof, Hk, Hla, HF, Hv, Hz, Hne, Hfs⟩ := hid8 hof hk hla hF hv hz hne hfs; clear hfs hne hz hv hF hla hk hof
     go_wp2_with fail
     with_reducible refine Hla.out.mono ?_
     rintro e w1 ⟨rfl, hk1⟩
     have Hk2 := Lib.hid (Hk.out.nt hk1); clear hk1
     go_wp2
     exact bodyPost_ret (v := .tuple #[.int .i64 0, .int .i64 E]) (by simp [results, Try.results32, go_sem]) rfl ⟨rfl, Hk2.out⟩
    ·have he0 := (hof.st1 hk0).1
     have h2 := hof.two
     rw [findW_bad he] at h2
     have hE10 := H10.out he0 h2
     subst hE10
     have h := HV'.out
     rw [if_neg (by decide)] at h
     subst h
     rw [hz] at he
     have hzI : (z != 0) = true := by simp [he]
     have hk1' : ((k : Int) + 1 == 1) = false := by rw [beq_eq_false_iff_ne]; omega
     obtain ⟨Hof, Hk, Hla, HF, Hv, Hz, He0, H2⟩ := hid8 hof hk hla hF hv hz he0 h2; clear h2 he0 hz hv hF hla hk hof
     go_wp2_with fail
     with_reducible refine Hla.out.mono ?_
     rintro e w1 ⟨rfl, hk1⟩
     have Hk2 := Lib.hid (Hk.out.nt hk1); clear hk1
     go_wp2
     exact bodyPost_ret (v := .tuple #[.int .i64 0, .int .i64 10]) (by simp [results, Try.results32, go_sem]) rfl ⟨rfl, Hk2.out⟩
  ·obtain rfl : k = 300 := by omega
   have he0 := (hof.st1 (by omega)).1
   have h2 := hof.two
   obtain rfl : E = 10 := H10.out he0 h2
   have h := HV'.out
   rw [if_neg (by decide)] at h
   subst h
   have Hk2 := Lib.hid hk
   obtain ⟨Hof, He0, H2⟩ := hid3 hof he0 h2; clear h2 he0 hof
   go_wp2
   exact bodyPost_ret (v := .tuple #[.int .i64 0, .int .i64 10]) (by simp [results, Try.results32, go_sem]) rfl ⟨rfl, Hk2.out⟩
end Go.Proofs.Ythcmpcekmkioaaa
namespace Go.Proofs.Ythcmpcekmkioaaa
open Go.RowKit
structure AllAt (A : List (Int × Int)) (cd day : Int) (i : Nat) (fr : Int) : Prop where
 le : i ≤ A.length
 more : i < A.length → i < 300 ∧ A.drop i = (findW cd day (300 - i) fr).1
theorem AllAt.next {A : List (Int × Int)} {cd day : Int} {i : Nat} {fr : Int} (h : AllAt A cd day i fr) (hi : i < A.length) : lastE fr cd = 0 ∧ A[i]? = some (fr, lastF fr cd) ∧ AllAt A cd day (i + 1) (lastF fr cd + 1) := by
 obtain ⟨le, more⟩ := h
 obtain ⟨h3, hd⟩ := more hi
 obtain ⟨f, hf⟩ : ∃ f, 300 - i = f + 1 := ⟨300 - i - 1, by omega⟩
 rw [hf] at hd
 have hcons : A.drop i = A[i] :: A.drop (i + 1) := List.drop_eq_getElem_cons hi
 rw [hcons] at hd
 by_cases he : lastE fr cd = 0
 ·by_cases hg : lastF fr cd < day ∧ f ≠ 0
  ·rw [findW_go he hg] at hd
   simp only [List.cons.injEq] at hd
   refine ⟨he, by rw [List.getElem?_eq_getElem hi, hd.1], hi, fun h => ⟨by omega, ?_⟩⟩
   rw [hd.2, show 300 - (i + 1) = f by omega]
  ·rw [findW_stop he hg] at hd
   simp only [List.cons.injEq] at hd
   have hl := congrArg List.length hd.2
   rw [List.length_drop] at hl
   simp only [List.length_nil] at hl
   exact ⟨he, by rw [List.getElem?_eq_getElem hi, hd.1], hi, fun h => by omega⟩
 ·rw [findW_bad he] at hd
  cases hd
set_option maxRecDepth 100000 in
set_option maxHeartbeats 1600000 in
theorem rcycAll_any (st cd day : Int) (w : World) : Calls Try.prog 19 #[.int .i64 st, .int .i64 cd, .int .i64 day] w fun e w' => ∃ v, e = .returned v ∧ w'.ownsRow 0 46 2 v (if ofE st cd day = 0 then allL st cd day else []).length ((if ofE st cd day = 0 then allL st cd day else []).flatMap spc) ∧ Fresh w w' v := by
 obtain ⟨i0, hi, hi0, hi1, hi2⟩ := info_parts info_tSpan
 obtain ⟨R, hR⟩ : ∃ R, findW cd day 300 st = R := ⟨_, rfl⟩
 have hof := rcycOf_any st cd day w
 have hV := ofV_R hR
 have hEd : ofE st cd day = if lastE st cd = 0 then (if R.2 = true then 0 else 10) else lastE st cd := by unfold ofE; rw [hR]
 have hAd : allL st cd day = if R.2 = true then R.1 else [] := by unfold allL; rw [hR]
 obtain ⟨E, hE⟩ : ∃ z, ofE st cd day = z := ⟨_, rfl⟩
 obtain ⟨V, hVv⟩ : ∃ z, ofV st cd day = z := ⟨_, rfl⟩
 rw [hE] at hof hV hEd ⊢
 rw [hVv] at hof hV
 rw [hAd]
 by_cases h0 : E = 0
 ·subst h0
  rw [if_pos rfl] at hV ⊢
  subst hV
  have hb : R.2 = true := by
   by_cases h1 : lastE st cd = 0
   ·rw [if_pos h1] at hEd
    rcases hh : R.2 with _ | _
    ·rw [hh] at hEd; cases hEd
    ·rfl
   ·rw [if_neg h1] at hEd; exact absurd hEd.symm h1
  rw [if_pos hb]
  obtain ⟨A, hA⟩ : ∃ A, R.1 = A := ⟨_, rfl⟩
  rw [hA] at hof ⊢
  obtain ⟨m, hm⟩ : ∃ m, A.length = m := ⟨_, rfl⟩
  have hall : AllAt A cd day 0 st := ⟨Nat.zero_le _, fun _ => ⟨by omega, by rw [← hA, ← hR]; rfl⟩⟩
  have hm3 : m ≤ 1000000 := by
   have h1 : ∀ f fr, (findW cd day f fr).1.length ≤ f := by
    intro f
    induction f with
    | zero => intro fr; exact Nat.le_refl _
    | succ f ih =>
     intro fr
     by_cases he : lastE fr cd = 0
     ·by_cases hg : lastF fr cd < day ∧ f ≠ 0
      ·rw [findW_go he hg, List.length_cons]; have := ih (lastF fr cd + 1); omega
      ·rw [findW_stop he hg]; simp
     ·rw [findW_bad he]; simp
   have := h1 300 st
   rw [hR, hA, hm] at this
   omega
  rw [hm] at hof ⊢
  obtain ⟨Hof, HE, HEd, HAd, HVv, HR, Hb, HA, Hm⟩ := hid9 hof hE hEd hAd hVv hR hb hA hm; clear hm hA hb hR hVv hAd hEd hE hof; obtain ⟨Hall, Hi, Hi0, Hi1, Hi2⟩ := hid5 hall hi hi0 hi1 hi2; clear hi2 hi1 hi0 hi hall
  go_enter Try.func19, Try.ntmps19
  go_wp2_with fail
  refine Hof.out.mono ?_
  rintro e w1 ⟨rfl, hk1⟩
  have Hk1 := Lib.hid hk1; clear hk1
  go_wp2
  go_loopw [9, 10, 11] (fun x y z wx => ∃ (i : Nat) (fr : Int), y = .int .i64 fr ∧ z = .int .i64 (i : Nat) ∧ AllAt A cd day i fr ∧ wx.ownsRow 0 46 2 x i ((A.take i).flatMap spc) ∧ Fresh w wx x) (fun _ _ z _ => m - (intOf z).toNat)
  case atStart => exact ⟨0, st, rfl, rfl, Hall.out, World.ownsRow_nil _ _ _ _, Hk1.out, by simp [Value.ownBlock]⟩
  case round =>
   obtain ⟨i, fr, rfl, rfl, hat, hrow, hfr⟩ := hrel
   have him := hat.le
   rw [Hm.out] at him
   obtain ⟨ad, cap, hv, _, _⟩ := ownsRow_shape hrow
   subst hv
   obtain ⟨wq, hwq⟩ : ∃ x, x = wr := ⟨_, rfl⟩
   subst hwq
   by_cases hlt : i < m
   ·have hltI : (i : Int) < (m : Int) := by omega
    obtain ⟨he, hx, hnx⟩ := hat.next (by rw [Hm.out]; exact hlt)
    have hla := rcycLast_any fr cd wq
    obtain ⟨F, hF⟩ : ∃ F, lastF fr cd = F := ⟨_, rfl⟩
    have hv : lastV fr cd = F := by unfold lastV; rw [if_pos he, hF]
    obtain ⟨o1, o2, o3, o4, o5, o6⟩ := lastE_ok he
    rw [hv, he] at hla
    rw [hF] at hx hnx o5 o6
    have htk := take_snoc' hx
    clear o1 o2
    obtain ⟨Hat, Hrow, Hfr, He, Hx, Hnx, Hla, HF, Hv⟩ := hid9 hat hrow hfr he hx hnx hla hF hv; clear hv hF hla hnx hx he hfr hrow hat; have Htk := Lib.hid htk; clear htk
    go_wp2_with fail
    with_reducible refine Hla.out.mono ?_
    rintro e w2 ⟨rfl, hk2⟩
    have Hrow2 := Lib.hid (Hrow.out.of_keeps hk2)
    have Hfr2 := Lib.hid (Hfr.out.keep hk2)
    clear hk2
    go_wp2_with (at_builtin; refine wpList_append_row rfl (.tmp 35) (.tmp 39) 42 rfl 0 46 i0 _ 2 16 Try.underlying42 Hi.out Hi0.out Hi1.out Hi2.out rfl (by decide) _ i _ rfl (Hrow2.out.alloc _) _ 1 _ rfl (Reads.litAt _ _ _ 2 1 _ (by first | rfl | simp) rfl) (by simp [Value.oneCell']) (by unfold maxLen; omega) (by omega) (Nat.zero_le _) ?_; intro v4 w4 hown4 hk4 hf4; have hfr4 := (Hfr2.out.keep (Keeps.alloc _ _)).app hk4 hf4; obtain ⟨ad4, c4, rfl, _, _⟩ := ownsRow_shape hown4; have Hown4 := Lib.hid hown4; have Hfr4 := Lib.hid hfr4; clear hown4 hk4 hf4 hfr4)
    go_roundw
    case rel => exact ⟨i + 1, F + 1, rfl, by go_num, Hnx.out, by rw [Htk.out, List.flatMap_append]; exact Hown4.out, Hfr4.out⟩
    case measure => simp [intOf]; omega
   ·obtain rfl : i = m := by omega
    rw [List.take_of_length_le (by rw [Hm.out]; exact Nat.le_refl _)] at hrow
    obtain ⟨Hat, Hrow, Hfr⟩ := hid3 hat hrow hfr; clear hfr hrow hat
    go_wp2
    go_ret
    exact ⟨_, rfl, Hrow.out, Hfr.out⟩
 ·rw [if_neg h0] at hV ⊢
  subst hV
  have hEI : (E != 0) = true := by simp [h0]
  obtain ⟨Hof, HE, HEd, HAd, HVv, HR⟩ := hid6 hof hE hEd hAd hVv hR; clear hR hVv hAd hEd hE hof
  go_enter Try.func19, Try.ntmps19
  go_wp2_with fail
  refine Hof.out.mono ?_
  rintro e w1 ⟨rfl, hk1⟩
  have Hk1 := Lib.hid hk1; clear hk1
  go_wp2
  go_ret
  exact ⟨_, rfl, World.ownsRow_nil _ _ _ _, Hk1.out, by simp [Value.ownBlock]⟩
end Go.Proofs.Ythcmpcekmkioaaa
namespace Go.Proofs.Ythcmpcekmkioaaa
open Go.RowKit
def em10 (gs os ga oa B : Nat) (i fr te du : Int) (vl : Value) (gr : Bool) (vt : Value) (W : World) : Prop := W.cell? ⟨gs, os, none⟩ = some (.int .i64 i) ∧ W.cell? ⟨gs, os + 1, none⟩ = some (.int .i64 fr) ∧ W.cell? ⟨gs, os + 2, none⟩ = some (.int .i64 te) ∧ W.cell? ⟨gs, os + 3, none⟩ = some (.int .i64 du) ∧ W.cell? ⟨gs, os + 4, none⟩ = some vl ∧ W.cell? ⟨gs, os + 5, none⟩ = some (.int .i64 0) ∧ W.cell? ⟨gs, os + 7, none⟩ = some (.int .i64 0) ∧ W.cell? ⟨gs, os + 8, none⟩ = some (.bool true) ∧ W.cell? ⟨ga, oa, none⟩ = some (.int .i64 fr) ∧ W.cell? ⟨ga, oa + 1, none⟩ = some (.int .i64 te) ∧ W.cell? ⟨B, 1, none⟩ = some vt
theorem em10.keep {gs os ga oa B : Nat} {i fr te du : Int} {vl vt : Value} {gr : Bool} {W W' : World} (h : em10 gs os ga oa B i fr te du vl gr vt W) (hk : Keeps (fun _ => False) W W') : em10 gs os ga oa B i fr te du vl gr vt W' := by
 obtain ⟨h1, h2, h3, h4, h5, h6, h7, h8, h9, h10, h11⟩ := h
 have k : ∀ {p : Addr} {u : Value}, W.cell? p = some u → W'.cell? p = some u := fun hc => (hk.cell (cell_lt hc) (by simp)).trans hc
 exact ⟨k h1, k h2, k h3, k h4, k h5, k h6, k h7, k h8, k h9, k h10, k h11⟩
set_option maxRecDepth 100000 in
set_option maxHeartbeats 6400000 in
theorem replayEmpty_walk (w : World) (t : Tm) (adt : Option Addr) (ct : Nat) (htr : Reads w 2 (.slice adt t.trs.length ct) t.trs.length (t.trs.flatMap Tn.cells)) (htm : t.trs.length ≤ maxLen) (d : Int) (_ : (Lit.int .i64 d).wf = true) :
  Calls Try.prog 4 #[t.val (.slice adt t.trs.length ct), .int .i64 d] w fun e w' => e = .returned (.bool true) ∧ Below w.heap.size w w' := by
 obtain ⟨n, hn⟩ : ∃ n, t.trs.length = n := ⟨_, rfl⟩
 rw [hn] at htr htm
 simp only [Tm.val]
 rw [hn]
 have hmx : n ≤ 9223372036854775807 := htm
 obtain ⟨P, hP⟩ : ∃ P, playT t = P := ⟨_, rfl⟩
 obtain ⟨D, hD⟩ : ∃ D, uq d 700 = D := ⟨_, rfl⟩
 have hu0 : 0 ≤ IntKind.u64.wrap d := by rw [IntKind.wrap_u64]; omega
 have hDt : (IntKind.u64.wrap d).tmod 700 = D := by rw [Int.tmod_eq_emod_of_nonneg hu0]; exact hD
 have hDb := uq_bd d (m := 700) (by decide)
 rw [hD] at hDb
 obtain ⟨D0, D1⟩ := hDb
 have hpt := fun W (hW : Keeps (fun _ => False) w W) => playTerms_any t adt ct n W hn (htr.keeps hW (by simp)) hmx
 have hpo := playT_ok t
 rw [hP] at hpt hpo
 obtain ⟨pz, ps0, ps1⟩ := hpo
 obtain ⟨⟨pl0, pl1⟩, _, ⟨pc0, pc1⟩, _⟩ := tm_nums pz
 obtain ⟨s, hw1, hsp, hsR, hso, ha1, ha2, hoe⟩ := empty_walk pz ps0 ps1 (d := D.toNat) (by omega)
 rw [show ((D.toNat : Nat) : Int) = D by omega] at hw1 hso ha1 ha2 hoe
 obtain ⟨A, hA⟩ : ∃ A, allL P.start P.cyc (P.start + D) = A := ⟨_, rfl⟩
 rw [hA] at hso ha1 ha2
 have hall := fun W => rcycAll_any P.start P.cyc (P.start + D) W
 rw [hoe, if_pos rfl, hA] at hall
 obtain ⟨m, hm⟩ : ∃ m, P.trs.length = m := ⟨_, rfl⟩
 have hrun := fun ad1 c1 W h1 => repRun_any P ad1 c1 m [] none 0 0 (P.start + D) W hm h1 rfl (Reads.nil W 5) (by decide) (by omega)
 rw [hw1] at hrun
 obtain ⟨si, sd, sp, sR, se0, se1, so⟩ := s
 simp only at hsp hsR hso
 subst hsp hsR hso
 have hout := walkR_out hw1 rfl
 clear hw1
 obtain ⟨Htr, Hn, HP, HD, Hu0, Hpt, Hrun, Hall, HA⟩ := hid9 htr hn hP hD hu0 hpt hrun hall hA; clear hA hall hrun hpt hu0 hD hP hn htr; obtain ⟨Hm, Hout⟩ := hid2 hm hout; clear hout hm
 go_enter Try.func4, Try.ntmps4
 go_wp2_with (go_at_call 12; (with_reducible refine (Hpt.out _ (Keeps.alloc _ _)).mono ?_); rintro e w1 ⟨v1, rfl, hrd1, hk1, hfr1⟩; obtain ⟨av, cv, rfl, _⟩ := id hrd1; have Hfr1 := Lib.hid hfr1; clear hfr1; have hb1 := box_new hk1 (by simp); have Hrd1 := Lib.hid hrd1; have Hk1 := Lib.hid ((Keeps.alloc (S := fun _ => False) w _).nt hk1); have Hb1 := Lib.hid hb1; clear hrd1 hk1 hb1; refine haltW ?_)
 refine Lib.hid ?_
 obtain ⟨B, hBe⟩ : ∃ x, x = w.heap.size := ⟨_, rfl⟩
 rw [← hBe] at Hb1 ⊢
 have hwk1 := store7 Hb1.out (.int .i64 P.limit) (.slice av P.trs.length cv) (.int .i64 P.cyc) (.int .i64 P.due) (.int .i64 P.minFixed) (.int .i64 P.minPart) (.int .i64 P.start)
 obtain ⟨w2, hw2⟩ : ∃ x, x = ((((((w1.setCell ⟨B, 0, none⟩ (.int .i64 P.limit)).setCell ⟨B, 1, none⟩ (.slice av P.trs.length cv)).setCell ⟨B, 2, none⟩ (.int .i64 P.cyc)).setCell ⟨B, 3, none⟩ (.int .i64 P.due)).setCell ⟨B, 4, none⟩ (.int .i64 P.minFixed)).setCell ⟨B, 5, none⟩ (.int .i64 P.minPart)).setCell ⟨B, 6, none⟩ (.int .i64 P.start) := ⟨_, rfl⟩
 rw [← hw2] at hwk1
 obtain ⟨hb2, hk12⟩ := hwk1
 have hk2 : Keeps (fun _ => False) w w2 := Hk1.out.trans (hk12.mono fun i _ e => .inr (by have e' : i = B := e; omega))
 have hrd2 : Reads w2 2 (.slice av P.trs.length cv) P.trs.length (P.trs.flatMap Tn.cells) := Hrd1.out.keeps hk12 (fun g hg e => by
  have e' : g = B := e
  rcases Hfr1.out with h | h
  ·rw [h] at hg
   obtain ⟨g', e1, e2⟩ := Htr.out.lt (fun e => by
    have h2 := congrArg List.length e
    rw [flatMap_len t.trs, Hn.out] at h2
    simp only [Value.slice.injEq] at h
    simp at h2
    omega)
   rw [e1] at hg
   injection hg with hg
   omega
  ·have := h g hg
   simp only [World.size_alloc] at this
   omega)
 have s0 := cell_of_cells (Hb1.out) 0
 have s1 := cell_of_cells (Hb1.out) 1
 have s2 := cell_of_cells (Hb1.out) 2
 have s3 := cell_of_cells (Hb1.out) 3
 have s4 := cell_of_cells (Hb1.out) 4
 have s5 := cell_of_cells (Hb1.out) 5
 have s6 := cell_of_cells (Hb1.out) 6
 have sl := lt_of_block (Hb1.out)
 have f0 := free_of_cells (Hb1.out) 0
 have f1 := free_of_cells (Hb1.out) 1
 have f2 := free_of_cells (Hb1.out) 2
 have f3 := free_of_cells (Hb1.out) 3
 have f4 := free_of_cells (Hb1.out) 4
 have f5 := free_of_cells (Hb1.out) 5
 have f6 := free_of_cells (Hb1.out) 6
 obtain ⟨Hb2, Hk12, Hk2, Hrd2, HBe⟩ := hid5 hb2 hk12 hk2 hrd2 hBe; clear hBe hrd2 hk2 hk12 hb2
 go_upto_region 2 with fail
 rw [← hw2]
 clear hw2 s0 s1 s2 s3 s4 s5 s6 sl f0 f1 f2 f3 f4 f5 f6
 have hb2 := Hb2.out
 rw [Hm.out] at hb2 ⊢
 have t0 := cell_of_cells (hb2) 0
 have t1 := cell_of_cells (hb2) 1
 have t2 := cell_of_cells (hb2) 2
 have t3 := cell_of_cells (hb2) 3
 have t4 := cell_of_cells (hb2) 4
 have t5 := cell_of_cells (hb2) 5
 have t6 := cell_of_cells (hb2) 6
 have tl := lt_of_block (hb2)
 have Hb2 := Lib.hid hb2; clear hb2
 have hrd2' : Reads w2 2 (.slice av m cv) m (P.trs.flatMap Tn.cells) := by rw [← Hm.out]; exact Hrd2.out
 have Hrd2' := Lib.hid hrd2'; clear hrd2'
 go_wp2_with fail
 refine (Hrun.out av cv _ Hrd2'.out).mono ?_
 clear t0 t1 t2 t3 t4 t5 t6 tl
 rintro e w4 (⟨hz, vb, vr, vo, Q, rfl, hres⟩ | ⟨hz, _⟩)
 rotate_left
 ·exact absurd rfl hz
 obtain ⟨q, hq⟩ : ∃ q, Q.length = q := ⟨_, rfl⟩
 obtain ⟨z, hzl⟩ : ∃ z, A.length = z := ⟨_, rfl⟩
 have hqz : q + 1 = z := by
  have h1 := congrArg List.length hres.lp
  rw [List.length_map] at h1
  have h2 := empP_length P A 0
  simp only at h1
  omega
 have hro := hres.out
 rw [hq] at hro
 have hrb := hres.bal
 have hrr := hres.rts
 obtain ⟨a4, c4, rfl, _⟩ := ownsRow_shape hrb
 obtain ⟨a5, c5, rfl, _⟩ := ownsRow_shape hrr
 obtain ⟨a6, c6, rfl, _⟩ := ownsRow_shape hro
 have hb4 := box_old Hb2.out hres.kp (by simp)
 have hk24 := hres.kp
 rw [hzl] at ha1 ha2
 have t0 := cell_of_cells (hb4) 0
 have t1 := cell_of_cells (hb4) 1
 have t2 := cell_of_cells (hb4) 2
 have t3 := cell_of_cells (hb4) 3
 have t4 := cell_of_cells (hb4) 4
 have t5 := cell_of_cells (hb4) 5
 have t6 := cell_of_cells (hb4) 6
 have tl := lt_of_block (hb4)
 obtain ⟨Hres, Hro, Hrb, Hrr, Hq, Hzl, Hqz, Hb4, Hk24⟩ := hid9 hres hro hrb hrr hq hzl hqz hb4 hk24; clear hk24 hb4 hqz hzl hq hrr hrb hro hres
 go_wp2_with (go_at_call 19; (with_reducible refine (Hall.out _).mono ?_); rintro e w5 ⟨v5, rfl, hr5, hf5⟩; rw [Hzl.out] at hr5; obtain ⟨a7, c7, rfl, _, _⟩ := ownsRow_shape hr5; have Hr5 := Lib.hid hr5; have Hf5 := Lib.hid hf5; clear hr5 hf5; refine haltW ?_)
 refine Lib.hid ?_
 clear t0 t1 t2 t3 t4 t5 t6 tl
 have hk45 : Keeps (fun _ => False) w4 w5 := (Keeps.alloc w4 _).nt Hf5.out.1
 have hp5 := box_new Hf5.out.1 (by simp)
 have hb5 := box_old Hb4.out hk45 (by simp)
 obtain ⟨Hk45, Hp5, Hb5⟩ := hid3 hk45 hp5 hb5; clear hb5 hp5 hk45
 go_wp2_with (go_at_call 11; (with_reducible refine (awake19_any _).mono ?_); rintro e w6 ⟨rfl, hk6⟩; have Hk6 := Lib.hid hk6; clear hk6; refine haltW ?_)
 refine Lib.hid ?_
 have hp6 := box_old Hp5.out Hk6.out (by simp)
 have hb6 := box_old Hb5.out Hk6.out (by simp)
 have hk46 := Hk45.out.nt Hk6.out
 have htot := r11Total_any (List.replicate P.trs.length 0) 0 0 a4 c4 m w6 (Reads.of_owns (Hrb.out.of_keeps hk46)) (by rw [List.length_replicate]; exact Hm.out) (by have := Hm.out; omega) (rep_right pl0 pl1)
 rw [sum_rep] at htot
 have y0 := cell_of_cells hp6 0
 have y1 := cell_of_cells hp6 1
 have y2 := cell_of_cells hp6 2
 have yl := lt_of_block hp6
 have hqzI : ((q : Int) != (z : Int) - 1) = false := by have := Hqz.out; simp; omega
 have hqzI2 : (q : Int) = (z : Int) - 1 := by have := Hqz.out; omega
 have hmm : ((m : Int) != (m : Int)) = false := by simp
 obtain ⟨Hp6, Hb6, Hk46, Htot, HqzI2⟩ := hid5 hp6 hb6 hk46 htot hqzI2; clear hqzI2 htot hk46 hb6 hp6
 go_wp2_with (go_at_call 20; (with_reducible refine Htot.out.mono ?_); rintro e w7 ⟨rfl, hk7⟩; have Hk7 := Lib.hid hk7; clear hk7; refine haltW ?_)
 refine Lib.hid ?_
 clear y0 y1 y2 yl
 have hp7 := box_old Hp6.out Hk7.out (by simp)
 have hb7 := box_old Hb6.out Hk7.out (by simp)
 have hk47 := Hk46.out.nt Hk7.out
 have hk57 := Hk6.out.nt Hk7.out
 have y0 := cell_of_cells hp7 0
 have y1 := cell_of_cells hp7 1
 have y2 := cell_of_cells hp7 2
 have yl := lt_of_block hp7
 have b1 := cell_of_cells hb7 1
 have bl := lt_of_block hb7
 obtain ⟨Hp7, Hb7, Hk47, Hk57⟩ := hid4 hp7 hb7 hk47 hk57; clear hk57 hk47 hb7 hp7
 go_wp2
 clear y0 y1 y2 yl b1 bl
 go_loopw [11] (fun x wx => ∃ i : Nat, x = .int .i64 (i : Nat) ∧ i ≤ q ∧ Keeps (fun _ => False) w7 wx) (fun x _ => q - (intOf x).toNat)
 case atStart => exact ⟨0, rfl, Nat.zero_le _, Keeps.refl _ _⟩
 case round =>
  obtain ⟨i, rfl, hiq, hk⟩ := hrel
  by_cases hlt : i < q
  ·have hltI : (i : Int) < (q : Int) := by omega
   obtain ⟨wq, hwq⟩ : ∃ x, x = wr := ⟨_, rfl⟩
   subst hwq
   obtain ⟨fr, te, hai, hei⟩ := empP_get P A 0 i (by have := Hqz.out; have := Hzl.out; omega)
   obtain ⟨⟨xs, xa, xc⟩, hx⟩ := get_some (L := Q) (k := i) (by rw [Hq.out]; exact hlt)
   have hxs : xs = empS P i fr te := by
    have h1 : (Q.map SV.s)[i]? = some xs := by rw [List.getElem?_map, hx]; rfl
    rw [Hres.out.lp] at h1
    have h2 : (empP P 0 A)[i]? = some xs := h1
    rw [hei, Nat.zero_add] at h2
    exact (Option.some.inj h2).symm
   subst hxs
   have hll := empS_lines P i fr te
   rw [Hm.out] at hll
   have hroq := (Hro.out.of_keeps Hk47.out).of_keeps hk
   have hraq := (Hr5.out.of_keeps Hk57.out).of_keeps hk
   obtain ⟨gs, cs, hes, _⟩ := owns_some hroq (by omega)
   obtain ⟨ga, ca, hea, _⟩ := owns_some hraq (by have := Hqz.out; omega)
   simp only [Value.slice.injEq, true_and] at hes hea
   obtain ⟨rfl, rfl⟩ := hes
   obtain ⟨rfl, rfl⟩ := hea
   rw [← Hq.out] at hroq
   rw [← Hzl.out] at hraq
   have hb8 := box_old Hb7.out hk (by simp)
   have hc := fun j hj => owns_elem SV.cells_length hroq hx j hj
   have hd := fun j hj => owns_elem spc_length hraq hai j hj
   have hS : em10 gs (i * 9) ga (i * 2) B ((i : Int) + 1) fr te (te + P.due) (.slice xa m xc) true (.slice av m cv) wq.drew := (show em10 gs (i * 9) ga (i * 2) B ((i : Int) + 1) fr te (te + P.due) (.slice xa m xc) true (.slice av m cv) wq from
    ⟨hc 0 (by decide), hc 1 (by decide), hc 2 (by decide), hc 3 (by decide), (hc 4 (by decide)).trans (by rw [← hll]; rfl), hc 5 (by decide), hc 7 (by decide), hc 8 (by decide), hd 0 (by decide), hd 1 (by decide), cell_of_cells hb8 1⟩).keep (Keeps.drew _)
   have hls := cell_lt (hc 0 (by decide))
   have hla := cell_lt (hd 0 (by decide))
   have hlb := lt_of_block hb8
   have hwi1 : IntKind.i64.wrap ((i : Int) + 1) = (i : Int) + 1 := by have := ha2; have := Hqz.out; rw [IntKind.wrap_i64]; omega
   have hne1 : ((i : Int) + 1 != (i : Int) + 1) = false := by simp
   have hiz : (i : Int) < (z : Int) := by have := Hqz.out; omega
   clear hc hd
   obtain ⟨Hk, Hai, Hei, Hx, Hll, Hroq, Hraq, Hb8, HS⟩ := hid9 hk hai hei hx hll hroq hraq hb8 hS; clear hS hb8 hraq hroq hll hx hei hai hk
   go_wp2_with fail
   refine wp_region_mixw (em10 gs (i * 9) ga (i * 2) B ((i : Int) + 1) fr te (te + P.due) (.slice xa m xc) true (.slice av m cv)) (.take 0 (.take 1 (.take 2 (.take 3 (.take 4 (.take 5 (.take 6 (.take 7 (.take 8 (.take 9 (.take 10 (.take 11 (.take 12 (.take 13 (.take 14 (.take 15 (.take 16 (.take 17 (.take 18 (.take 19 (.take 20 (.take 21 (.take 22 (.take 23 (.take 24 (.take 25 (.take 26 (.take 27 (.take 28 (.take 29 (.take 30 (.take 31 (.take 32 (.take 33 (.take 34 (.take 35 (.take 36 (.take 37 (.take 38 (.take 39 (.take 40 (.take 41 (.take 42 (.take 43 (.take 44 (.take 45 (.take 46 (.take 47 (.take 48 (.take 49 (.take 50 (.take 51 (.take 52 (.take 53 (.take 54 (.take 55 .done)))))))))))))))))))))))))))))))))))))))))))))))))))))))) (by kernel_rfl) (by kernel_rfl) ?_ ?_
   ·exact HS.out
   intro w8 hs8 hk8
   repeat (first
    | (refine mix_skip rfl (by rfl) ?_; try simp only [Act.put, List.setIfInBounds_toArray, List.set_cons_zero, List.set_cons_succ])
    | (refine mix_skipm rfl (by rfl) ?_; try simp only [Act.put, List.setIfInBounds_toArray, List.set_cons_zero, List.set_cons_succ])
    | (refine mix_take (v := ?_) rfl (by rfl) ?_ ?_; rotate_left; (· intro w' hSw; unfold em10 at hSw; go_simp; (try with_reducible rfl)); rotate_right; try simp only [Act.put, List.setIfInBounds_toArray, List.set_cons_zero, List.set_cons_succ]))
   refine mix_done ?_
   clear hs8
   go_wp2
   go_roundw
   case rel => exact ⟨i + 1, by go_num, by omega, Hk.out.nt hk8⟩
   case measure => simp [intOf]; omega
  ·obtain rfl : q = i := by omega
   have Hk := Lib.hid hk; clear hk
   go_wp2
   go_ret
   exact ⟨rfl, (((Hk2.out.nt Hk24.out).nt Hk47.out).nt Hk.out).below (by simp) (Nat.le_refl _)⟩
end Go.Proofs.Ythcmpcekmkioaaa
namespace Go.Proofs.Ythcmpcekmkioaaa.replayEmpty
open Go.ChangeShapes Go.WideShapes Go.ChangeAt Go.RowKit Go.Deep
set_option maxRecDepth 100000 in
theorem lifted (os : Os) (started : os.Started) (H : Type) (enc : TypeId × Value → H) :
  ReturnsInHanded {} Try.checked os 4 .any (Rows.replayEmptySpec.pre6 enc Try.prog Try.f4 Rows.replayEmptyRow.domain false) (Rows.replayEmptySpec.post enc Try.prog Try.f4 false true false false) := by
 refine returnsInHanded_of_change (C := Try.checked) own started (by kernel_rfl) Try.func4
  (ChangeSpec.witness6 (enc := enc) (C := Try.checked) false ⟨#[], #[.agg #[.int .i64 0, .slice none 0 0, .int .i64 0, .int .i64 0, .int .i64 0, .int .i64 0, .int .i64 0], .int .i64 0], []⟩ 8 (by kernel_rfl) (by kernel_rfl) (by kernel_rfl) (by kernel_rfl)) ?_
 intro W base args ds gs before hval0 hW hcnd _
 have hval : ∀ (j : Nat) t v, Try.f4.params[j]? = some t → args[j]? = some v → Value.okWide Try.prog W .any base t v := hval0
 have hW' := hW
 obtain ⟨p, q, hA0, hV, rfl, hfz, hnd⟩ := hW
 have hA : DataW.TrodAll enc Try.prog W 0 (fun _ => true) true Try.f4.params.toList args.toList ds p := hA0
 rw [Try.params4] at hA hval
 obtain ⟨v0, vs0, d0, ds0, p0, q0, hargs, rfl, rfl, h0, r0⟩ := trodAll_cons hA
 obtain ⟨v1, vs1, d1, ds1, p1, q1, rfl, rfl, rfl, h1, r1⟩ := trodAll_cons r0
 obtain ⟨rfl, rfl, rfl⟩ := trodAll_nil r1
 obtain rfl : args = #[v0, v1] := by cases args; simp_all
 obtain ⟨rfl, rfl⟩ := trodVars_none hV
 obtain ⟨cs0, rfl, hsz0⟩ := okWide_struct Try.underlying24 (hval 0 24 v0 rfl rfl)
 have k0 := h0
 have lt0 : ∀ x ∈ p0, x.block < W.heap.size := by obtain ⟨m, hm⟩ := k0; exact DataW.trod_lt m _ _ _ hm
 obtain ⟨a0, ad0, cap0, e0, hr0, hm0⟩ : ∃ (a : Tm) (ad : Option Addr) (cap : Nat), (Value.agg cs0).cells.toList = Tm.list a ad cap ∧ Reads W 2 (.slice ad a.trs.length cap) a.trs.length (a.trs.flatMap Tn.cells) ∧ a.trs.length ≤ maxLen := by obtain ⟨fuel, hf⟩ := h0; exact open_Tm _ _ _ hf
 have f0 : cs0 = (Tm.list a0 ad0 cap0).toArray := by rw [← e0]; simp [Value.cells]
 subst f0
 obtain ⟨a1, rfl, rfl, rfl, w1⟩ := open_int Try.underlying3 (hval 1 3 v1 rfl rfl) h1
 clear hA0 hval0
 refine (replayEmpty_walk W a0 ad0 cap0 hr0 hm0 a1 w1).mono fun e W' ⟨he, bel⟩ => ?_
 subst he
 exact ⟨_, rfl, _, _, _, [], _, [], hW', trodAll_mk1 (shut_bool Try.underlying4 _), (trodAll_cons_mk (Below.trod laidOut (by kernel_rfl) (of_decide_eq_true (by kernel_rfl)) k0 bel lt0) (trodAll_cons_mk (shut_int Try.underlying3 w1) trodAll_mk0)), rfl, bel.frame _, fun h => by cases h⟩
theorem over : Rows.replayEmptyRow.holds Try.pinned (OpenSpec.ofChange Rows.replayEmptySpec) :=
 OpenClaim.holds_of_wide 4 Try.f4 rfl rfl rfl rfl rfl rfl rfl ⟨rfl, rfl, rfl, rfl, rfl⟩ rfl rfl rfl rfl rfl (by kernel_rfl) Try.func4 (by kernel_rfl)
  (of_decide_eq_true (by kernel_rfl)) (by unfold Func.isWrapper; first | (rw [if_pos (by decide +kernel)]; kernel_rfl) | (rw [if_neg (by decide +kernel)]; exact ⟨rfl, rfl⟩))
  (fun os started H enc _ => lifted os started H enc)
theorem proved : Rows.ReplayEmptySaid := over
#print axioms proved
end Go.Proofs.Ythcmpcekmkioaaa.replayEmpty
