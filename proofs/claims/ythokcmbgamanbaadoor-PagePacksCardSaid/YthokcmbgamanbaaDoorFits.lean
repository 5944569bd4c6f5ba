/- An append that fits in the room there is. -/
import Derived.Test.YthokcmbgamanbaaDoorCopy
import Derived.Test.YthokcmbgamanbaaDoorKit4
namespace Go.Proofs.YthokcmbgamanbaaDoor
open Go.RowKit
theorem wpList_append_fits {P : Program} {w : World} {ops : Array Oper} {rest : List Oper} {o : Oper} {a : Act} {Q : Exit → Act → World → Prop} (hgd : o.guard = none) (s x : Operand) (t : TypeId)
    (ho : o.op = .call { callee := .builtin .append, args := #[s, x], argTypes := #[t, t] })
    (e : TypeId) (i : TypeInfo) (size : Nat) (ht : P.underlying t = some (.slice e)) (hi : P.info? e = some i) (hsize : i.size = size)
    (g n cap : Nat) (cur : List Value) (hs : a.eval s = .slice (some ⟨g, 0, none⟩) n cap) (hg : w.heap[g]? = some (.cells cur.toArray e (0, 0))) (hcs : cur.length = cap * size) (hcm : cap ≤ maxLen)
    (xv : Value) (m : Nat) (news : List Value) (hx : a.eval x = xv) (hxr : Reads w size xv m news) (h1 : ∀ u ∈ news, u.oneCell' = true) (hroom : n + m ≤ cap)
    (h : ∀ w', w'.heap[g]? = some (.cells (laid cur (n * size) news).toArray e (0, 0)) → Keeps (fun k => k = g) w w' → wpList P ops Q rest (a.put o.dst (.slice (some ⟨g, 0, none⟩) (n + m) cap)) w') : wpList P ops Q (o :: rest) a w := by
  refine wpList_plain hgd fun K hK => ?_
  subst hsize
  obtain ⟨ad, c, rfl, hmc, hl, hnone, hnews⟩ := hxr
  have hnc : n * i.size ≤ cap * i.size := Nat.mul_le_mul_right _ (by omega)
  have hnm : (n + m) * i.size ≤ cap * i.size := Nat.mul_le_mul_right _ hroom
  rw [Nat.add_mul] at hnm
  rcases ad with _ | ad
  · have hc0 := hnone rfl
    subst hc0
    obtain rfl : m = 0 := by omega
    obtain rfl : news = [] := List.eq_nil_of_length_eq_zero (by simpa using hl)
    have hown : w.ownsRow 0 e i.size (.slice (some ⟨g, 0, none⟩) n cap) n (cur.take (n * i.size)) := by
      refine ⟨by rw [List.length_take]; omega, .inr ⟨g, cap, cur.toArray, rfl, Nat.zero_le _, hg, by omega, hcm, by simpa using hcs, by simp⟩⟩
    have hr := run_append_owned_none (P := P) w 0 t o.type e i i.size ht hi _ n _ hown
    unfold Oper.wp execOp
    simp only [ho, resolve, invoke, builtin, Sem.run_bind, Sem.run_pure, Result.andThen_ok, List.map_toArray, List.map_cons, List.map_nil, hs, hx, hr]
    refine hK _ _ (h _ ?_ (Keeps.refl _ _))
    rw [hg]; simp [laid]
  · have hnews' : ∀ j u, news[j]? = some u → w.cell? (ad.add j) = some u := fun j u hj => by
      obtain ⟨g', o', ha', hh⟩ := hnews j u hj
      cases ha'
      rw [add_mk]
      exact hh
    have hr := run_append_room (P := P) w t o.type e i ht hi g n cap cur.toArray hg ad m c news hl hnews' h1 hroom (by rw [List.size_toArray, hl, hcs]; exact hnm)
    unfold Oper.wp execOp
    simp only [ho, resolve, invoke, builtin, Sem.run_bind, Sem.run_pure, Result.andThen_ok, List.map_toArray, List.map_cons, List.map_nil, hs, hx, hr]
    exact hK _ _ (h _ (setRow_heap w g _ _ e _ hg) ⟨rfl, rfl, rfl, by simp, fun k _ hk => setRow_other w g k _ hk⟩)
theorem rep_snoc {α : Type} (L : List α) (x z : α) (j m : Nat) : (L ++ List.replicate j x ++ List.replicate (m + 1) z).set (L.length + j) x = L ++ List.replicate (j + 1) x ++ List.replicate m z := by
  rw [List.set_append_right _ _ (by simp), show L.length + j - (L ++ List.replicate j x).length = 0 by simp, List.replicate_succ, List.set_cons_zero, List.replicate_succ', List.append_assoc, List.append_assoc, List.append_assoc]
  rfl
end Go.Proofs.YthokcmbgamanbaaDoor
