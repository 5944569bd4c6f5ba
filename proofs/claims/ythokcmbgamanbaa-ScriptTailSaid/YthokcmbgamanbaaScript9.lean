/- ScriptTail: four bytes more are one command more, up to as many as may be; what stands ahead stays. -/
import Derived.Test.YthokcmbgamanbaaScript8
import Derived.Test.YthokcmbgamanbaaScrPlain2
import Derived.Test.YthokcmbgamanbaaOpen2
import Derived.Deep.DeepCutAuto
namespace Go.Proofs.Ythokcmbgamanbaa
open Go.RowKit
theorem ByOk.app {B M : List Int} (h : ByOk B) (hM : ∀ z ∈ M, 0 ≤ z ∧ z ≤ 255) (hl : (B ++ M).length ≤ 1000000000000) : ByOk (B ++ M) := ⟨fun z hz => by
  rcases List.mem_append.1 hz with hz | hz
  · exact h.1 z hz
  · exact hM z hz, hl⟩
theorem box_app {w3 w4 : World} {cs : Array Value} {t e : TypeId} {v : Value} {n size base : Nat} {xs : List Value} (hk : Keeps (fun k => v.ownBlock = some k) (w3.alloc (.cells cs t)) w4) (ho : w3.ownsRow base e size v n xs) (hne : t ≠ e) : w4.heap[w3.heap.size]? = some (.cells cs t (0, 0)) :=
  box_new hk (fun h => by have := (ho.lt _ h).2; omega)
theorem tail_set {w1 w5 : World} {X N M' n0 n1 : Nat} {bd0 bd : Option Addr} {bap0 bap : Nat} {xs ys : List Value} {z0 z1 z2 z3 z4 z5 z6 : Value} (t0 t2 t3 t4 t5 t6 : Int) (hx : w5.heap[X]? = some (.cells #[z0, z1, z2, z3, z4, z5, z6] 27 (0, 0)))
    (h0 : w5.ownsRow 0 81 2 (.slice bd0 N bap0) n0 xs) (h1 : w5.ownsRow 0 34 5 (.slice bd M' bap) n1 ys) (hk : Keeps (fun _ => False) w1 w5) (hX : w1.heap.size ≤ X) :
    let W := (((((((w5.setCell ⟨X, 0, none⟩ (.int .i64 t0)).setCell ⟨X, 1, none⟩ (.slice bd0 N bap0)).setCell ⟨X, 2, none⟩ (.int .i64 t2)).setCell ⟨X, 3, none⟩ (.int .i64 t3)).setCell ⟨X, 4, none⟩ (.int .i64 t4)).setCell ⟨X, 5, none⟩ (.int .i64 t5)).setCell ⟨X, 6, none⟩ (.int .i64 t6))
    W.heap[X]? = some (.cells #[.int .i64 t0, .slice bd0 N bap0, .int .i64 t2, .int .i64 t3, .int .i64 t4, .int .i64 t5, .int .i64 t6] 27 (0, 0)) ∧ W.ownsRow 0 81 2 (.slice bd0 N bap0) n0 xs ∧ W.ownsRow 0 34 5 (.slice bd M' bap) n1 ys ∧ Keeps (fun _ => False) w1 W ∧ Keeps (fun k => k = X) w5 W := by
  intro W
  have hk7 : Keeps (fun k => k = X) w5 W := Keeps.set7 (S := fun k => k = X) (Keeps.refl _ w5) X (.inl rfl) _ _ _ _ _ _ _
  refine ⟨?_, hk7.row h0 (fun g hg e => by subst e; exact ownsRow_ne (t := 27) h0 hx (by decide) hg), hk7.row h1 (fun g hg e => by subst e; exact ownsRow_ne (t := 27) h1 hx (by decide) hg), hk.trans (hk7.mono fun k _ e => by right; omega), hk7⟩
  have e0 : (w5.setCell ⟨X, 0, none⟩ (.int .i64 t0)).heap[X]? = some (.cells #[.int .i64 t0, z1, z2, z3, z4, z5, z6] 27 (0, 0)) := heap_setCell_same _ _ 0 _ _ _ hx
  have e1 : ((w5.setCell ⟨X, 0, none⟩ (.int .i64 t0)).setCell ⟨X, 1, none⟩ (.slice bd0 N bap0)).heap[X]? = some (.cells #[.int .i64 t0, .slice bd0 N bap0, z2, z3, z4, z5, z6] 27 (0, 0)) := heap_setCell_same _ _ 1 _ _ _ e0
  have e2 : (((w5.setCell ⟨X, 0, none⟩ (.int .i64 t0)).setCell ⟨X, 1, none⟩ (.slice bd0 N bap0)).setCell ⟨X, 2, none⟩ (.int .i64 t2)).heap[X]? = some (.cells #[.int .i64 t0, .slice bd0 N bap0, .int .i64 t2, z3, z4, z5, z6] 27 (0, 0)) := heap_setCell_same _ _ 2 _ _ _ e1
  have e3 : ((((w5.setCell ⟨X, 0, none⟩ (.int .i64 t0)).setCell ⟨X, 1, none⟩ (.slice bd0 N bap0)).setCell ⟨X, 2, none⟩ (.int .i64 t2)).setCell ⟨X, 3, none⟩ (.int .i64 t3)).heap[X]? = some (.cells #[.int .i64 t0, .slice bd0 N bap0, .int .i64 t2, .int .i64 t3, z4, z5, z6] 27 (0, 0)) := heap_setCell_same _ _ 3 _ _ _ e2
  have e4 : (((((w5.setCell ⟨X, 0, none⟩ (.int .i64 t0)).setCell ⟨X, 1, none⟩ (.slice bd0 N bap0)).setCell ⟨X, 2, none⟩ (.int .i64 t2)).setCell ⟨X, 3, none⟩ (.int .i64 t3)).setCell ⟨X, 4, none⟩ (.int .i64 t4)).heap[X]? = some (.cells #[.int .i64 t0, .slice bd0 N bap0, .int .i64 t2, .int .i64 t3, .int .i64 t4, z5, z6] 27 (0, 0)) := heap_setCell_same _ _ 4 _ _ _ e3
  have e5 : ((((((w5.setCell ⟨X, 0, none⟩ (.int .i64 t0)).setCell ⟨X, 1, none⟩ (.slice bd0 N bap0)).setCell ⟨X, 2, none⟩ (.int .i64 t2)).setCell ⟨X, 3, none⟩ (.int .i64 t3)).setCell ⟨X, 4, none⟩ (.int .i64 t4)).setCell ⟨X, 5, none⟩ (.int .i64 t5)).heap[X]? = some (.cells #[.int .i64 t0, .slice bd0 N bap0, .int .i64 t2, .int .i64 t3, .int .i64 t4, .int .i64 t5, z6] 27 (0, 0)) := heap_setCell_same _ _ 5 _ _ _ e4
  have e6 : (((((((w5.setCell ⟨X, 0, none⟩ (.int .i64 t0)).setCell ⟨X, 1, none⟩ (.slice bd0 N bap0)).setCell ⟨X, 2, none⟩ (.int .i64 t2)).setCell ⟨X, 3, none⟩ (.int .i64 t3)).setCell ⟨X, 4, none⟩ (.int .i64 t4)).setCell ⟨X, 5, none⟩ (.int .i64 t5)).setCell ⟨X, 6, none⟩ (.int .i64 t6)).heap[X]? = some (.cells #[.int .i64 t0, .slice bd0 N bap0, .int .i64 t2, .int .i64 t3, .int .i64 t4, .int .i64 t5, .int .i64 t6] 27 (0, 0)) := heap_setCell_same _ _ 6 _ _ _ e5
  exact e6
set_option maxRecDepth 100000 in
set_option maxHeartbeats 1600000 in
theorem scriptTail_awake (w : World) (ad : Option Addr) (cap : Nat) (L : List Int) (m0 m1 m2 m3 : Int) (hl : 1000 < L.length) (hm : L.length ≤ 9223372036854775807) :
    Calls Try.prog 4 #[.slice ad L.length cap, .agg #[.int .u8 m0, .int .u8 m1, .int .u8 m2, .int .u8 m3]] w fun e w' => e = .returned (.bool true) ∧ Below w.heap.size w w' := by
  go_enter Try.func4, Try.ntmps4
  go_wp2_with (go_at_call 9; refine (awake27_any _).mono ?_; rintro e w1 ⟨rfl, hk⟩)
  go_ret
  exact ⟨rfl, Keeps.below (S := fun _ => False) ((Keeps.alloc _ _).trans (hk.mono (fun _ _ h => h.elim))) (by simp) (Nat.le_refl _)⟩
set_option maxRecDepth 100000 in
set_option maxHeartbeats 3200000 in
theorem scriptTail_walk (w : World) (ad : Option Addr) (cap : Nat) (L : List Int) (hr : Reads w 1 (.slice ad L.length cap) L.length (L.flatMap fun z => [Value.int .u8 z])) (hp : ∀ a ∈ L, (Lit.int .u8 a).wf = true) (hm : L.length ≤ maxLen)
    (m0 m1 m2 m3 : Int) (h0 : (Lit.int .u8 m0).wf = true) (h1 : (Lit.int .u8 m1).wf = true) (h2 : (Lit.int .u8 m2).wf = true) (h3 : (Lit.int .u8 m3).wf = true) :
    Calls Try.prog 4 #[.slice ad L.length cap, .agg #[.int .u8 m0, .int .u8 m1, .int .u8 m2, .int .u8 m3]] w fun e w' => e = .returned (.bool true) ∧ Below w.heap.size w w' := by
  unfold maxLen at hm
  by_cases hl : 1000 < L.length
  · exact scriptTail_awake w ad cap L m0 m1 m2 m3 hl hm
  have hl' : L.length ≤ 1000 := by omega
  have hr' : Reads w 1 (.slice ad L.length cap) L.length (L.flatMap u8c) := hr
  have hB : ByOk L := ⟨fun z hz => wf_u8 (hp z hz), by omega⟩
  have hB' : ByOk (L ++ [m0, m1, m2, m3]) := hB.app (fun z hz => by
    simp only [List.mem_cons, List.not_mem_nil, or_false] at hz
    rcases hz with rfl | rfl | rfl | rfl
    · exact wf_u8 h0
    · exact wf_u8 h1
    · exact wf_u8 h2
    · exact wf_u8 h3) (by simp; omega)
  have hm0 := wf_u8 h0
  obtain ⟨hm0a, hm0b⟩ := hm0
  obtain ⟨t0, t2, t3, t4, t5, t6, ht⟩ : ∃ t0 t2 t3 t4 t5 t6 : Int, ∀ v, (scrTerms L).cells v = #[.int .i64 t0, v, .int .i64 t2, .int .i64 t3, .int .i64 t4, .int .i64 t5, .int .i64 t6] := ⟨_, _, _, _, _, _, fun v => rfl⟩
  have hN3 := scrN_bd hB
  obtain ⟨N, hN⟩ : ∃ N, scrN L = N := ⟨_, rfl⟩
  have hM2 : scrM L ≤ 200 := by unfold scrM; omega
  obtain ⟨M, hM⟩ : ∃ M, scrM L = M := ⟨_, rfl⟩
  rw [hN] at hN3
  rw [hM] at hM2
  obtain ⟨hN1, hN3⟩ := hN3
  have hO : scrO L + 6 = 7 + 2 * N := by unfold scrO; rw [hN]; omega
  have Hr := Lib.hid hr; clear hr; have Hp := Lib.hid hp; clear hp; have Hr' := Lib.hid hr'; clear hr'; have HB := Lib.hid hB; clear hB; have HB' := Lib.hid hB'; clear hB'; have Ht := Lib.hid ht; clear ht; have HN := Lib.hid hN; clear hN; have HM := Lib.hid hM; clear hM; have HO := Lib.hid hO; clear hO; have H0 := Lib.hid h0; clear h0; have H1 := Lib.hid h1; clear h1; have H2 := Lib.hid h2; clear h2; have H3 := Lib.hid h3; clear h3
  have Hq : Hid True := Lib.hid trivial
  go_enter Try.func4, Try.ntmps4
  go_wp2_with fail
  refine (rscrDecode_any L _ _ _ (Hr'.out.alloc _) HB.out).mono ?_
  rintro e w1 ⟨v0, v, rfl, ha0, ha, hk1, hn0, hn⟩
  rw [Ht.out]
  rw [HN.out] at ha0
  rw [HM.out] at ha
  obtain ⟨ad0, cap0, rfl, hcp0, _⟩ := ownsRow_shape ha0
  obtain ⟨ad1, cap1, rfl, hcp1, _⟩ := ownsRow_shape ha
  have hbx := box_new hk1 (by simp)
  have Ha0 := Lib.hid ha0; clear ha0; have Ha := Lib.hid ha; clear ha; have Hk1 := Lib.hid hk1; clear hk1; have Hbx := Lib.hid hbx; clear hbx
  clear hn0 hn
  by_cases hgo : 7 + 2 * N ≤ L.length ∧ (L.length - (7 + 2 * N)) % 4 = 0
  · obtain ⟨hg, hg2⟩ := hgo
    have hg' : (7 + 2 * (N : Int)) ≤ (L.length : Int) := by omega
    have hg'' : ¬ (L.length : Int) < 7 + 2 * (N : Int) := by omega
    obtain ⟨q, hq⟩ : ∃ q : Nat, (L.length : Int) - (7 + 2 * (N : Int)) = q := ⟨L.length - (7 + 2 * N), by omega⟩
    have hq1 : ((q : Int) % 4 != 0) = false := by simp; omega
    have hTB : scrTerms (L ++ [m0, m1, m2, m3]) = scrTerms L := scrTerms_app (by rw [HO.out]; exact hg)
    have hNB : scrN (L ++ [m0, m1, m2, m3]) = N := by rw [scrN_app (by omega)]; exact HN.out
    have hTrB : scrTrs (L ++ [m0, m1, m2, m3]) N = scrTrs L N := scrTrs_app N (by omega)
    have htail := scr_tail (B := L) (m0 := m0) (m1 := m1) (m2 := m2) (m3 := m3) (by rw [HO.out]; exact hg) (by rw [HO.out]; exact hg2)
    obtain ⟨M', hM'⟩ : ∃ M', scrM (L ++ [m0, m1, m2, m3]) = M' := ⟨_, rfl⟩
    rw [HM.out, hM'] at htail
    have hdec : ∀ (W : World) (ad : Option Addr) (cap : Nat), Reads W 1 (.slice ad (L.length + 4) cap) (L.length + 4) ((L ++ [m0, m1, m2, m3]).flatMap u8c) → Calls Try.prog 11 #[.slice ad (L.length + 4) cap] W fun e w' =>
        ∃ bd0 bap0 bd bap, e = .returned (.tuple #[.agg #[.int .i64 t0, .slice bd0 N bap0, .int .i64 t2, .int .i64 t3, .int .i64 t4, .int .i64 t5, .int .i64 t6], .slice bd M' bap]) ∧ w'.ownsRow 0 81 2 (.slice bd0 N bap0) N ((scrTrs L N).flatMap Tr.cells) ∧
          w'.ownsRow 0 34 5 (.slice bd M' bap) M' ((scrCmds (L ++ [m0, m1, m2, m3]) M').flatMap Cmd.cells) ∧ Keeps (fun _ => False) W w' := by
      intro W ad cap hr
      have e4 : (L ++ [m0, m1, m2, m3]).length = L.length + 4 := by simp
      have := scrDecode_any (L ++ [m0, m1, m2, m3]) ad cap W (by rw [e4]; exact hr) HB'.out
      rw [e4] at this
      refine this.mono ?_
      rintro e w' ⟨u0, u, rfl, b0, b1, b2, _, _⟩
      rw [hNB, hTrB] at b0
      rw [hM'] at b1
      obtain ⟨bd0, bap0, rfl, _, _⟩ := ownsRow_shape b0
      obtain ⟨bd, bap, rfl, _, _⟩ := ownsRow_shape b1
      exact ⟨bd0, bap0, bd, bap, by rw [hTB, Ht.out], b0, b1, b2⟩
    have hbm := box_old (heap_alloc_new w (.cells #[.int .u8 m0, .int .u8 m1, .int .u8 m2, .int .u8 m3] 37)) Hk1.out (by simp)
    obtain ⟨i0, hi, hi0, hi1, hi2⟩ := info_parts info_tByte
    clear hg2
    have HTB := Lib.hid hTB; clear hTB; have HNB := Lib.hid hNB; clear hNB; have HTrB := Lib.hid hTrB; clear hTrB; have Htail := Lib.hid htail; clear htail; have HM' := Lib.hid hM'; clear hM'; have Hdec := Lib.hid hdec; clear hdec; have Hbm := Lib.hid hbm; clear hbm
    go_upto_region 7 with (fail)
    go_cut [8, 9] (fun s8 s9 wx => ∃ X bd0 bap0 bd bap, s8 = (.pointer (some ⟨X, 0, none⟩)) ∧ s9 = .slice bd M' bap ∧ Hid (wx.heap[X]? = some (.cells #[.int .i64 t0, .slice bd0 N bap0, .int .i64 t2, .int .i64 t3, .int .i64 t4, .int .i64 t5, .int .i64 t6] 27 (0, 0))) ∧ Hid (wx.ownsRow 0 81 2 (.slice bd0 N bap0) N ((scrTrs L N).flatMap Tr.cells)) ∧ Hid (wx.ownsRow 0 34 5 (.slice bd M' bap) M' ((scrCmds (L ++ [m0, m1, m2, m3]) M').flatMap Cmd.cells)) ∧ Hid (Keeps (fun _ => False) w1 wx) ∧ Hid (wx.heap[w1.heap.size]? = some (.cells #[.int .i64 t0, .slice ad0 N cap0, .int .i64 t2, .int .i64 t3, .int .i64 t4, .int .i64 t5, .int .i64 t6] 27 (0, 0))))
    case first =>
      go_region_held3 (fun _ => True) (trivial) (first
        | (go_at_call 16; refine (copyBytes_any _ _ L (((Hr'.out.alloc _).keeps Hk1.out (by simp)).keeps (S := fun _ => False) (by first | exact (Keeps.alloc _ _).trans (Keeps.drew _) | exact ((Keeps.alloc _ _).trans (Keeps.alloc _ _)).trans (Keeps.drew _)) (by simp)) (by omega)).mono ?_; rintro e w3 ⟨v3, rfl, ho3, hk3, hf3⟩; obtain ⟨ad3, cap3, rfl, hcp3, _⟩ := ownsRow_shape ho3; (first | (have hbm3 := box_old (w := World.drew (World.alloc w1 _)) (box_alloc Hbm.out _) hk3 (by simp)) | (have hbm3 := box_old (w := World.drew (World.alloc (World.alloc w1 _) _)) (box_alloc (box_alloc Hbm.out _) _) hk3 (by simp); have hx3 := (box_old (w := World.drew (World.alloc (World.alloc w1 _) (.cells #[.int .i64 0, .slice none 0 0, .int .i64 0, .int .i64 0, .int .i64 0, .int .i64 0, .int .i64 0] 27))) (heap_alloc_new (World.alloc w1 _) (.cells #[.int .i64 0, .slice none 0 0, .int .i64 0, .int .i64 0, .int .i64 0, .int .i64 0, .int .i64 0] 27)) hk3 (by simp)); simp only [World.size_alloc] at hx3; have Hx3 := Lib.hid hx3; clear hx3)); have Hbm3 := Lib.hid hbm3; (first | (have hy3 := box_old (w := World.drew (World.alloc w1 _)) (heap_alloc_new w1 _) hk3 (by simp)) | (have hy3 := box_old (w := World.drew (World.alloc (World.alloc w1 _) _)) (box_alloc (heap_alloc_new w1 _) _) hk3 (by simp))); have Hy3 := Lib.hid hy3; clear hy3; (have hk03 : Keeps (fun _ => False) w1 w3 := (by first | exact ((Keeps.alloc w1 _).trans (Keeps.drew _)).trans (hk3.mono (fun _ _ h => h.elim)) | exact (((Keeps.alloc w1 _).trans (Keeps.alloc _ _)).trans (Keeps.drew _)).trans (hk3.mono (fun _ _ h => h.elim)))); have Hk03 := Lib.hid hk03; clear hk03; have Ho3 := Lib.hid ho3; have Hf3 := Lib.hid hf3; clear ho3 hk3 hf3 hbm3)
        | (refine step_append_row rfl (.tmp 39) (.tmp 40) 22 rfl 0 5 i0 _ 1 1 Try.underlying22 hi hi0 hi1 hi2 rfl (by decide) (.slice ad3 L.length cap3) L.length _ rfl (by first | exact Ho3.out | exact Ho3.out.alloc _) (.slice (some ⟨w.heap.size, 0, none⟩) 4 4) 4 [.int .u8 m0, .int .u8 m1, .int .u8 m2, .int .u8 m3] rfl (by first | exact Reads.blk Hbm3.out rfl | exact Reads.blk (box_alloc Hbm3.out _) rfl) (by simp [Value.oneCell']) (by unfold maxLen; omega) (by omega) (by omega) ?_; intro v4 w4 ho4 hk4 hf4; obtain ⟨ad4, cap4, rfl, hcp4, _⟩ := ownsRow_shape ho4; (first | (have Hx4 := Lib.hid (box_old Hx3.out hk4 (ownsRow_ne (e := 5) (t := 27) Ho3.out Hx3.out (by decide)))) | (have Hx4 := Lib.hid (box_app (t := 27) (e := 5) hk4 Ho3.out (by decide))) | skip); (first | (have Hk34 := Lib.hid (show Keeps (fun k => (Value.slice ad3 L.length cap3).ownBlock = some k) w3 w4 from hk4)) | (have Hk34 := Lib.hid (show Keeps (fun k => (Value.slice ad3 L.length cap3).ownBlock = some k) w3 w4 from (Keeps.alloc w3 _).trans (hk4.mono fun _ _ h => .inl h)))); have Hr4 := Lib.hid (Reads.of_owns ho4); clear ho4 hk4 hf4)
        | (go_at_call 11; refine (Hdec.out _ _ _ (by first | (have := Hr4.out; simpa [List.flatMap_append, u8c] using this) | (have := Hr4.out.alloc (.cells #[.int .i64 0, .slice none 0 0, .int .i64 0, .int .i64 0, .int .i64 0, .int .i64 0, .int .i64 0] 27); simpa [List.flatMap_append, u8c] using this))).mono ?_; rintro e w5 ⟨bd0, bap0, bd, bap, rfl, hb0, hb, hk5⟩; (first | (have hx5 := box_old Hx4.out hk5 (by simp)) | (have hx5 := box_new (w := w4) hk5 (by simp)) | skip); (try (have xo0 := cell_of_cells hx5 0; have xo1 := cell_of_cells hx5 1; have xo2 := cell_of_cells hx5 2; have xo3 := cell_of_cells hx5 3; have xo4 := cell_of_cells hx5 4; have xo5 := cell_of_cells hx5 5; have xo6 := cell_of_cells hx5 6; have xf := free_of_cells hx5; have xl := lt_of_block hx5; have Hx5 := Lib.hid hx5; clear hx5)); (first | (have Hk45 := Lib.hid (show Keeps (fun _ => False) w4 w5 from hk5)) | (have Hk45 := Lib.hid (show Keeps (fun _ => False) w4 w5 from (Keeps.alloc w4 _).trans (hk5.mono (fun _ _ h => h.elim))))); have Hb0 := Lib.hid hb0; have Hb := Lib.hid hb; clear hb0 hb hk5))
      all_goals
        have hk15 : Keeps (fun _ => False) w1 w5 := (Hk03.out.trans (Hk34.out.mono (fun k _ h => .inr (by have := Hf3.out k h; simp at this; omega)))).trans (Hk45.out.mono (fun _ _ h => h.elim))
        have hy4 := box_old Hy3.out Hk34.out (ownsRow_ne (e := 5) (t := 27) Ho3.out Hy3.out (by decide))
        have hy5 := box_old hy4 Hk45.out (by simp)
        have l3 := lt_of_block Hy3.out
        have l4 := lt_of_block hy4
        go_wp2_with fail
        go_meet
        first
        | (have hx5' := Hx5.out
           obtain ⟨q1, q2, q3, q4, q5⟩ := tail_set t0 t2 t3 t4 t5 t6 hx5' Hb0.out Hb.out hk15 (by omega)
           exact ⟨_, _, _, _, _, rfl, rfl, Lib.hid q1, Lib.hid q2, Lib.hid q3, Lib.hid q4, Lib.hid (box_old hy5 q5 (by omega))⟩)
        | exact ⟨_, _, _, _, _, rfl, rfl, Lib.hid (heap_alloc_new w5 _), Lib.hid (Hb0.out.alloc _), Lib.hid (Hb.out.alloc _), Lib.hid (hk15.trans (Keeps.alloc _ _)), Lib.hid (box_alloc hy5 _)⟩
    case rest =>
      obtain ⟨X, bd0, bap0, bd, bap, rfl, rfl, Hx, Hb0, Hb, Hk, Hy⟩ := hcut
      go_wp2_with fail
      refine (awake27_any _).mono ?_
      rintro e w6 ⟨rfl, hk6⟩
      have hx6 := box_old Hx.out hk6 (by simp)
      have hy6 := box_old Hy.out hk6 (by simp)
      have x0 := cell_of_cells hx6 0
      have x1 := cell_of_cells hx6 1
      have x2 := cell_of_cells hx6 2
      have x3 := cell_of_cells hx6 3
      have x4 := cell_of_cells hx6 4
      have x5 := cell_of_cells hx6 5
      have x6 := cell_of_cells hx6 6
      have y0 := cell_of_cells hy6 0
      have y1 := cell_of_cells hy6 1
      have y2 := cell_of_cells hy6 2
      have y3 := cell_of_cells hy6 3
      have y4 := cell_of_cells hy6 4
      have y5 := cell_of_cells hy6 5
      have y6 := cell_of_cells hy6 6
      have xl := lt_of_block hx6
      have yl := lt_of_block hy6
      have hk16 : Keeps (fun _ => False) w1 w6 := Hk.out.trans (hk6.mono (fun _ _ h => h.elim))
      have hT1 : Reads w6 2 (.slice ad0 N cap0) (scrTrs L N).length ((scrTrs L N).flatMap Tr.cells) := by rw [scrTrs_length]; exact (Reads.of_owns Ha0.out).keeps hk16 (by simp)
      have hT2 : Reads w6 2 (.slice bd0 N bap0) (scrTrs L N).length ((scrTrs L N).flatMap Tr.cells) := by rw [scrTrs_length]; exact (Reads.of_owns Hb0.out).keeps hk6 (by simp)
      have hC1 : w6.ownsRow 0 34 5 (.slice ad1 M cap1) M ((scrCmds L M).flatMap Cmd.cells) := hk16.row Ha.out (by simp)
      have hC2 : w6.ownsRow 0 34 5 (.slice bd M' bap) M' ((scrCmds (L ++ [m0, m1, m2, m3]) M').flatMap Cmd.cells) := hk6.row Hb.out (by simp)
      have hbm6 := box_old Hbm.out hk16 (by simp)
      have hfin : Keeps (fun _ => False) w w6 := ((Keeps.alloc w _).trans (Hk1.out.mono (fun _ _ h => h.elim))).trans (hk16.mono (fun _ _ h => h.elim))
      have hnl : (scrTrs L N).length ≤ 1000000000000 := by rw [scrTrs_length]; omega
      have Hx6 := Lib.hid hx6; clear hx6; have Hy6 := Lib.hid hy6; clear hy6; have HT1 := Lib.hid hT1; clear hT1; have HT2 := Lib.hid hT2; clear hT2; have HC1 := Lib.hid hC1; clear hC1; have HC2 := Lib.hid hC2; clear hC2; have Hbm6 := Lib.hid hbm6; clear hbm6; have Hfin := Lib.hid hfin; clear hfin; have Hnl := Lib.hid hnl; clear hnl
      clear hk6 hk16
      rcases Htail.out with ⟨e1, e2, e3⟩ | ⟨e1, e2, c, e3, e4⟩
      · subst e2
        subst e1
        have hP1 : Reads w6 5 (.slice ad1 200 cap1) (scrCmds L 200).length ((scrCmds L 200).flatMap Cmd.cells) := by rw [scrCmds_length]; exact Reads.of_owns HC1.out
        have hP2 : Reads w6 5 (.slice bd 200 bap) (scrCmds L 200).length ((scrCmds L 200).flatMap Cmd.cells) := by rw [scrCmds_length, ← e3]; exact Reads.of_owns HC2.out
        have hml : (scrCmds L 200).length ≤ 1000000000000 := by rw [scrCmds_length]; omega
        have HP1 := Lib.hid hP1; clear hP1; have HP2 := Lib.hid hP2; clear hP2; have Hml := Lib.hid hml; clear hml; have E3 := Lib.hid e3; clear e3
        go_wp2_with (first
          | (go_at_call 13; refine (sameTerms_any _ _ _ _ _ _ _ _ _ _ HT1.out HT2.out Hnl.out).mono ?_; rintro e w7 ⟨rfl, hk7⟩; have Hk7 := Lib.hid hk7; clear hk7)
          | (go_at_call 14; refine (plainCmd_same _ _ _ _ (HP1.out.keeps Hk7.out (by simp)) (HP2.out.keeps Hk7.out (by simp)) Hml.out).mono ?_; rintro e w8 ⟨rfl, hk8⟩; have Hk8 := Lib.hid hk8; clear hk8))
        go_ret
        exact ⟨rfl, ((Hfin.out.trans (Hk7.out.mono (fun _ _ h => h.elim))).trans (Hk8.out.mono (fun _ _ h => h.elim))).below (by simp) (Nat.le_refl _)⟩
      · subst e2
        obtain ⟨gb, bap', hbd, hgl⟩ := owns_some HC2.out (by omega)
        simp only [Value.slice.injEq, true_and] at hbd
        obtain ⟨rfl, rfl⟩ := hbd
        obtain ⟨c0, c1, c2, c3, c4⟩ := c
        simp only at e4
        subst e4
        have hC2' := HC2.out
        rw [e3] at hC2'
        have hbapM : M + 1 ≤ bap := by obtain ⟨_, _, he, h, _⟩ := ownsRow_shape hC2'; simp only [Value.slice.injEq, true_and] at he; omega
        have z0 : w6.cell? ⟨gb, M * 5, none⟩ = some (.int .i64 (m0 % 11 + 1)) := by
          have hcs : (scrCmds L M ++ [⟨m0 % 11 + 1, c1, c2, c3, c4⟩])[M]? = some (⟨m0 % 11 + 1, c1, c2, c3, c4⟩ : Cmd) := by
            rw [List.getElem?_append_right (by rw [scrCmds_length]; exact Nat.le_refl _), scrCmds_length, Nat.sub_self]; rfl
          obtain ⟨g', o', c', he, hc⟩ := (Reads.of_owns hC2').elem Cmd.cells_length hcs (by decide)
          simp only [Value.slice.injEq, true_and, Option.some.injEq, Addr.mk.injEq, and_true] at he
          obtain ⟨⟨rfl, rfl⟩, rfl⟩ := he
          have := hc 0 (by decide)
          simpa [Cmd.cells] using this
        have z1 : w6.cell? ⟨w.heap.size, 0, none⟩ = some (.int .u8 m0) := cell_of_cells Hbm6.out 0
        have hwl := lt_of_block Hbm6.out
        have hP1 : Reads w6 5 (.slice ad1 M cap1) (scrCmds L M).length ((scrCmds L M).flatMap Cmd.cells) := by rw [scrCmds_length]; exact Reads.of_owns HC1.out
        have hP2 : Reads w6 5 (.slice (some ⟨gb, 0, none⟩) M bap) (scrCmds L M).length ((scrCmds L M).flatMap Cmd.cells) := by
          have := (Reads.of_owns hC2').preL Cmd.cells_length M (by omega)
          rw [List.take_append_of_le_length (by rw [scrCmds_length]; exact Nat.le_refl _), List.take_of_length_le (by rw [scrCmds_length]; exact Nat.le_refl _)] at this
          rw [scrCmds_length]; exact this
        have hml : (scrCmds L M).length ≤ 1000000000000 := by rw [scrCmds_length]; omega
        have hM200 : ((M : Int) == 200) = false := beq_eq_false_iff_ne.2 (by omega)
        have hM0 : (0 : Int) ≤ (M : Int) := by omega
        have hMb : (M : Int) ≤ (bap : Int) := by omega
        have hMlt : (M : Int) < (M : Int) + 1 := by omega
        have hMw : IntKind.i64.wrap ((M : Int) + 1) = (M : Int) + 1 := IntWalk.i64_in _ (by omega)
        have hv0 : IntKind.i64.wrap m0 = m0 := IntWalk.i64_in _ (by omega)
        have hv1 : m0.tmod 11 = m0 % 11 := Int.tmod_eq_emod_of_nonneg hm0a
        have hv2 : IntKind.i64.wrap (m0 % 11 + 1) = m0 % 11 + 1 := IntWalk.i64_in _ (by omega)
        have HP1 := Lib.hid hP1; clear hP1; have HP2 := Lib.hid hP2; clear hP2; have Hml := Lib.hid hml; clear hml; have E3 := Lib.hid e3; clear e3; have HC2' := Lib.hid hC2'; clear hC2'; have HbapM := Lib.hid hbapM; clear hbapM; have E1 := Lib.hid e1; clear e1
        go_wp2_with (go_at_call 13; refine (sameTerms_any _ _ _ _ _ _ _ _ _ _ HT1.out HT2.out Hnl.out).mono ?_; rintro e w7 ⟨rfl, hk7⟩; have z0 := (hk7.cell (p := ⟨gb, M * 5, none⟩) hgl (by simp)).trans z0; have z1 := (hk7.cell (p := ⟨w.heap.size, 0, none⟩) hwl (by simp)).trans z1; have hgl7 := Nat.lt_of_lt_of_le hgl hk7.size; have hwl7 := Nat.lt_of_lt_of_le hwl hk7.size; have Hk7 := Lib.hid hk7; clear hk7)
        go_region_held3 (fun w' => w'.cell? ⟨gb, M * 5, none⟩ = some (.int .i64 (m0 % 11 + 1)) ∧ w'.cell? ⟨w.heap.size, 0, none⟩ = some (.int .u8 m0)) (first | go_keep) (first
          | (go_at_call 14; refine (plainCmd_same _ _ _ _ ((HP2.out.keeps Hk7.out (by simp)).drew) ((HP1.out.keeps Hk7.out (by simp)).drew) Hml.out).mono ?_; rintro e w8 ⟨rfl, hk8⟩; have z0 := hk8.cell (p := ⟨gb, M * 5, none⟩) hgl7 (by simp); have z1 := hk8.cell (p := ⟨w.heap.size, 0, none⟩) hwl7 (by simp); have Hk8 := Lib.hid hk8; clear hk8))
        go_wp2
        go_ret
        exact ⟨rfl, Keeps.below (S := fun _ => False) (((Hfin.out.trans (Hk7.out.mono (fun _ _ h => h.elim))).trans (Keeps.drew _)).trans (Hk8.out.mono (fun _ _ h => h.elim))) (by simp) (Nat.le_refl _)⟩
  · have hgo' : L.length < 7 + 2 * N ∨ (7 + 2 * N ≤ L.length ∧ ¬ (L.length - (7 + 2 * N)) % 4 = 0) := by omega
    rcases hgo' with hg | ⟨hg, hg2⟩
    · have hg' : (L.length : Int) < 7 + 2 * (N : Int) := by omega
      clear hgo
      go_wp2_with (go_at_call 9; refine (awake27_any _).mono ?_; rintro e w2 ⟨rfl, hk⟩)
      all_goals
        go_ret
        exact ⟨rfl, Keeps.below (S := fun _ => False) ((((Keeps.alloc _ _).trans (Hk1.out.mono (fun _ _ h => h.elim))).trans (Keeps.alloc _ _)).trans (hk.mono (fun _ _ h => h.elim))) (by simp) (Nat.le_refl _)⟩
    · have hg' : (7 + 2 * (N : Int)) ≤ (L.length : Int) := by omega
      obtain ⟨q, hq⟩ : ∃ q : Nat, (L.length : Int) - (7 + 2 * (N : Int)) = q := ⟨L.length - (7 + 2 * N), by omega⟩
      have hq1 : ((q : Int) % 4 != 0) = true := by simp; omega
      have hq2 : ¬ (q : Int) % 4 = 0 := by omega
      have hq3 : ((L.length : Int) - (7 + 2 * (N : Int))) % 4 = (q : Int) % 4 := by rw [hq]
      clear hgo hg2
      go_wp2_with (go_at_call 9; refine (awake27_any _).mono ?_; rintro e w2 ⟨rfl, hk⟩)
      go_ret
      exact ⟨rfl, Keeps.below (S := fun _ => False) ((((Keeps.alloc _ _).trans (Hk1.out.mono (fun _ _ h => h.elim))).trans (Keeps.alloc _ _)).trans (hk.mono (fun _ _ h => h.elim))) (by simp) (Nat.le_refl _)⟩
end Go.Proofs.Ythokcmbgamanbaa
