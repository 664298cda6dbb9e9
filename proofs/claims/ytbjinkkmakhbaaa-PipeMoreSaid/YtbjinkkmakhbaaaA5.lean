/- Whether a junction is fed (status). -/
import Derived.Test.YtbjinkkmakhbaaaA4
namespace Go.Proofs.Ytbjinkkmakhbaaa.Print
open Go.RowKit Go.Shelf Go.Proofs.YtbjinkkmakhbaaaW.PrintWords Go.Proofs.YtbjinkkmakhbaaaW.PrintLast Go.Proofs.YtbjinkkmakhbaaaW.PrintMore
set_option linter.unusedVariables false
set_option linter.unusedSimpArgs false
attribute [local go_sem] Oper.semAt_some
theorem blk_kept {W W' : World} {row : Option Nat} {b : Nat} {cs : Array Value} {t : TypeId} (h : W.heap[b]? = some (.cells cs t (0, 0))) (hg : W.grownBy W' row) (hr : ∀ r, row = some r → ∃ o : Obj, W.heap[r]? = some o ∧ o.isCells = false) : W'.heap[b]? = some (.cells cs t (0, 0)) :=
  (grownBy_keeps_cells hg hr h rfl).trans h
theorem blk_set_ne {W : World} {g k : Nat} {o : Option Obj} (h : W.heap[k]? = o) (hne : g ≠ k) (j : Nat) (u : Value) : (W.setCell ⟨g, j, none⟩ u).heap[k]? = o :=
  (Below.heap_setCell W ⟨g, j, none⟩ u k (fun e => hne e.symm)).trans h
set_option maxHeartbeats 400000 in
theorem way_any (P : Nat) (j : Int) (w : World) :
    Calls Try.prog 56 #[.pointer (some ⟨P, 0, none⟩), .int .i64 j] w fun e w' => e = .returned (.func (.func 70) #[] #[.pointer (some ⟨w.heap.size + 1, 0, none⟩), .pointer (some ⟨w.heap.size, 0, none⟩)]) ∧ w' = (w.alloc (.cells #[.pointer (some ⟨P, 0, none⟩)] 69)).alloc (.cells #[.int .i64 j] 3) := by
  go_enter Try.func56, Try.ntmps56
  go_wp2
  go_ret
  exact ⟨rfl, rfl⟩
/-- How far a junction is fed: 0 never, 1 maybe, 2 always. -/
def statL (ms : List S54) : List Int → Int → Int
  | [], o => o
  | k :: r, o => if (rd_T54 ms k).f2 = 1 then 0 else statL ms r (if (rd_T54 ms k).f2 = 2 then 1 else o)
def statusP (ms : List S54) (j : Nat) : Int := statL ms (wayL ms j) 2
/-- What is known before each main of the way. -/
structure StatAt (w W : World) (P : Nat) (o : Int) (A' : Option Addr) (c' : Nat) (ms : List S54) : Prop where
  b2 : W.heap[w.heap.size]? = some (.cells #[.pointer (some ⟨P, 0, none⟩)] 69 (0, 0))
  b4 : W.heap[w.heap.size + 1]? = some (.cells #[.int .i64 0] 3 (0, 0))
  b5 : W.heap[w.heap.size + 1 + 1]? = some (.cells #[.int .i64 o] 3 (0, 0))
  bel : Below w.heap.size w W
theorem stat_own (w : World) (P : Nat) (A' : Option Addr) (c' : Nat) (ms : List S54) (B : Nat) (hB : w.heap.size ≤ B) : OwnFrom B (fun (pre : List Int) W => ∃ o, StatAt w W P o A' c' ms ∧ ∀ r, statL ms (pre ++ r) 2 = statL ms r o) := fun s W W' row hs hg hr => by
  obtain ⟨o, h, h2⟩ := hs
  exact ⟨o, ⟨blk_kept h.b2 hg (fun r e => (hr r e).2), blk_kept h.b4 hg (fun r e => (hr r e).2), blk_kept h.b5 hg (fun r e => (hr r e).2), h.bel.grown hg h.bel.size (fun k e => Nat.le_trans hB (hr k e).1)⟩, h2⟩
theorem statx_own (w : World) (P : Nat) (A' : Option Addr) (c' : Nat) (ms : List S54) (j : Nat) (cd : Code) (B : Nat) (hB : w.heap.size ≤ B) : OwnFrom B (fun (_ : List Int) W => cd = .ret ∧ statusP ms j = 0 ∧ ∃ o, StatAt w W P o A' c' ms) := fun s W W' row hs hg hr => by
  obtain ⟨h0, h1, o, h⟩ := hs
  exact ⟨h0, h1, o, ⟨blk_kept h.b2 hg (fun r e => (hr r e).2), blk_kept h.b4 hg (fun r e => (hr r e).2), blk_kept h.b5 hg (fun r e => (hr r e).2), h.bel.grown hg h.bel.size (fun k e => Nat.le_trans hB (hr k e).1)⟩⟩
theorem below_none {W W' : World} (hg : W.grownBy W' none) : Below W.heap.size W W' := (Below.refl _ W).grown hg (Nat.le_refl _) (fun k e => by cases e)
set_option maxHeartbeats 2000000 in
set_option maxRecDepth 100000 in
theorem status_any (A' : Option Addr) (c' : Nat) (ms : List S54) (P j : Nat) (w : World) (hm : w.cell? ⟨P, 3, none⟩ = some (.slice A' ms.length c')) (hr : Kd.C k54 w A' ms.length ms) (hok : anyM 0 ms = false) (hj : j ≤ ms.length) (h8 : ms.length ≤ 8) :
    Calls Try.prog 36 #[.pointer (some ⟨P, 0, none⟩), .int .i64 (j : Int)] w fun e w' => e = .returned (.int .i64 (statusP ms j)) ∧ Below w.heap.size w w' := by
  have HM := Aside0.mk hm
  have HR := Aside0.mk hr
  have HOK := Aside0.mk hok
  clear hm hr hok
  refine (callsIn_wide (n := 8)).1 ?_
  refine callsIn_of_wp_marks Try.func36 rfl trivial ?_ rfl
  simp only [Try.ntmps36, List.size_toArray, List.length_cons, List.length_nil, Nat.reduceAdd, Nat.reduceSub, Array.replicate_succ, Array.replicate_zero, List.push_toArray, List.append_toArray, List.nil_append, List.cons_append]
  gi_wp2_with (refine ⟨trivial, ?_⟩; gi_at_call 56; refine (callsIn_wide.2 (way_any _ _ _)).mono ?_; rintro e w' ⟨rfl, rfl⟩)
  obtain ⟨W0, hW0⟩ : ∃ W0, W0 = ((((w.alloc (.cells #[.pointer (some ⟨P, 0, none⟩)] 69)).alloc (.cells #[.int .i64 0] 3)).alloc (.cells #[.int .i64 2] 3)).alloc (.cells #[.pointer (some ⟨P, 0, none⟩)] 69)).alloc (.cells #[.int .i64 (j : Int)] 3) := ⟨_, rfl⟩
  have hB0 : Below w.heap.size w W0 := by
    rw [hW0]
    repeat (first | exact Below.refl _ _ | apply below_alloc)
  have hS0 : W0.heap.size = w.heap.size + 1 + 1 + 1 + 1 + 1 := by rw [hW0]; simp
  have x2 : W0.heap[w.heap.size]? = some (.cells #[.pointer (some ⟨P, 0, none⟩)] 69 (0, 0)) := by
    rw [hW0]
    exact blk_alloc (blk_alloc (blk_alloc (blk_alloc (blk_new w _) _) _) _) _
  have x4 : W0.heap[w.heap.size + 1]? = some (.cells #[.int .i64 0] 3 (0, 0)) := by
    rw [hW0]
    have := blk_new (w.alloc (.cells #[.pointer (some ⟨P, 0, none⟩)] 69)) (.cells #[.int .i64 0] 3)
    simp only [World.size_alloc] at this
    exact blk_alloc (blk_alloc (blk_alloc this _) _) _
  have x5 : W0.heap[w.heap.size + 1 + 1]? = some (.cells #[.int .i64 2] 3 (0, 0)) := by
    rw [hW0]
    have := blk_new ((w.alloc (.cells #[.pointer (some ⟨P, 0, none⟩)] 69)).alloc (.cells #[.int .i64 0] 3)) (.cells #[.int .i64 2] 3)
    simp only [World.size_alloc] at this
    exact blk_alloc (blk_alloc this _) _
  have x6 : W0.heap[w.heap.size + 1 + 1 + 1]? = some (.cells #[.pointer (some ⟨P, 0, none⟩)] 69 (0, 0)) := by
    rw [hW0]
    have := blk_new (((w.alloc (.cells #[.pointer (some ⟨P, 0, none⟩)] 69)).alloc (.cells #[.int .i64 0] 3)).alloc (.cells #[.int .i64 2] 3)) (.cells #[.pointer (some ⟨P, 0, none⟩)] 69)
    simp only [World.size_alloc] at this
    exact blk_alloc this _
  have x7 : W0.heap[w.heap.size + 1 + 1 + 1 + 1]? = some (.cells #[.int .i64 (j : Int)] 3 (0, 0)) := by
    rw [hW0]
    have := blk_new ((((w.alloc (.cells #[.pointer (some ⟨P, 0, none⟩)] 69)).alloc (.cells #[.int .i64 0] 3)).alloc (.cells #[.int .i64 2] 3)).alloc (.cells #[.pointer (some ⟨P, 0, none⟩)] 69)) (.cells #[.int .i64 (j : Int)] 3)
    simp only [World.size_alloc] at this
    exact this
  have hPlt : P < w.heap.size := World.block_lt_of_cell? _ _ HM.out
  have n0 : W0.cell? ⟨P, 3, none⟩ = some (.slice A' ms.length c') := (hB0.cell (p := ⟨P, 3, none⟩) hPlt).trans HM.out
  have n1 : Kd.C k54 W0 A' ms.length ms := Kd.C_below HR.out hB0
  have hAlt : ∀ ad, A' = some ad → 0 < ms.length → ad.block < w.heap.size := fun ad e hpos => by
    obtain ⟨ad', e', g0, _⟩ := at_T54 HR.out 0 (by omega) (by omega)
    rw [e] at e'
    obtain rfl := Option.some.inj e'
    have := World.block_lt_of_cell? _ _ g0
    rwa [add_block] at this
  have hst : StatAt w W0 P 2 A' c' ms := ⟨x2, x4, x5, hB0⟩
  rw [← hW0]
  clear hW0 x2 x4 x5
  have hQ : ∀ ad, A' = some ad → 0 < ms.length → (ad.block < w.heap.size ∨ ad.block = w.heap.size + 1 + 1 + 1) := fun ad e h => .inl (hAlt ad e h)
  refine range_st rfl (by omega) (gf := 70) (lb := #[.pointer (some ⟨w.heap.size + 1 + 1 + 1 + 1, 0, none⟩), .pointer (some ⟨w.heap.size + 1 + 1 + 1, 0, none⟩)]) rfl trivial (enters_of Try.func70 (by kernel_rfl) rfl) (encs := encK) (Kp := KpS (fun b => b < w.heap.size ∨ b = w.heap.size + 1 + 1 + 1)) (Ef := fun A B => A = B)
    (Pre := fun pre x => ∃ (k : Nat) (r : List Int), x = (k : Int) ∧ k < ms.length ∧ pre ++ x :: r = wayL ms j) (S := fun xs _ => xs = wayL ms j) (Sp := fun _ => True)
    (fun W hg => way_seq Fence.wide 7 trivial rfl (by omega) ms A' c' P (w.heap.size + 1 + 1 + 1) (w.heap.size + 1 + 1 + 1 + 1) j W (cell_two (blk_grown x6 hg (by simp)) 0 rfl) (cell_two (blk_grown x7 hg (by simp)) 0 rfl) (((below_none hg).cell (World.block_lt_of_cell? _ _ n0)).trans n0) (Kd.C_below n1 (below_none hg)) HOK.out hj h8 _ (.inr rfl) (.inl hPlt) hQ)
    (fun A B k o h hk _ => h ▸ hk) (fun h k => kps_trans h k) (fun W l o o' hl _ _ => kps_put (w := W0) (fun b hb => by rw [hS0]; omega) W l o o' hl) (fun _ => rfl)
    (fun pre W => ∃ o, StatAt w W P o A' c' ms ∧ ∀ r, statL ms (pre ++ r) 2 = statL ms r o)
    (fun cd pre W => (cd = .ret ∧ statusP ms j = 0 ∧ ∃ o, StatAt w W P o A' c' ms))
    (stat_own w P A' c' ms _ (by rw [hS0]; omega)) (fun cd => statx_own w P A' c' ms j cd _ (by rw [hS0]; omega)) (fun _ _ _ h e => e ▸ h) (fun _ _ _ _ h e => e ▸ h) (fun _ _ _ _ hs _ _ => hs) ⟨2, hst, fun _ => rfl⟩
    (fun x a' _ => a' = { tmps := #[.pointer (some ⟨P, 0, none⟩), .int .i64 (j : Int), .pointer (some ⟨w.heap.size, 0, none⟩), undef, .pointer (some ⟨w.heap.size + 1, 0, none⟩), .pointer (some ⟨w.heap.size + 1 + 1, 0, none⟩), .int .i64 x, .pointer (some ⟨P, 0, none⟩), .int .i64 (j : Int), .func (.func 70) #[] #[.pointer (some ⟨w.heap.size + 1 + 1 + 1 + 1, 0, none⟩), .pointer (some ⟨w.heap.size + 1 + 1 + 1, 0, none⟩)], .int .i64 x, undef, undef, undef, undef, undef, undef, undef, undef, undef, undef, undef, undef, undef, undef], defers := [] }) (fun _ _ _ _ _ hs _ _ => hs) ?assign ?body ?done ?stop
  case assign =>
    intro lp pre x W K hi hK
    gi_wp2
    exact hK _ _ (KeepsOthers.refl _) (fun _ _ => rfl) hi rfl
  case body =>
    rintro lp pre x a' W ⟨o, hs, h2⟩ rfl ⟨k, r, rfl, hk, hp⟩
    have HS := Aside0.mk hs
    have H2 := Aside0.mk h2
    have HP := Aside0.mk hp
    have c2 := cell_two hs.b2 0 rfl
    have c4 := cell_two hs.b4 0 rfl
    have c5 := cell_two hs.b5 0 rfl
    have f4 := blk_frozen hs.b4 0
    have f5 := blk_frozen hs.b5 0
    have cn : W.cell? ⟨P, 3, none⟩ = some (.slice A' ms.length c') := (hs.bel.cell (p := ⟨P, 3, none⟩) hPlt).trans HM.out
    have k0 : (0 : Int) ≤ (k : Int) := Int.natCast_nonneg k
    have k1 : (k : Int) < (ms.length : Int) := by omega
    obtain ⟨ad, e, g0, g1, g2, g3⟩ := at_T54 (Kd.C_below HR.out hs.bel) k k0 k1
    cases e
    simp only [Int.toNat_natCast] at g0 g1 g2 g3
    have hstep : ∀ r', statL ms ((pre ++ [(k : Int)]) ++ r') 2 = statL ms ((k : Int) :: r') o := fun r' => by
      rw [List.append_assoc, List.singleton_append]
      exact h2 ((k : Int) :: r')
    have HST := Aside0.mk hstep
    clear hs h2 hp hstep x6 x7 n0 n1 hAlt hst hQ hB0
    have q1 : w.heap.size ≠ w.heap.size + 1 := by omega
    by_cases v1 : (rd_T54 ms k).f2 = 1
    · have d1 : ((rd_T54 ms k).f2 == 1) = true := by rw [v1]; rfl
      have HZ : Aside0 (statusP ms j = 0) := ⟨by
        unfold statusP
        have h1 := HST.out r
        rw [List.append_assoc, List.singleton_append, HP.out] at h1
        rw [h1, statL, if_pos v1]⟩
      clear v1
      gi_wp2
      exact ⟨KeepsOthers.setCell _ _ _, rfl, HZ.out, o, ⟨blk_set_ne HS.out.b2 (by omega) 0 _, blk_put HS.out.b4 0 _ rfl, blk_set_ne HS.out.b5 (by omega) 0 _, HS.out.bel.setCell (by simp) _⟩⟩
    · have d1 : ((rd_T54 ms k).f2 == 1) = false := beq_eq_false_iff_ne.2 v1
      by_cases v2 : (rd_T54 ms k).f2 = 2
      · have d2 : ((rd_T54 ms k).f2 == 2) = true := by rw [v2]; rfl
        have HZ : Aside0 (∀ r', statL ms ((pre ++ [(k : Int)]) ++ r') 2 = statL ms r' 1) := ⟨fun r' => by rw [HST.out, statL, if_neg v1, if_pos v2]⟩
        clear v1 v2
        gi_wp2
        exact ⟨KeepsOthers.setCell _ _ _, fun b hb => (Below.heap_setCell W ⟨w.heap.size + 1 + 1, 0, none⟩ _ b (by show b ≠ w.heap.size + 1 + 1; omega)), 1, ⟨blk_set_ne HS.out.b2 (by omega) 0 _, blk_set_ne HS.out.b4 (by omega) 0 _, blk_put HS.out.b5 0 _ rfl, HS.out.bel.setCell (by show w.heap.size ≤ w.heap.size + 1 + 1; omega) _⟩, HZ.out⟩
      · have d2 : ((rd_T54 ms k).f2 == 2) = false := beq_eq_false_iff_ne.2 v2
        have HZ : Aside0 (∀ r', statL ms ((pre ++ [(k : Int)]) ++ r') 2 = statL ms r' o) := ⟨fun r' => by rw [HST.out, statL, if_neg v1, if_neg v2]⟩
        clear v1 v2
        gi_wp2
        exact ⟨KeepsOthers.refl _, fun _ _ => rfl, o, HS.out, HZ.out⟩
  case done =>
    rintro D xs W hD rfl ⟨o, hs, h2⟩ hK
    have ho : statusP ms j = o := by
      have := h2 []
      rw [List.append_nil] at this
      exact this
    have HO := Aside0.mk ho
    have HS := Aside0.mk hs
    have HKW := Aside0.mk hK
    have c4 := cell_two hs.b4 0 rfl
    have c5 := cell_two hs.b5 0 rfl
    have f4 := blk_frozen hs.b4 0
    clear hs h2 hK ho x6 x7 n0 n1 hAlt hst hQ hB0
    gi_wp2
    have hK' := (KeepsOthers.setCell W ⟨w.heap.size + 1, 0, none⟩ (.int .i64 o)).same D _ HKW.out rfl
    have g4 := cell_kept (cell_two (blk_put HS.out.b4 0 (.int .i64 o) rfl) 0 rfl) (grownBy_putObj' _ D (.deferred none)) (fun r e => by cases e; exact ⟨_, hK', rfl⟩)
    refine ⟨by simp, .inl ⟨_, _, rfl, run_takeDeferred hK', ?_⟩⟩
    refine ⟨.int .i64 o, ?_, by rw [HO.out], ?_⟩
    · simp [results, Try.f36, go_sem, g4]
    · refine Below.trans (HS.out.bel.setCell (by simp) _) (belowK_b (w := w) (Nat.le_refl _) _ D _ _ ?_ hK' rfl rfl)
      rw [hS0] at hD
      omega
  case stop =>
    rintro D cd pre W hD _ ⟨rfl, h0, o, hs⟩ hK
    have HO := Aside0.mk h0
    have HS := Aside0.mk hs
    have c4 := cell_two hs.b4 0 rfl
    clear hs h0 x6 x7 n0 n1 hAlt hst hQ hB0
    gi_wp2
    refine ⟨by simp, .inl ⟨_, _, rfl, run_takeDeferred hK, ?_⟩⟩
    have g4 := cell_kept c4 (grownBy_putObj' _ D (.deferred none)) (fun r e => by cases e; exact ⟨_, hK, rfl⟩)
    refine ⟨.int .i64 0, ?_, by rw [HO.out], ?_⟩
    · simp [results, Try.f36, go_sem, g4]
    · refine Below.trans HS.out.bel (belowK_b (w := w) (Nat.le_refl _) _ D _ _ ?_ hK rfl rfl)
      rw [hS0] at hD
      omega
end Go.Proofs.Ytbjinkkmakhbaaa.Print
