/- A truth, by remainders: draw. -/
import Derived.Test.YtbjinkkmakhbaaaLP
namespace Go.Proofs.Ytbjinkkmakhbaaa.Print
open Go.RowKit Go.Shelf Go.Proofs.YtbjinkkmakhbaaaW.PrintWords Go.Proofs.YtbjinkkmakhbaaaW.PrintLast Go.Proofs.YtbjinkkmakhbaaaW.PrintMore
set_option linter.unusedVariables false
set_option linter.unusedSimpArgs false
attribute [local go_sem] Oper.semAt_some
/-- Draws in hand: so many numbers are drawn. -/
structure DrAt (w0 W : World) (BZ BY : Nat) (A : Option Addr) (c : Nat) (l : List Int) (z : Int) : Prop where
  bz : W.heap[BZ]? = some (.cells #[.int .i64 z] 3 (0, 0))
  bY : W.heap[BY]? = some (.cells #[.slice A l.length c] 44 (0, 0))
  bel : Below w0.heap.size w0 W
/-- All but one block is as it was. -/
def ButOne (B : Nat) (W W' : World) : Prop := W.heap.size ≤ W'.heap.size ∧ ∀ k, k < W.heap.size → k ≠ B → W'.heap[k]? = W.heap[k]?
set_option maxHeartbeats 4000000 in
set_option maxRecDepth 100000 in
theorem draw_any (w0 : World) (BZ BY : Nat) (A : Option Addr) (c : Nat) (l : List Int) (hl : Kd.C (Kd.int .u32) w0 A l.length l) (hne : 0 < l.length) (hm : l.length ≤ 9223372036854775807) (hg : ∀ x ∈ l, 0 ≤ x ∧ x ≤ 4294967295) (hBZ : w0.heap.size ≤ BZ) (z : Nat) (hz : z ≤ 1000000) (a b : Int) (ha : 0 ≤ a) (hab : a ≤ b) (hb : b ≤ 1099511627776) (W : World) (H : DrAt w0 W BZ BY A c l (z : Int)) (hYZ : BY ≠ BZ) :
    Calls Try.prog 48 #[.agg #[.int .i64 a, .int .i64 b], .pointer (some ⟨BZ, 0, none⟩), .pointer (some ⟨BY, 0, none⟩)] W fun e W' => ∃ x : Int, e = .returned (.int .i64 x) ∧ a ≤ x ∧ x ≤ b ∧ DrAt w0 W' BZ BY A c l ((z + 1 : Nat) : Int) ∧ ButOne BZ W W' := by
  have H0 := Aside0.mk H
  clear H
  have z0 := cell_two H0.out.bz 0 rfl
  have zf := blk_frozen H0.out.bz 0
  have y0 := cell_two H0.out.bY 0 rfl
  have hw : wrap64 ((z : Int) + 1) = ((z + 1 : Nat) : Int) := by rw [w64 (by omega) (by omega)]; omega
  have hlt := blk_lt H0.out.bz
  go_enter Try.func48, Try.ntmps48
  go_upto_region 2 with (fail)
  have hzi : (z : Int) + 1 = ((z + 1 : Nat) : Int) := by omega
  obtain ⟨W1, hW1⟩ : ∃ W1 : World, (W.setCell ⟨BZ, 0, none⟩ (.int .i64 ((z : Int) + 1))).alloc (.cells #[.int .i64 a, .int .i64 b] 23) = W1 := ⟨_, rfl⟩
  have D1 : Aside0 (DrAt w0 W1 BZ BY A c l ((z + 1 : Nat) : Int)) := ⟨by
    rw [← hW1, ← hzi]
    exact ⟨blk_alloc (blk_put H0.out.bz 0 _ rfl) _, blk_alloc (blk_set_ne H0.out.bY (Ne.symm hYZ) _ _) _, below_alloc (below_set H0.out.bel hBZ) _⟩⟩
  have S1 : Aside0 (W1.heap[W.heap.size]? = some (.cells #[.int .i64 a, .int .i64 b] 23 (0, 0))) := ⟨by
    have h := blk_new (W.setCell ⟨BZ, 0, none⟩ (.int .i64 ((z : Int) + 1))) (.cells #[.int .i64 a, .int .i64 b] 23)
    rw [World.size_setCell] at h
    rw [← hW1]
    exact h⟩
  have B1 : Aside0 (ButOne BZ W W1) := ⟨by
    rw [← hW1]
    refine ⟨by simp [World.size_alloc], fun k hk hne => ?_⟩
    rw [Below.heap_alloc _ _ _ (by simpa using hk)]
    exact Below.heap_setCell W ⟨BZ, 0, none⟩ _ k hne⟩
  rw [hW1]
  clear hW1 z0 zf y0 H0 hlt
  obtain ⟨i, hi, hil⟩ : ∃ i : Nat, Int.tmod ((z : Int) + 1) (l.length : Int) = (i : Int) ∧ i < l.length := by
    refine ⟨(z + 1) % l.length, ?_, Nat.mod_lt _ hne⟩
    rw [hzi, Int.tmod_eq_emod_of_nonneg (by omega)]
    rfl
  have k0 : (0 : Int) ≤ (i : Int) := Int.natCast_nonneg i
  have k1 : (i : Int) < (l.length : Int) := by omega
  have hzl : ((l.length : Int) == 0) = false := by rw [beq_eq_false_iff_ne]; omega
  obtain ⟨ad, e, g0⟩ := Kd.at_int (Kd.C_below hl D1.out.bel) (i : Int) k0 k1
  subst e
  rw [Int.toNat_natCast] at g0
  obtain ⟨u, hu⟩ : ∃ u, rd l (i : Int) = u := ⟨_, rfl⟩
  have hub : 0 ≤ u ∧ u ≤ 4294967295 := by
    rw [← hu]
    unfold rd
    rw [Int.toNat_natCast, List.getD_eq_getElem?_getD, List.getElem?_eq_getElem hil]
    exact hg _ (List.getElem_mem hil)
  rw [hu] at g0
  have hwu : wrap64 u = u := w64 (by omega) (by omega)
  have hw1 : wrap64 (b - a) = b - a := w64 (by omega) (by omega)
  have hw2 : wrap64 (b - a + 1) = b - a + 1 := w64 (by omega) (by omega)
  have hzb : (b - a + 1 == 0) = false := by rw [beq_eq_false_iff_ne]; omega
  obtain ⟨q, hq⟩ : ∃ q, Int.tmod u (b - a + 1) = q := ⟨_, rfl⟩
  have hqb : 0 ≤ q ∧ q ≤ b - a := by
    rw [← hq]
    have h1 := Int.tmod_nonneg (a := u) (b - a + 1) hub.1
    have h2 := Int.tmod_lt_of_pos u (b := b - a + 1) (by omega)
    exact ⟨h1, by omega⟩
  have hw3 : wrap64 (a + q) = a + q := w64 (by omega) (by omega)
  have HQ := Aside0.mk hqb
  have z0 := cell_two D1.out.bz 0 rfl
  have y0 := cell_two D1.out.bY 0 rfl
  have c0 := cell_two S1.out 0 rfl
  have c1 := cell_two S1.out 1 rfl
  rw [← hzi] at z0
  clear hu hub hqb hzi hl hg hm hil
  go_big_region
  go_wp2_with (fail)
  go_ret
  refine ⟨_, rfl, by rw [hw3]; have := HQ.out.1; omega, by rw [hw3]; have := HQ.out.2; omega, ?_, ?_⟩
  · exact ⟨blk_drew D1.out.bz, blk_drew D1.out.bY, Below.drew D1.out.bel⟩
  · exact B1.out
end Go.Proofs.Ytbjinkkmakhbaaa.Print
