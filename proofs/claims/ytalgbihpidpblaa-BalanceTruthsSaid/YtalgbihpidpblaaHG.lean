/- sum: of a set of places, what goes in or out. -/
import Derived.Test.YtalgbihpidpblaaHF
import Derived.Deep.RegionHeld3
namespace Go.Proofs.Ytalgbihpidpblaa.Print
open Go.RowKit Go.Shelf Go.Proofs.YtalgbihpidpblaaW.PrintWords Go.Proofs.YtalgbihpidpblaaW.PrintLast Go.Proofs.YtalgbihpidpblaaW.PrintMore
set_option linter.unusedVariables false
set_option linter.unusedSimpArgs false

def inW (ws : List Int) (p : Int) : Bool := ws.any fun x => x == p
def isC (ws : List Int) : Array Value := ((List.range 16).map fun j : Nat => Value.bool (inW ws j)).toArray
theorem isC_get (ws : List Int) (p : Int) (h0 : 0 ≤ p) (h : p < 16) : (isC ws)[p.toNat]? = some (.bool (inW ws p)) := by
  obtain ⟨n, rfl⟩ := Int.eq_ofNat_of_zero_le h0
  have hn : n < 16 := by omega
  simp [isC, hn]
theorem isC_snoc (ws : List Int) (x : Int) (h0 : 0 ≤ x) (h : x < 16) : (isC ws).setIfInBounds x.toNat (.bool true) = isC (ws ++ [x]) := by
  obtain ⟨n, rfl⟩ := Int.eq_ofNat_of_zero_le h0
  have hn : n < 16 := by omega
  apply Array.ext
  · simp [isC]
  · intro i h1 h2
    have hi : i < 16 := by simpa [isC] using h2
    simp only [isC, Int.toNat_natCast, List.setIfInBounds_toArray, List.getElem_toArray, List.getElem_set, List.getElem_map, List.getElem_range, inW, List.any_append, List.any_cons, List.any_nil, Bool.or_false]
    by_cases e : n = i
    · subst e
      simp
    · rw [if_neg e]
      have : ((n : Int) == (i : Int)) = false := by simp; omega
      rw [this, Bool.or_false]
def contribW (ws : List Int) (but : Int) (side hi : Bool) (i : Int) (x : S47) : Int :=
  if i = but ∨ inW ws x.f0 = inW ws x.f1 ∨ inW ws x.f0 ≠ side then 0 else if hi then x.f2.f1 else x.f2.f0
def upto (c : Int → S47 → Int) (l : List S47) (k : Int) : Int := sideSum c 0 (l.take k.toNat)
theorem upto_succ (c : Int → S47 → Int) (l : List S47) (k : Int) (h0 : 0 ≤ k) (h : k < l.length) : upto c l (k + 1) = upto c l k + c k (rd_T47 l k) := by
  obtain ⟨n, rfl⟩ := Int.eq_ofNat_of_zero_le h0
  have hn : n < l.length := by omega
  unfold upto
  have e : ((n : Int) + 1).toNat = n + 1 := by omega
  rw [e, Int.toNat_natCast, List.take_succ_eq_append_getElem hn, sideSum_append, rd_T45_eq _ _ hn]
  simp only [List.length_take, Nat.min_eq_left (Nat.le_of_lt hn), Int.zero_add]
theorem upto_all (c : Int → S47 → Int) (l : List S47) (k : Int) (h : k = l.length) : upto c l k = sideSum c 0 l := by
  unfold upto
  rw [List.take_of_length_le (by omega)]
theorem contribW_bound (ws : List Int) (but : Int) (side hi : Bool) (i pl : Int) (x : S47) (h : goodF pl x) : 0 ≤ contribW ws but side hi i x ∧ contribW ws but side hi i x ≤ 1073741824 := by
  unfold goodF at h
  unfold contribW
  split
  · omega
  · split <;> omega
theorem uptoW_bound (ws : List Int) (but : Int) (side hi : Bool) (pl : Int) (l : List S47) (k : Int) (hl : l.length ≤ 16) (hg : ∀ x ∈ l, goodF pl x) : 0 ≤ upto (contribW ws but side hi) l k ∧ upto (contribW ws but side hi) l k ≤ 17179869184 := by
  have := sideSum_bound (contribW ws but side hi) (l.take k.toNat) 1073741824 (fun i x hx => contribW_bound ws but side hi i pl x (hg x (List.mem_of_mem_take hx))) 0
  have h2 : (l.take k.toNat).length ≤ 16 := by simp; omega
  unfold upto
  omega
def totalW (ws : List Int) (but : Int) (side hi : Bool) (l : List S47) : Int := sideSum (contribW ws but side hi) 0 l

theorem rd_mem (xs : List Int) (k : Int) (h0 : 0 ≤ k) (h : k < xs.length) : rd xs k ∈ xs := by
  obtain ⟨n, rfl⟩ := Int.eq_ofNat_of_zero_le h0
  have hn : n < xs.length := by omega
  have : rd xs n = xs[n] := by simp [rd, List.getD_eq_getElem?_getD, hn]
  rw [this]
  exact List.getElem_mem _

set_option maxHeartbeats 4000000 in
set_option maxRecDepth 100000 in
theorem sum_any (pl but : Int) (side : Bool) (A B : Option Addr) (c d : Nat) (l : List S47) (ws : List Int) (w : World) (hr : Kd.C k47 w A l.length l) (hc : l.length ≤ c) (hp : isPlantB pl l = true)
    (hs : Kd.C (Kd.int .i64) w B ws.length ws) (hd : ws.length ≤ d) (hw : ∀ x ∈ ws, 0 ≤ x ∧ x < 8) :
    Calls Try.prog 26 #[.agg #[.int .i64 pl, .slice A l.length c], .slice B ws.length d, .bool side, .int .i64 but] w fun e w' =>
      e = .returned (.agg #[.int .i64 (totalW ws but side false l), .int .i64 (totalW ws but side true l)]) ∧ Below w.heap.size w w' := by
  obtain ⟨hp2, hp8, hl, hg⟩ := plant_of pl l hp
  have HR := Aside0.mk hr
  have HS := Aside0.mk hs
  have HG := Aside0.mk hg
  have HW := Aside0.mk hw
  have hnw : ws.length ≤ 9223372036854775807 := hs.2.1
  clear hr hg hs hw hp
  go_enter Try.func26, Try.ntmps26
  go_wp2_with (fail)
  have x0 := blk_alloc (blk_alloc (blk_new w (.cells #[.int .i64 pl, .slice A l.length c] 24)) (.cells #[.int .i64 0, .int .i64 0] 45)) (.cells #[.bool false, .bool false, .bool false, .bool false, .bool false, .bool false, .bool false, .bool false, .bool false, .bool false, .bool false, .bool false, .bool false, .bool false, .bool false, .bool false] 81)
  have x1 := blk_alloc (blk_new (w.alloc (.cells #[.int .i64 pl, .slice A l.length c] 24)) (.cells #[.int .i64 0, .int .i64 0] 45)) (.cells #[.bool false, .bool false, .bool false, .bool false, .bool false, .bool false, .bool false, .bool false, .bool false, .bool false, .bool false, .bool false, .bool false, .bool false, .bool false, .bool false] 81)
  have x2 := blk_new ((w.alloc (.cells #[.int .i64 pl, .slice A l.length c] 24)).alloc (.cells #[.int .i64 0, .int .i64 0] 45)) (.cells (isC []) 81)
  rw [World.size_alloc] at x1
  rw [World.size_alloc, World.size_alloc] at x2
  have hB : Below w.heap.size w (((w.alloc (.cells #[.int .i64 pl, .slice A l.length c] 24)).alloc (.cells #[.int .i64 0, .int .i64 0] 45)).alloc (.cells #[.bool false, .bool false, .bool false, .bool false, .bool false, .bool false, .bool false, .bool false, .bool false, .bool false, .bool false, .bool false, .bool false, .bool false, .bool false, .bool false] 81)) := by repeat (first | exact Below.refl _ _ | apply below_alloc)
  change (((w.alloc (.cells #[.int .i64 pl, .slice A l.length c] 24)).alloc (.cells #[.int .i64 0, .int .i64 0] 45)).alloc (.cells #[.bool false, .bool false, .bool false, .bool false, .bool false, .bool false, .bool false, .bool false, .bool false, .bool false, .bool false, .bool false, .bool false, .bool false, .bool false, .bool false] 81)).heap[w.heap.size + 1 + 1]? = some (.cells (isC []) 81) at x2
  generalize (((w.alloc (.cells #[.int .i64 pl, .slice A l.length c] 24)).alloc (.cells #[.int .i64 0, .int .i64 0] 45)).alloc (.cells #[.bool false, .bool false, .bool false, .bool false, .bool false, .bool false, .bool false, .bool false, .bool false, .bool false, .bool false, .bool false, .bool false, .bool false, .bool false, .bool false] 81)) = W0 at *
  have X0 := Aside0.mk x0
  have X1 := Aside0.mk x1
  have X2 := Aside0.mk x2
  have XB := Aside0.mk hB
  clear x0 x1 x2 hB
  go_loopw [10] (fun i wr => ∃ k : Int, i = .int .i64 k ∧ 0 ≤ k ∧ k ≤ ws.length ∧
    Aside0 (wr.heap[w.heap.size]? = some (.cells #[.int .i64 pl, .slice A l.length c] 24 (0, 0))) ∧
    Aside0 (wr.heap[w.heap.size + 1]? = some (.cells #[.int .i64 0, .int .i64 0] 45 (0, 0))) ∧
    Aside0 (wr.heap[w.heap.size + 1 + 1]? = some (.cells (isC (ws.take k.toNat)) 81 (0, 0))) ∧ Aside0 (Below w.heap.size w wr)) (fun i _ => ws.length - (intOf i).toNat)
  case atStart => exact ⟨0, rfl, by omega, by omega, X0, X1, X2, XB⟩
  case round =>
    obtain ⟨k, rfl, hk0, hk, HX0, HX1, HX2, HB⟩ := hrel
    by_cases hlt : k < ws.length
    · have hlt' : decide (k < ws.length) = true := decide_eq_true hlt
      have hx := HW.out (rd ws k) (rd_mem ws k hk0 hlt)
      obtain ⟨ad, e, g0⟩ := Kd.at_int (Kd.C_below HS.out HB.out) k hk0 hlt
      cases e
      have hx0 := hx.1
      have hx1 : rd ws k < 16 := by omega
      have hcx := (blk_cell HX2.out (rd ws k).toNat).trans (isC_get _ _ hx0 hx1)
      have hfx := blk_frozen HX2.out (rd ws k).toNat
      go_wp2_with (fail)
      go_roundw
      case rel =>
        refine ⟨k + 1, rfl, by omega, by omega, ⟨?_⟩, ⟨?_⟩, ⟨?_⟩, ⟨?_⟩⟩
        · exact blk_set_ne HX0.out (by omega) _ _
        · exact blk_set_ne HX1.out (by omega) _ _
        · have e : ws.take (k + 1).toNat = ws.take k.toNat ++ [rd ws k] := by
            obtain ⟨n, rfl⟩ := Int.eq_ofNat_of_zero_le hk0
            have hn : n < ws.length := by omega
            rw [show ((n : Int) + 1).toNat = n + 1 from by omega, Int.toNat_natCast, List.take_succ_eq_append_getElem hn]
            simp [rd, List.getD_eq_getElem?_getD, hn]
          rw [e, ← isC_snoc _ _ hx0 hx1]
          exact blk_put HX2.out _ _ rfl
        · exact below_set HB.out (by omega)
      case measure => simp [intOf]; omega
    · have hlt' : decide (k < ws.length) = false := decide_eq_false hlt
      have ek : ws.take k.toNat = ws := List.take_of_length_le (by omega)
      rw [ek] at HX2
      go_wp2_with (fail)
      have hgs : w.heap.size + 1 + 1 < wr.heap.size := blk_lt HX2.out
      have Y0 := Aside0.mk (blk_alloc HX0.out (.cells #[.int .i64 0, .int .i64 0] 45))
      have Y1 := Aside0.mk (blk_alloc HX1.out (.cells #[.int .i64 0, .int .i64 0] 45))
      have Y2 := Aside0.mk (blk_alloc HX2.out (.cells #[.int .i64 0, .int .i64 0] 45))
      have Y3 := Aside0.mk (blk_new wr (.cells #[.int .i64 0, .int .i64 0] 45))
      have YB := Aside0.mk (below_alloc HB.out (.cells #[.int .i64 0, .int .i64 0] 45))
      clear HX0 HX1 HX2 HB X0 X1 X2 XB ek hlt hlt' hk hk0
      generalize hWs : wr.heap.size = gs at *
      generalize (wr.alloc (.cells #[.int .i64 0, .int .i64 0] 45)) = W1 at *
      clear hWs
      go_loopw [12] (fun i wr => ∃ k : Int, i = .int .i64 k ∧ 0 ≤ k ∧ k ≤ l.length ∧
        Aside0 (wr.heap[w.heap.size]? = some (.cells #[.int .i64 pl, .slice A l.length c] 24 (0, 0))) ∧
        Aside0 (wr.heap[w.heap.size + 1]? = some (.cells #[.int .i64 0, .int .i64 0] 45 (0, 0))) ∧
        Aside0 (wr.heap[w.heap.size + 1 + 1]? = some (.cells (isC ws) 81 (0, 0))) ∧
        Aside0 (wr.heap[gs]? = some (.cells #[.int .i64 (upto (contribW ws but side false) l k), .int .i64 (upto (contribW ws but side true) l k)] 45 (0, 0))) ∧ Aside0 (Below w.heap.size w wr)) (fun i _ => l.length - (intOf i).toNat)
      case atStart => exact ⟨0, rfl, by omega, by omega, Y0, Y1, Y2, Y3, YB⟩
      case round =>
        obtain ⟨k, rfl, hk0, hk, HY0, HY1, HY2, HY3, HB⟩ := hrel
        have p0 := cell_two HY0.out 0 rfl
        have p1 := cell_two HY0.out 1 rfl
        have s0 := cell_two HY3.out 0 rfl
        have s1 := cell_two HY3.out 1 rfl
        have sf0 := blk_frozen HY3.out 0
        have sf1 := blk_frozen HY3.out 1
        have hsz : w.heap.size + 1 + 1 < wr.heap.size := blk_lt HY2.out
        have hsz3 : gs < wr.heap.size := blk_lt HY3.out
        by_cases hlt : k < l.length
        · have hlt' : decide (k < l.length) = true := decide_eq_true hlt
          obtain ⟨ad, e, g0, g1, g2, g3⟩ := at_T47 (Kd.C_below HR.out HB.out) k hk0 hlt
          cases e
          have hgx := HG.out (rd_T47 l k) (by obtain ⟨n, rfl⟩ := Int.eq_ofNat_of_zero_le hk0; rw [rd_T45_eq _ _ (by omega)]; exact List.getElem_mem _)
          have b0 : 0 ≤ (rd_T47 l k).f0 := by unfold goodF at hgx; omega
          have b1 : 0 ≤ (rd_T47 l k).f1 := by unfold goodF at hgx; omega
          have b2 : (rd_T47 l k).f0 < 16 := by unfold goodF at hgx; omega
          have b3 : (rd_T47 l k).f1 < 16 := by unfold goodF at hgx; omega
          have q0 : 0 ≤ (rd_T47 l k).f2.f0 ∧ (rd_T47 l k).f2.f0 ≤ 1073741824 := by unfold goodF at hgx; omega
          have q1 : 0 ≤ (rd_T47 l k).f2.f1 ∧ (rd_T47 l k).f2.f1 ≤ 1073741824 := by unfold goodF at hgx; omega
          clear hgx
          have r0 := (blk_cell HY2.out (rd_T47 l k).f0.toNat).trans (isC_get _ _ b0 b2)
          have r1 := (blk_cell HY2.out (rd_T47 l k).f1.toNat).trans (isC_get _ _ b1 b3)
          by_cases hbut : k = but
          · have HZ : ∀ sd, Aside0 (k = but ∨ inW ws (rd_T47 l k).f0 = inW ws (rd_T47 l k).f1 ∨ inW ws (rd_T47 l k).f0 ≠ sd) := fun _ => ⟨.inl hbut⟩
            have hb1 : (k == but) = true := by simp [hbut]
            replace HZ := HZ side
            have hb2 : (k != but) = false := by simp [hbut]
            have HBUT := Aside0.mk hbut
            clear hbut
            go_wp2_with (fail)
            go_region
            go_wp2_with (fail)
            go_roundw
            case rel =>
              refine ⟨k + 1, rfl, by omega, by omega, ⟨?_⟩, ⟨?_⟩, ⟨?_⟩, ⟨?_⟩, ⟨?_⟩⟩
              · (with_reducible repeat (first | refine blk_drewN ?_ _ | refine blk_drew ?_ | refine blk_alloc ?_ _)); exact HY0.out
              · (with_reducible repeat (first | refine blk_drewN ?_ _ | refine blk_drew ?_ | refine blk_alloc ?_ _)); exact HY1.out
              · (with_reducible repeat (first | refine blk_drewN ?_ _ | refine blk_drew ?_ | refine blk_alloc ?_ _)); exact HY2.out
              · rw [upto_succ _ _ _ hk0 hlt, upto_succ _ _ _ hk0 hlt]
                have z : ∀ hi, contribW ws but side hi k (rd_T47 l k) = 0 := fun _ => by unfold contribW; rw [if_pos HZ.out]
                rw [z, z, Int.add_zero, Int.add_zero]
                (with_reducible repeat (first | refine blk_drewN ?_ _ | refine blk_drew ?_ | refine blk_alloc ?_ _)); exact HY3.out
              · repeat (first | exact HB.out | apply below_alloc | apply pw_below_drewN | apply below_drew1)
            case measure => simp [intOf]; omega

          · have hb1 : (k == but) = false := by simp [hbut]
            have hb2 : (k != but) = true := by simp [hbut]
            have HBUT := Aside0.mk hbut
            clear hbut
            have t0 := uptoW_bound ws but side false pl l k hl HG.out
            have t1 := uptoW_bound ws but side true pl l k hl HG.out
            cases hA : inW ws (rd_T47 l k).f0 <;> cases hC : inW ws (rd_T47 l k).f1 <;> cases side
            · rw [hA] at r0; rw [hC] at r1
              have HA := Aside0.mk hA
              have HC := Aside0.mk hC
              clear hA hC
              have HZ : Aside0 (k = but ∨ inW ws (rd_T47 l k).f0 = inW ws (rd_T47 l k).f1 ∨ inW ws (rd_T47 l k).f0 ≠ false) := ⟨.inr (by rw [HA.out, HC.out]; decide)⟩
              go_wp2_with (fail)
              go_region
              go_wp2_with (fail)
              go_roundw
              case rel =>
                refine ⟨k + 1, rfl, by omega, by omega, ⟨?_⟩, ⟨?_⟩, ⟨?_⟩, ⟨?_⟩, ⟨?_⟩⟩
                · (with_reducible repeat (first | refine blk_drewN ?_ _ | refine blk_drew ?_ | refine blk_alloc ?_ _)); exact HY0.out
                · (with_reducible repeat (first | refine blk_drewN ?_ _ | refine blk_drew ?_ | refine blk_alloc ?_ _)); exact HY1.out
                · (with_reducible repeat (first | refine blk_drewN ?_ _ | refine blk_drew ?_ | refine blk_alloc ?_ _)); exact HY2.out
                · rw [upto_succ _ _ _ hk0 hlt, upto_succ _ _ _ hk0 hlt]
                  have z : ∀ hi, contribW ws but false hi k (rd_T47 l k) = 0 := fun _ => by unfold contribW; rw [if_pos HZ.out]
                  rw [z, z, Int.add_zero, Int.add_zero]
                  (with_reducible repeat (first | refine blk_drewN ?_ _ | refine blk_drew ?_ | refine blk_alloc ?_ _)); exact HY3.out
                · repeat (first | exact HB.out | apply below_alloc | apply pw_below_drewN | apply below_drew1)
              case measure => simp [intOf]; omega
            · rw [hA] at r0; rw [hC] at r1
              have HA := Aside0.mk hA
              have HC := Aside0.mk hC
              clear hA hC
              have HZ : Aside0 (k = but ∨ inW ws (rd_T47 l k).f0 = inW ws (rd_T47 l k).f1 ∨ inW ws (rd_T47 l k).f0 ≠ true) := ⟨.inr (by rw [HA.out, HC.out]; decide)⟩
              go_wp2_with (fail)
              go_region
              go_wp2_with (fail)
              go_roundw
              case rel =>
                refine ⟨k + 1, rfl, by omega, by omega, ⟨?_⟩, ⟨?_⟩, ⟨?_⟩, ⟨?_⟩, ⟨?_⟩⟩
                · (with_reducible repeat (first | refine blk_drewN ?_ _ | refine blk_drew ?_ | refine blk_alloc ?_ _)); exact HY0.out
                · (with_reducible repeat (first | refine blk_drewN ?_ _ | refine blk_drew ?_ | refine blk_alloc ?_ _)); exact HY1.out
                · (with_reducible repeat (first | refine blk_drewN ?_ _ | refine blk_drew ?_ | refine blk_alloc ?_ _)); exact HY2.out
                · rw [upto_succ _ _ _ hk0 hlt, upto_succ _ _ _ hk0 hlt]
                  have z : ∀ hi, contribW ws but true hi k (rd_T47 l k) = 0 := fun _ => by unfold contribW; rw [if_pos HZ.out]
                  rw [z, z, Int.add_zero, Int.add_zero]
                  (with_reducible repeat (first | refine blk_drewN ?_ _ | refine blk_drew ?_ | refine blk_alloc ?_ _)); exact HY3.out
                · repeat (first | exact HB.out | apply below_alloc | apply pw_below_drewN | apply below_drew1)
              case measure => simp [intOf]; omega
            · rw [hA] at r0; rw [hC] at r1
              have HA := Aside0.mk hA
              have HC := Aside0.mk hC
              clear hA hC
              have HZ : Aside0 (¬ (k = but ∨ inW ws (rd_T47 l k).f0 = inW ws (rd_T47 l k).f1 ∨ inW ws (rd_T47 l k).f0 ≠ false)) := ⟨by rw [HA.out, HC.out]; rintro (h | h | h); exact HBUT.out h; exact absurd h (by decide); exact h rfl⟩
              go_wp2_with (fail)
              go_region
              go_wp2_with ((go_at_call 25; refine (span_any _ _ _).mono ?_; rintro e W9 ⟨rfl, hb⟩; have V0 := Aside0.mk (blk_below (blk_drewN (blk_alloc HY0.out _) _) hb); have V1 := Aside0.mk (blk_below (blk_drewN (blk_alloc HY1.out _) _) hb); have V2 := Aside0.mk (blk_below (blk_drewN (blk_alloc HY2.out _) _) hb); have V3 := Aside0.mk (blk_below (blk_drewN (blk_alloc HY3.out _) _) hb); have VB := Aside0.mk (bl_next (pw_below_drewN (below_alloc HB.out _) _) hb); have z0 := cell_two V3.out 0 rfl; have z1 := cell_two V3.out 1 rfl; have zf0 := blk_frozen V3.out 0; have zf1 := blk_frozen V3.out 1; clear hb))
              go_roundw
              case rel =>
                refine ⟨k + 1, rfl, by omega, by omega, ⟨?_⟩, ⟨?_⟩, ⟨?_⟩, ⟨?_⟩, ⟨?_⟩⟩
                · exact blk_set_ne (blk_set_ne V0.out (by omega) _ _) (by omega) _ _
                · exact blk_set_ne (blk_set_ne V1.out (by omega) _ _) (by omega) _ _
                · exact blk_set_ne (blk_set_ne V2.out (by omega) _ _) (by omega) _ _
                · rw [upto_succ _ _ _ hk0 hlt, upto_succ _ _ _ hk0 hlt]
                  have y0 : contribW ws but false false k (rd_T47 l k) = (rd_T47 l k).f2.f0 := by unfold contribW; rw [if_neg HZ.out]; rfl
                  have y1 : contribW ws but false true k (rd_T47 l k) = (rd_T47 l k).f2.f1 := by unfold contribW; rw [if_neg HZ.out]; rfl
                  rw [y0, y1]
                  exact blk_put (blk_put V3.out 0 _ rfl) 1 _ rfl
                · exact below_set (below_set VB.out (by omega)) (by omega)
              case measure => simp [intOf]; omega
            · rw [hA] at r0; rw [hC] at r1
              have HA := Aside0.mk hA
              have HC := Aside0.mk hC
              clear hA hC
              have HZ : Aside0 (k = but ∨ inW ws (rd_T47 l k).f0 = inW ws (rd_T47 l k).f1 ∨ inW ws (rd_T47 l k).f0 ≠ true) := ⟨.inr (by rw [HA.out, HC.out]; decide)⟩
              go_wp2_with (fail)
              go_region
              go_wp2_with (fail)
              go_roundw
              case rel =>
                refine ⟨k + 1, rfl, by omega, by omega, ⟨?_⟩, ⟨?_⟩, ⟨?_⟩, ⟨?_⟩, ⟨?_⟩⟩
                · (with_reducible repeat (first | refine blk_drewN ?_ _ | refine blk_drew ?_ | refine blk_alloc ?_ _)); exact HY0.out
                · (with_reducible repeat (first | refine blk_drewN ?_ _ | refine blk_drew ?_ | refine blk_alloc ?_ _)); exact HY1.out
                · (with_reducible repeat (first | refine blk_drewN ?_ _ | refine blk_drew ?_ | refine blk_alloc ?_ _)); exact HY2.out
                · rw [upto_succ _ _ _ hk0 hlt, upto_succ _ _ _ hk0 hlt]
                  have z : ∀ hi, contribW ws but true hi k (rd_T47 l k) = 0 := fun _ => by unfold contribW; rw [if_pos HZ.out]
                  rw [z, z, Int.add_zero, Int.add_zero]
                  (with_reducible repeat (first | refine blk_drewN ?_ _ | refine blk_drew ?_ | refine blk_alloc ?_ _)); exact HY3.out
                · repeat (first | exact HB.out | apply below_alloc | apply pw_below_drewN | apply below_drew1)
              case measure => simp [intOf]; omega
            · rw [hA] at r0; rw [hC] at r1
              have HA := Aside0.mk hA
              have HC := Aside0.mk hC
              clear hA hC
              have HZ : Aside0 (k = but ∨ inW ws (rd_T47 l k).f0 = inW ws (rd_T47 l k).f1 ∨ inW ws (rd_T47 l k).f0 ≠ false) := ⟨.inr (by rw [HA.out, HC.out]; decide)⟩
              go_wp2_with (fail)
              go_region
              go_wp2_with (fail)
              go_roundw
              case rel =>
                refine ⟨k + 1, rfl, by omega, by omega, ⟨?_⟩, ⟨?_⟩, ⟨?_⟩, ⟨?_⟩, ⟨?_⟩⟩
                · (with_reducible repeat (first | refine blk_drewN ?_ _ | refine blk_drew ?_ | refine blk_alloc ?_ _)); exact HY0.out
                · (with_reducible repeat (first | refine blk_drewN ?_ _ | refine blk_drew ?_ | refine blk_alloc ?_ _)); exact HY1.out
                · (with_reducible repeat (first | refine blk_drewN ?_ _ | refine blk_drew ?_ | refine blk_alloc ?_ _)); exact HY2.out
                · rw [upto_succ _ _ _ hk0 hlt, upto_succ _ _ _ hk0 hlt]
                  have z : ∀ hi, contribW ws but false hi k (rd_T47 l k) = 0 := fun _ => by unfold contribW; rw [if_pos HZ.out]
                  rw [z, z, Int.add_zero, Int.add_zero]
                  (with_reducible repeat (first | refine blk_drewN ?_ _ | refine blk_drew ?_ | refine blk_alloc ?_ _)); exact HY3.out
                · repeat (first | exact HB.out | apply below_alloc | apply pw_below_drewN | apply below_drew1)
              case measure => simp [intOf]; omega
            · rw [hA] at r0; rw [hC] at r1
              have HA := Aside0.mk hA
              have HC := Aside0.mk hC
              clear hA hC
              have HZ : Aside0 (¬ (k = but ∨ inW ws (rd_T47 l k).f0 = inW ws (rd_T47 l k).f1 ∨ inW ws (rd_T47 l k).f0 ≠ true)) := ⟨by rw [HA.out, HC.out]; rintro (h | h | h); exact HBUT.out h; exact absurd h (by decide); exact h rfl⟩
              go_wp2_with (fail)
              go_region
              go_wp2_with ((go_at_call 25; refine (span_any _ _ _).mono ?_; rintro e W9 ⟨rfl, hb⟩; have V0 := Aside0.mk (blk_below (blk_drewN (blk_alloc HY0.out _) _) hb); have V1 := Aside0.mk (blk_below (blk_drewN (blk_alloc HY1.out _) _) hb); have V2 := Aside0.mk (blk_below (blk_drewN (blk_alloc HY2.out _) _) hb); have V3 := Aside0.mk (blk_below (blk_drewN (blk_alloc HY3.out _) _) hb); have VB := Aside0.mk (bl_next (pw_below_drewN (below_alloc HB.out _) _) hb); have z0 := cell_two V3.out 0 rfl; have z1 := cell_two V3.out 1 rfl; have zf0 := blk_frozen V3.out 0; have zf1 := blk_frozen V3.out 1; clear hb))
              go_roundw
              case rel =>
                refine ⟨k + 1, rfl, by omega, by omega, ⟨?_⟩, ⟨?_⟩, ⟨?_⟩, ⟨?_⟩, ⟨?_⟩⟩
                · exact blk_set_ne (blk_set_ne V0.out (by omega) _ _) (by omega) _ _
                · exact blk_set_ne (blk_set_ne V1.out (by omega) _ _) (by omega) _ _
                · exact blk_set_ne (blk_set_ne V2.out (by omega) _ _) (by omega) _ _
                · rw [upto_succ _ _ _ hk0 hlt, upto_succ _ _ _ hk0 hlt]
                  have y0 : contribW ws but true false k (rd_T47 l k) = (rd_T47 l k).f2.f0 := by unfold contribW; rw [if_neg HZ.out]; rfl
                  have y1 : contribW ws but true true k (rd_T47 l k) = (rd_T47 l k).f2.f1 := by unfold contribW; rw [if_neg HZ.out]; rfl
                  rw [y0, y1]
                  exact blk_put (blk_put V3.out 0 _ rfl) 1 _ rfl
                · exact below_set (below_set VB.out (by omega)) (by omega)
              case measure => simp [intOf]; omega
            · rw [hA] at r0; rw [hC] at r1
              have HA := Aside0.mk hA
              have HC := Aside0.mk hC
              clear hA hC
              have HZ : Aside0 (k = but ∨ inW ws (rd_T47 l k).f0 = inW ws (rd_T47 l k).f1 ∨ inW ws (rd_T47 l k).f0 ≠ false) := ⟨.inr (by rw [HA.out, HC.out]; decide)⟩
              go_wp2_with (fail)
              go_region
              go_wp2_with (fail)
              go_roundw
              case rel =>
                refine ⟨k + 1, rfl, by omega, by omega, ⟨?_⟩, ⟨?_⟩, ⟨?_⟩, ⟨?_⟩, ⟨?_⟩⟩
                · (with_reducible repeat (first | refine blk_drewN ?_ _ | refine blk_drew ?_ | refine blk_alloc ?_ _)); exact HY0.out
                · (with_reducible repeat (first | refine blk_drewN ?_ _ | refine blk_drew ?_ | refine blk_alloc ?_ _)); exact HY1.out
                · (with_reducible repeat (first | refine blk_drewN ?_ _ | refine blk_drew ?_ | refine blk_alloc ?_ _)); exact HY2.out
                · rw [upto_succ _ _ _ hk0 hlt, upto_succ _ _ _ hk0 hlt]
                  have z : ∀ hi, contribW ws but false hi k (rd_T47 l k) = 0 := fun _ => by unfold contribW; rw [if_pos HZ.out]
                  rw [z, z, Int.add_zero, Int.add_zero]
                  (with_reducible repeat (first | refine blk_drewN ?_ _ | refine blk_drew ?_ | refine blk_alloc ?_ _)); exact HY3.out
                · repeat (first | exact HB.out | apply below_alloc | apply pw_below_drewN | apply below_drew1)
              case measure => simp [intOf]; omega
            · rw [hA] at r0; rw [hC] at r1
              have HA := Aside0.mk hA
              have HC := Aside0.mk hC
              clear hA hC
              have HZ : Aside0 (k = but ∨ inW ws (rd_T47 l k).f0 = inW ws (rd_T47 l k).f1 ∨ inW ws (rd_T47 l k).f0 ≠ true) := ⟨.inr (by rw [HA.out, HC.out]; decide)⟩
              go_wp2_with (fail)
              go_region
              go_wp2_with (fail)
              go_roundw
              case rel =>
                refine ⟨k + 1, rfl, by omega, by omega, ⟨?_⟩, ⟨?_⟩, ⟨?_⟩, ⟨?_⟩, ⟨?_⟩⟩
                · (with_reducible repeat (first | refine blk_drewN ?_ _ | refine blk_drew ?_ | refine blk_alloc ?_ _)); exact HY0.out
                · (with_reducible repeat (first | refine blk_drewN ?_ _ | refine blk_drew ?_ | refine blk_alloc ?_ _)); exact HY1.out
                · (with_reducible repeat (first | refine blk_drewN ?_ _ | refine blk_drew ?_ | refine blk_alloc ?_ _)); exact HY2.out
                · rw [upto_succ _ _ _ hk0 hlt, upto_succ _ _ _ hk0 hlt]
                  have z : ∀ hi, contribW ws but true hi k (rd_T47 l k) = 0 := fun _ => by unfold contribW; rw [if_pos HZ.out]
                  rw [z, z, Int.add_zero, Int.add_zero]
                  (with_reducible repeat (first | refine blk_drewN ?_ _ | refine blk_drew ?_ | refine blk_alloc ?_ _)); exact HY3.out
                · repeat (first | exact HB.out | apply below_alloc | apply pw_below_drewN | apply below_drew1)
              case measure => simp [intOf]; omega
        · have hlt' : decide (k < l.length) = false := decide_eq_false hlt
          have c0 := cell_two HY1.out 0 rfl
          have c1 := cell_two HY1.out 1 rfl
          have cf0 := blk_frozen HY1.out 0
          have cf1 := blk_frozen HY1.out 1
          have u0 := upto_all (contribW ws but side false) l k (by omega)
          have u1 := upto_all (contribW ws but side true) l k (by omega)
          rw [u0] at s0
          rw [u1] at s1
          clear u0 u1 HY3 hk0 hk
          go_wp2_with (fail)
          refine bodyPost_ret (results_cell_row rfl _ _ (w.heap.size + 1) 45 #[.int .i64 (totalW ws but side false l), .int .i64 (totalW ws but side true l)] (0, 0) _ rfl ?_ Try.underlying45 rfl (by kernel_rfl)) rfl ?_
          · exact blk_put (blk_put HY1.out 0 _ rfl) 1 _ rfl
          · have hsb : w.heap.size ≤ w.heap.size + 1 := by omega
            exact ⟨rfl, below_set (below_set HB.out hsb) hsb⟩
end Go.Proofs.Ytalgbihpidpblaa.Print
