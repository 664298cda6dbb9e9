/- Which junctions are fed (fedIf). -/
import Derived.Test.YtbjinkkmakhbaaaA6
namespace Go.Proofs.Ytbjinkkmakhbaaa.Print
open Go.RowKit Go.Shelf Go.Proofs.YtbjinkkmakhbaaaW.PrintWords Go.Proofs.YtbjinkkmakhbaaaW.PrintLast Go.Proofs.YtbjinkkmakhbaaaW.PrintMore
set_option linter.unusedVariables false
set_option linter.unusedSimpArgs false
attribute [local go_sem] Oper.semAt_some
/-- Nine bools, as a block holds them. -/
def arrB (g : Nat → Bool) : Array Value := #[.bool (g 0), .bool (g 1), .bool (g 2), .bool (g 3), .bool (g 4), .bool (g 5), .bool (g 6), .bool (g 7), .bool (g 8)]
theorem arr_get (g : Nat → Bool) (k : Nat) (h : k < 9) : (arrB g)[k]? = some (.bool (g k)) :=
  match k, h with
  | 0, _ => rfl
  | 1, _ => rfl
  | 2, _ => rfl
  | 3, _ => rfl
  | 4, _ => rfl
  | 5, _ => rfl
  | 6, _ => rfl
  | 7, _ => rfl
  | 8, _ => rfl
theorem arr_set (g : Nat → Bool) (k : Nat) (b : Bool) (h : k < 9) : (arrB g).setIfInBounds k (.bool b) = arrB (fun i => if i = k then b else g i) :=
  match k, h with
  | 0, _ => rfl
  | 1, _ => rfl
  | 2, _ => rfl
  | 3, _ => rfl
  | 4, _ => rfl
  | 5, _ => rfl
  | 6, _ => rfl
  | 7, _ => rfl
  | 8, _ => rfl
theorem arr_same (g : Nat → Bool) (k : Nat) (h : k < 9) : (arrB g).setIfInBounds k (.bool (g k)) = arrB g := by
  rw [arr_set g k (g k) h]
  congr 1
  funext i
  by_cases e : i = k
  · subst e; rw [if_pos rfl]
  · rw [if_neg e]
/-- Is a junction fed, if those valves are open? -/
def fedQ (ms : List S54) (O : Nat → Bool) : Nat → Bool
  | 0 => true
  | k + 1 => O k && fedQ ms O (min (rd_T54 ms k).f0.toNat k)
termination_by j => j
decreasing_by omega
/-- Which valves are open: those that are, and those that are doubtful, if all of these are, or on a way. -/
def openQ (ms : List S54) (all : Bool) (j : Nat) (k : Nat) : Bool := (rd_T54 ms k).f2 == 0 || ((rd_T54 ms k).f2 == 2 && (all || (wayL ms j).contains (k : Int)))
/-- Which junctions are fed, as the array has it. -/
def fedA (ms : List S54) (all : Bool) (j : Nat) (i : Nat) : Bool := decide (i ≤ ms.length) && fedQ ms (openQ ms all j) i
structure FedAt (w W : World) (g f : Nat → Bool) : Prop where
  b6 : W.heap[w.heap.size]? = some (.cells (arrB f) 105 (0, 0))
  b7 : W.heap[w.heap.size + 1]? = some (.cells (arrB g) 105 (0, 0))
  bel : Below w.heap.size w W
theorem fed_own (w : World) (f : Nat → Bool) (B : Nat) (hB : w.heap.size ≤ B) : OwnFrom B (fun (pre : List Int) W => FedAt w W (fun i => decide (0 < i) && pre.contains ((i : Int) - 1)) f) := fun s W W' row h hg hr =>
  ⟨blk_kept h.b6 hg (fun r e => (hr r e).2), blk_kept h.b7 hg (fun r e => (hr r e).2), h.bel.grown hg h.bel.size (fun k e => Nat.le_trans hB (hr k e).1)⟩
theorem own_step (pre : List Int) (k : Nat) : (fun i : Nat => if i = k + 1 then true else (decide (0 < i) && pre.contains ((i : Int) - 1))) = (fun i : Nat => decide (0 < i) && (pre ++ [(k : Int)]).contains ((i : Int) - 1)) := by
  funext i
  by_cases h : i = k + 1
  · subst h
    rw [if_pos rfl]
    simp
  · rw [if_neg h]
    rw [Bool.eq_iff_iff]
    simp only [Bool.and_eq_true, decide_eq_true_eq, List.contains_iff_mem, List.mem_append, List.mem_singleton]
    exact ⟨fun h => ⟨h.1, .inl h.2⟩, fun h => ⟨h.1, h.2.resolve_right (fun e => by omega)⟩⟩
theorem fed_next (ms : List S54) (O : Nat → Bool) (k : Nat) (v : Bool) (h : fedQ ms O (k + 1) = v) : (fun i : Nat => decide (i ≤ k + 1) && fedQ ms O i) = (fun i : Nat => if i = k + 1 then v else (decide (i ≤ k) && fedQ ms O i)) := by
  funext i
  by_cases e : i = k + 1
  · subst e
    rw [if_pos rfl, decide_eq_true (Nat.le_refl _), Bool.true_and, h]
  · rw [if_neg e]
    congr 1
    exact decide_eq_decide.2 ⟨fun h => by omega, fun h => by omega⟩
set_option maxHeartbeats 2000000 in
set_option maxRecDepth 100000 in
theorem fedIf_any (A' : Option Addr) (c' : Nat) (ms : List S54) (P j : Nat) (all : Bool) (w : World) (hm : w.cell? ⟨P, 3, none⟩ = some (.slice A' ms.length c')) (hr : Kd.C k54 w A' ms.length ms) (hok : anyM 0 ms = false) (hj : j ≤ ms.length) (h8 : ms.length ≤ 8) :
    Calls Try.prog 58 #[.pointer (some ⟨P, 0, none⟩), .bool all, .int .i64 (j : Int)] w fun e w' => e = .returned (.agg (arrB (fedA ms all j))) ∧ Below w.heap.size w w' := by
  have HM := Aside0.mk hm
  have HR := Aside0.mk hr
  have HOK := Aside0.mk hok
  clear hm hr hok
  refine (callsIn_wide (n := 8)).1 ?_
  refine callsIn_of_wp_marks Try.func58 rfl trivial ?_ rfl
  simp only [Try.ntmps58, List.size_toArray, List.length_cons, List.length_nil, Nat.reduceAdd, Nat.reduceSub, Array.replicate_succ, Array.replicate_zero, List.push_toArray, List.append_toArray, List.nil_append, List.cons_append]
  gi_wp2_with (refine ⟨trivial, ?_⟩; gi_at_call 56; refine (callsIn_wide.2 (way_any _ _ _)).mono ?_; rintro e w' ⟨rfl, rfl⟩)
  obtain ⟨W0, hW0⟩ : ∃ W0, W0 = ((((w.alloc (.cells (arrB fun _ => false) 105)).alloc (.cells (arrB fun _ => false) 105)).alloc (.cells #[.pointer (some ⟨P, 0, none⟩)] 69)).alloc (.cells #[.int .i64 (j : Int)] 3)) := ⟨_, rfl⟩
  have hB0 : Below w.heap.size w W0 := by
    rw [hW0]
    repeat (first | exact Below.refl _ _ | apply below_alloc)
  have hS0 : W0.heap.size = w.heap.size + 1 + 1 + 1 + 1 := by rw [hW0]; simp
  have x6 : W0.heap[w.heap.size]? = some (.cells (arrB fun _ => false) 105 (0, 0)) := by
    rw [hW0]
    exact blk_alloc (blk_alloc (blk_alloc (blk_new w _) _) _) _
  have x7 : W0.heap[w.heap.size + 1]? = some (.cells (arrB fun _ => false) 105 (0, 0)) := by
    rw [hW0]
    have := blk_new (w.alloc (.cells (arrB fun _ => false) 105)) (.cells (arrB fun _ => false) 105)
    simp only [World.size_alloc] at this
    exact blk_alloc (blk_alloc this _) _
  have x8 : W0.heap[w.heap.size + 1 + 1]? = some (.cells #[.pointer (some ⟨P, 0, none⟩)] 69 (0, 0)) := by
    rw [hW0]
    have := blk_new ((w.alloc (.cells (arrB fun _ => false) 105)).alloc (.cells (arrB fun _ => false) 105)) (.cells #[.pointer (some ⟨P, 0, none⟩)] 69)
    simp only [World.size_alloc] at this
    exact blk_alloc this _
  have x9 : W0.heap[w.heap.size + 1 + 1 + 1]? = some (.cells #[.int .i64 (j : Int)] 3 (0, 0)) := by
    rw [hW0]
    have := blk_new (((w.alloc (.cells (arrB fun _ => false) 105)).alloc (.cells (arrB fun _ => false) 105)).alloc (.cells #[.pointer (some ⟨P, 0, none⟩)] 69)) (.cells #[.int .i64 (j : Int)] 3)
    simp only [World.size_alloc] at this
    exact this
  have hPlt : P < w.heap.size := World.block_lt_of_cell? _ _ HM.out
  have n0 : W0.cell? ⟨P, 3, none⟩ = some (.slice A' ms.length c') := (hB0.cell (p := ⟨P, 3, none⟩) hPlt).trans HM.out
  have n1 : Kd.C k54 W0 A' ms.length ms := Kd.C_below HR.out hB0
  have hQ : ∀ ad, A' = some ad → 0 < ms.length → (ad.block < w.heap.size ∨ ad.block = w.heap.size + 1 + 1) := fun ad e hpos => .inl (by
    obtain ⟨ad', e', g0, _⟩ := at_T54 HR.out 0 (by omega) (by omega)
    rw [e] at e'
    obtain rfl := Option.some.inj e'
    have := World.block_lt_of_cell? _ _ g0
    rwa [add_block] at this)
  have hst : FedAt w W0 (fun i => decide (0 < i) && ([] : List Int).contains ((i : Int) - 1)) (fun _ => false) := ⟨x6, by
    have e : (fun i : Nat => decide (0 < i) && ([] : List Int).contains ((i : Int) - 1)) = fun _ => false := by funext i; simp
    rw [e]
    exact x7, hB0⟩
  have hWW : W0 = ((((w.alloc (.cells (arrB fun _ => false) 105)).alloc (.cells (arrB fun _ => false) 105)).alloc (.cells #[.pointer (some ⟨P, 0, none⟩)] 69)).alloc (.cells #[.int .i64 (j : Int)] 3)) := hW0
  simp only [arrB] at hWW
  rw [← hWW]
  clear hW0 hWW x6 x7
  refine range_st rfl (by omega) (gf := 70) (lb := #[.pointer (some ⟨w.heap.size + 1 + 1 + 1, 0, none⟩), .pointer (some ⟨w.heap.size + 1 + 1, 0, none⟩)]) rfl trivial (enters_of Try.func70 (by kernel_rfl) rfl) (encs := encK) (Kp := KpS (fun b => b < w.heap.size ∨ b = w.heap.size + 1 + 1)) (Ef := fun A B => A = B)
    (Pre := fun pre x => ∃ (k : Nat) (r : List Int), x = (k : Int) ∧ k < ms.length ∧ pre ++ x :: r = wayL ms j) (S := fun xs _ => xs = wayL ms j) (Sp := fun _ => True)
    (fun W hg => way_seq Fence.wide 7 trivial rfl (by omega) ms A' c' P (w.heap.size + 1 + 1) (w.heap.size + 1 + 1 + 1) j W (cell_two (blk_grown x8 hg (by simp)) 0 rfl) (cell_two (blk_grown x9 hg (by simp)) 0 rfl) (((below_none hg).cell (World.block_lt_of_cell? _ _ n0)).trans n0) (Kd.C_below n1 (below_none hg)) HOK.out hj h8 _ (.inr rfl) (.inl hPlt) hQ)
    (fun A B k o h hk _ => h ▸ hk) (fun h k => kps_trans h k) (fun W l o o' hl _ _ => kps_put (w := W0) (fun b hb => by rw [hS0]; omega) W l o o' hl) (fun _ => rfl)
    (fun pre W => FedAt w W (fun i => decide (0 < i) && pre.contains ((i : Int) - 1)) (fun _ => false)) (fun _ _ _ => False)
    (fed_own w _ _ (by rw [hS0]; omega)) (fun _ _ _ _ _ hs _ _ => hs) (fun _ _ _ h e => e ▸ h) (fun _ _ _ _ h _ => h) (fun _ _ _ _ hs _ _ => hs) hst
    (fun x a' _ => a' = { tmps := #[.pointer (some ⟨P, 0, none⟩), .bool all, .int .i64 (j : Int), undef, undef, undef, .pointer (some ⟨w.heap.size, 0, none⟩), .pointer (some ⟨w.heap.size + 1, 0, none⟩), .int .i64 x, undef, undef, undef, .pointer (some ⟨P, 0, none⟩), .int .i64 (j : Int), .func (.func 70) #[] #[.pointer (some ⟨w.heap.size + 1 + 1 + 1, 0, none⟩), .pointer (some ⟨w.heap.size + 1 + 1, 0, none⟩)], .int .i64 x, undef, undef, undef, undef, undef, undef, undef, undef, undef, undef, undef, undef, undef, undef, undef, undef, undef, undef, undef, undef, undef, undef, undef, undef, undef, undef, undef, undef, undef, undef, undef, undef, undef, undef, undef, undef, undef, undef, undef, undef, undef, undef, undef, undef], defers := [] }) (fun _ _ _ _ _ hs _ _ => hs) ?assign ?body ?done ?stop
  case assign =>
    intro lp pre x W K hi hK
    gi_wp2
    exact hK _ _ (KeepsOthers.refl _) (fun _ _ => rfl) hi rfl
  case body =>
    rintro lp pre x a' W hs rfl ⟨k, r, rfl, hk, hp⟩
    have HS := Aside0.mk hs
    have c7 := (cell_two hs.b7 (k + 1) (arr_get _ (k + 1) (by omega)))
    have f7 := blk_frozen hs.b7 (k + 1)
    have k0 : (0 : Int) ≤ (k : Int) := Int.natCast_nonneg k
    have k1 : (k : Int) + 1 < 9 := by omega
    clear hs hp x8 x9 n0 n1 hst hQ hB0
    gi_wp2
    refine ⟨KeepsOthers.setCell _ _ _, fun b hb => (Below.heap_setCell W ⟨w.heap.size + 1, k + 1, none⟩ _ b (by show b ≠ w.heap.size + 1; omega)), ⟨blk_set_ne HS.out.b6 (by omega) _ _, ?_, HS.out.bel.setCell (by show w.heap.size ≤ w.heap.size + 1; omega) _⟩⟩
    rw [← own_step]
    exact blk_put HS.out.b7 (k + 1) _ (arr_set _ (k + 1) true (by omega))
  case done =>
    rintro D xs W hD rfl hs hK
    rw [hS0] at hD
    have HS := Aside0.mk hs
    have HKW := Aside0.mk hK
    have c6 := cell_two hs.b6 0 (arr_get _ 0 (by omega))
    have f6 := blk_frozen hs.b6 0
    have cn : W.cell? ⟨P, 3, none⟩ = some (.slice A' ms.length c') := (hs.bel.cell (p := ⟨P, 3, none⟩) hPlt).trans HM.out
    clear hs hK x8 x9 n0 n1 hst hQ hB0
    gi_wp2
    have H1 : Aside0 (FedAt w (W.setCell ⟨w.heap.size, 0, none⟩ (.bool true)) (fun i => decide (0 < i) && (wayL ms j).contains ((i : Int) - 1)) (fun i => decide (i ≤ 0) && fedQ ms (openQ ms all j) i)) := ⟨by
      rw [show (fun i : Nat => decide (i ≤ 0) && fedQ ms (openQ ms all j) i) = fun i => if i = 0 then true else false from by
        funext i
        by_cases h : i = 0
        · subst h; simp [fedQ]
        · simp [h]]
      exact blk_put HS.out.b6 0 _ (arr_set _ 0 true (by omega)), blk_set_ne HS.out.b7 (by omega) 0 _, HS.out.bel.setCell (Nat.le_refl _) _⟩
    have HK1 : Aside0 ((W.setCell ⟨w.heap.size, 0, none⟩ (.bool true)).heap[D]? = some (.deferred (some []))) := ⟨(KeepsOthers.setCell W ⟨w.heap.size, 0, none⟩ (.bool true)).same D _ HKW.out rfl⟩
    clear c6 f6 cn
    generalize W.setCell ⟨w.heap.size, 0, none⟩ (.bool true) = W1 at H1 HK1 ⊢
    gi_loopw [26] (fun p wr => ∃ k : Nat, p = .int .i64 (k : Int) ∧ k ≤ ms.length ∧ Aside0 (FedAt w wr (fun i => decide (0 < i) && (wayL ms j).contains ((i : Int) - 1)) (fun i => decide (i ≤ k) && fedQ ms (openQ ms all j) i)) ∧ Aside0 (wr.heap[D]? = some (.deferred (some [])))) (fun p _ => ms.length - (intOf p).toNat)
    case atStart => exact ⟨0, rfl, by omega, H1, HK1⟩
    case round =>
      clear H1 HK1
      obtain ⟨k, rfl, hk, H, HK⟩ := hrel
      by_cases hlt : k < ms.length
      · have hlt' : decide ((k : Int) < (ms.length : Int)) = true := decide_eq_true (by omega)
        have k0 : (0 : Int) ≤ (k : Int) := Int.natCast_nonneg k
        have k1 : (k : Int) < (ms.length : Int) := by omega
        obtain ⟨ad, e, g0, g1, g2, g3⟩ := at_T54 (Kd.C_below HR.out H.out.bel) k k0 k1
        cases e
        simp only [Int.toNat_natCast] at g0 g1 g2 g3
        have hok := mains_ok HOK.out k hlt
        obtain ⟨i, hi⟩ : ∃ i : Nat, (rd_T54 ms k).f0 = (i : Int) := ⟨(rd_T54 ms k).f0.toNat, by omega⟩
        have hik : i ≤ k := by omega
        rw [hi] at g0
        have HV : Aside0 (fedQ ms (openQ ms all j) (k + 1) = (openQ ms all j k && (decide (i ≤ k) && fedQ ms (openQ ms all j) i))) := ⟨by
          rw [fedQ, hi, Int.toNat_natCast, Nat.min_eq_left hik, decide_eq_true hik, Bool.true_and]⟩
        have HO : Aside0 (openQ ms all j k = ((rd_T54 ms k).f2 == 0 || ((rd_T54 ms k).f2 == 2 && (all || (wayL ms j).contains (k : Int))))) := ⟨rfl⟩
        obtain ⟨m1, hm1⟩ : ∃ x, (rd_T54 ms k).f1 = x := ⟨_, rfl⟩
        obtain ⟨m2, hm2⟩ : ∃ x, (rd_T54 ms k).f2 = x := ⟨_, rfl⟩
        obtain ⟨m3, hm3⟩ : ∃ x, (rd_T54 ms k).f3 = x := ⟨_, rfl⟩
        rw [hm1] at g1
        rw [hm2] at g2
        rw [hm2] at HO
        rw [hm3] at g3
        clear hm1 hm2 hm3 hok hi
        obtain ⟨fi, hfi⟩ : ∃ x, (decide (i ≤ k) && fedQ ms (openQ ms all j) i) = x := ⟨_, rfl⟩
        obtain ⟨oi, hoi⟩ : ∃ x, (wayL ms j).contains (k : Int) = x := ⟨_, rfl⟩
        rw [hfi] at HV
        rw [hoi] at HO
        have i0 : (0 : Int) ≤ (i : Int) := Int.natCast_nonneg i
        have i9 : (i : Int) < 9 := by omega
        have k9 : (k : Int) + 1 < 9 := by omega
        have v1 : wrap64 ((k : Int) + 1) = (k : Int) + 1 := by unfold wrap64; omega
        have b6 := blk_alloc H.out.b6 (.cells #[.int .i64 (i : Int), .int .i64 m1, .int .i64 m2, .int .i64 m3] 54)
        have b7 := blk_alloc H.out.b7 (.cells #[.int .i64 (i : Int), .int .i64 m1, .int .i64 m2, .int .i64 m3] 54)
        have bb := below_alloc H.out.bel (.cells #[.int .i64 (i : Int), .int .i64 m1, .int .i64 m2, .int .i64 m3] 54)
        have bk := blk_alloc HK.out (.cells #[.int .i64 (i : Int), .int .i64 m1, .int .i64 m2, .int .i64 m3] 54)
        have fr6 := blk_frozen b6 (k + 1)
        have q6 := cell_two b6 i (arr_get _ i (by omega))
        have q7 := cell_two b7 (k + 1) (arr_get _ (k + 1) (by omega))
        have e7 : (decide (0 < k + 1) && (wayL ms j).contains (((k + 1 : Nat) : Int) - 1)) = oi := by
          rw [← hoi, decide_eq_true (by omega), Bool.true_and]
          congr 1
          omega
        simp only [hfi] at q6
        simp only [e7] at q7
        have r6 := cell_two b6 (k + 1) (arr_get _ (k + 1) (by omega))
        have HB6 := Aside0.mk b6
        have HB7 := Aside0.mk b7
        have HBB := Aside0.mk bb
        have HBK := Aside0.mk bk
        clear b6 b7 bb bk e7
        have hS1 : w.heap.size ≠ D := by omega
        by_cases c0 : m2 = 0
        · subst c0
          gi_wp2
          refine ⟨⟨k + 1, by simp, hlt, ⟨⟨?_, blk_set_ne HB7.out (by omega) _ _, HBB.out.setCell (Nat.le_refl _) _⟩⟩, ⟨blk_set_ne HBK.out (by omega) _ _⟩⟩, ?_⟩
          · rw [fed_next ms (openQ ms all j) k fi (by rw [HV.out, HO.out]; simp)]
            exact blk_put HB6.out (k + 1) _ (arr_set _ (k + 1) _ (by omega))
          · simp only [intOf]
            omega
        · have d0 : decide (m2 = 0) = false := decide_eq_false c0
          by_cases c2 : m2 = 2
          · subst c2
            cases all with
            | true =>
              gi_wp2
              refine ⟨⟨k + 1, by simp, hlt, ⟨⟨?_, blk_set_ne HB7.out (by omega) _ _, HBB.out.setCell (Nat.le_refl _) _⟩⟩, ⟨blk_set_ne HBK.out (by omega) _ _⟩⟩, ?_⟩
              · rw [fed_next ms (openQ ms true j) k fi (by rw [HV.out, HO.out]; simp)]
                exact blk_put HB6.out (k + 1) _ (arr_set _ (k + 1) _ (by omega))
              · simp only [intOf]
                omega
            | false =>
              cases oi with
              | true =>
                gi_wp2
                refine ⟨⟨k + 1, by simp, hlt, ⟨⟨?_, blk_set_ne HB7.out (by omega) _ _, HBB.out.setCell (Nat.le_refl _) _⟩⟩, ⟨blk_set_ne HBK.out (by omega) _ _⟩⟩, ?_⟩
                · rw [fed_next ms (openQ ms false j) k fi (by rw [HV.out, HO.out]; simp)]
                  exact blk_put HB6.out (k + 1) _ (arr_set _ (k + 1) _ (by omega))
                · simp only [intOf]
                  omega
              | false =>
                gi_wp2
                refine ⟨⟨k + 1, by simp, hlt, ⟨⟨?_, blk_set_ne HB7.out (by omega) _ _, HBB.out.setCell (Nat.le_refl _) _⟩⟩, ⟨blk_set_ne HBK.out (by omega) _ _⟩⟩, ?_⟩
                · rw [fed_next ms (openQ ms false j) k false (by rw [HV.out, HO.out]; simp)]
                  exact blk_put HB6.out (k + 1) _ (arr_set _ (k + 1) _ (by omega))
                · simp only [intOf]
                  omega
          · have d2 : decide (m2 = 2) = false := decide_eq_false c2
            gi_wp2
            refine ⟨⟨k + 1, by simp, hlt, ⟨⟨?_, blk_set_ne HB7.out (by omega) _ _, HBB.out.setCell (Nat.le_refl _) _⟩⟩, ⟨blk_set_ne HBK.out (by omega) _ _⟩⟩, ?_⟩
            · rw [fed_next ms (openQ ms all j) k false (by rw [HV.out, HO.out]; simp [c0, c2])]
              exact blk_put HB6.out (k + 1) _ (arr_set _ (k + 1) _ (by omega))
            · simp only [intOf]
              omega
      · have hlt' : decide ((k : Int) < (ms.length : Int)) = false := decide_eq_false (by omega)
        have e : k = ms.length := by omega
        have H2 : Aside0 (FedAt w wr (fun i => decide (0 < i) && (wayL ms j).contains ((i : Int) - 1)) (fedA ms all j)) := ⟨by have := H.out; rw [e] at this; exact this⟩
        clear e
        have c0 : wr.cell? ⟨w.heap.size, 0, none⟩ = some (.bool (fedA ms all j 0)) := cell_two H2.out.b6 0 rfl
        have f0 := blk_frozen H2.out.b6 0
        have c1 : wr.cell? ⟨w.heap.size, 1, none⟩ = some (.bool (fedA ms all j 1)) := cell_two H2.out.b6 1 rfl
        have f1 := blk_frozen H2.out.b6 1
        have c2 : wr.cell? ⟨w.heap.size, 2, none⟩ = some (.bool (fedA ms all j 2)) := cell_two H2.out.b6 2 rfl
        have f2 := blk_frozen H2.out.b6 2
        have c3 : wr.cell? ⟨w.heap.size, 3, none⟩ = some (.bool (fedA ms all j 3)) := cell_two H2.out.b6 3 rfl
        have f3 := blk_frozen H2.out.b6 3
        have c4 : wr.cell? ⟨w.heap.size, 4, none⟩ = some (.bool (fedA ms all j 4)) := cell_two H2.out.b6 4 rfl
        have f4 := blk_frozen H2.out.b6 4
        have c5 : wr.cell? ⟨w.heap.size, 5, none⟩ = some (.bool (fedA ms all j 5)) := cell_two H2.out.b6 5 rfl
        have f5 := blk_frozen H2.out.b6 5
        have c6 : wr.cell? ⟨w.heap.size, 6, none⟩ = some (.bool (fedA ms all j 6)) := cell_two H2.out.b6 6 rfl
        have f6 := blk_frozen H2.out.b6 6
        have c7 : wr.cell? ⟨w.heap.size, 7, none⟩ = some (.bool (fedA ms all j 7)) := cell_two H2.out.b6 7 rfl
        have f7 := blk_frozen H2.out.b6 7
        have c8 : wr.cell? ⟨w.heap.size, 8, none⟩ = some (.bool (fedA ms all j 8)) := cell_two H2.out.b6 8 rfl
        have f8 := blk_frozen H2.out.b6 8
        gi_wp2
        have hDn : w.heap.size ≠ D := by omega
        have b6 := (blk_put (blk_put (blk_put (blk_put (blk_put (blk_put (blk_put (blk_put (blk_put H2.out.b6 0 (.bool (fedA ms all j 0)) (arr_same _ 0 (by omega))) 1 (.bool (fedA ms all j 1)) (arr_same _ 1 (by omega))) 2 (.bool (fedA ms all j 2)) (arr_same _ 2 (by omega))) 3 (.bool (fedA ms all j 3)) (arr_same _ 3 (by omega))) 4 (.bool (fedA ms all j 4)) (arr_same _ 4 (by omega))) 5 (.bool (fedA ms all j 5)) (arr_same _ 5 (by omega))) 6 (.bool (fedA ms all j 6)) (arr_same _ 6 (by omega))) 7 (.bool (fedA ms all j 7)) (arr_same _ 7 (by omega))) 8 (.bool (fedA ms all j 8)) (arr_same _ 8 (by omega)))
        have hK' := (blk_set_ne (blk_set_ne (blk_set_ne (blk_set_ne (blk_set_ne (blk_set_ne (blk_set_ne (blk_set_ne (blk_set_ne HK.out hDn 0 (.bool (fedA ms all j 0))) hDn 1 (.bool (fedA ms all j 1))) hDn 2 (.bool (fedA ms all j 2))) hDn 3 (.bool (fedA ms all j 3))) hDn 4 (.bool (fedA ms all j 4))) hDn 5 (.bool (fedA ms all j 5))) hDn 6 (.bool (fedA ms all j 6))) hDn 7 (.bool (fedA ms all j 7))) hDn 8 (.bool (fedA ms all j 8)))
        have hbel := (Below.setCell (Below.setCell (Below.setCell (Below.setCell (Below.setCell (Below.setCell (Below.setCell (Below.setCell (Below.setCell H2.out.bel (p := ⟨w.heap.size, 0, none⟩) (Nat.le_refl _) (.bool (fedA ms all j 0))) (p := ⟨w.heap.size, 1, none⟩) (Nat.le_refl _) (.bool (fedA ms all j 1))) (p := ⟨w.heap.size, 2, none⟩) (Nat.le_refl _) (.bool (fedA ms all j 2))) (p := ⟨w.heap.size, 3, none⟩) (Nat.le_refl _) (.bool (fedA ms all j 3))) (p := ⟨w.heap.size, 4, none⟩) (Nat.le_refl _) (.bool (fedA ms all j 4))) (p := ⟨w.heap.size, 5, none⟩) (Nat.le_refl _) (.bool (fedA ms all j 5))) (p := ⟨w.heap.size, 6, none⟩) (Nat.le_refl _) (.bool (fedA ms all j 6))) (p := ⟨w.heap.size, 7, none⟩) (Nat.le_refl _) (.bool (fedA ms all j 7))) (p := ⟨w.heap.size, 8, none⟩) (Nat.le_refl _) (.bool (fedA ms all j 8)))
        generalize (((((((((wr.setCell ⟨w.heap.size, 0, none⟩ (.bool (fedA ms all j 0))).setCell ⟨w.heap.size, 1, none⟩ (.bool (fedA ms all j 1))).setCell ⟨w.heap.size, 2, none⟩ (.bool (fedA ms all j 2))).setCell ⟨w.heap.size, 3, none⟩ (.bool (fedA ms all j 3))).setCell ⟨w.heap.size, 4, none⟩ (.bool (fedA ms all j 4))).setCell ⟨w.heap.size, 5, none⟩ (.bool (fedA ms all j 5))).setCell ⟨w.heap.size, 6, none⟩ (.bool (fedA ms all j 6))).setCell ⟨w.heap.size, 7, none⟩ (.bool (fedA ms all j 7))).setCell ⟨w.heap.size, 8, none⟩ (.bool (fedA ms all j 8))) = W9 at b6 hK' hbel ⊢
        refine ⟨by simp, .inl ⟨_, _, rfl, run_takeDeferred hK', ?_⟩⟩
        have hx : (W9.putObj D (.deferred none)).heap[w.heap.size]? = some (.cells (arrB (fedA ms all j)) 105 (0, 0)) := (World.putObj_heap_other (by omega)).trans b6
        have g0 := cell_two hx 0 (arr_get _ 0 (by omega))
        have g1 := cell_two hx 1 (arr_get _ 1 (by omega))
        have g2 := cell_two hx 2 (arr_get _ 2 (by omega))
        have g3 := cell_two hx 3 (arr_get _ 3 (by omega))
        have g4 := cell_two hx 4 (arr_get _ 4 (by omega))
        have g5 := cell_two hx 5 (arr_get _ 5 (by omega))
        have g6 := cell_two hx 6 (arr_get _ 6 (by omega))
        have g7 := cell_two hx 7 (arr_get _ 7 (by omega))
        have g8 := cell_two hx 8 (arr_get _ 8 (by omega))
        refine ⟨.agg (arrB (fedA ms all j)), ?_, rfl, ?_⟩
        · simp [results, Try.f58, go_sem, g0, g1, g2, g3, g4, g5, g6, g7, g8]
          rfl
        · refine Below.trans hbel (belowK_b (w := w) (Nat.le_refl _) _ D _ _ ?_ hK' rfl rfl)
          omega
  case stop =>
    rintro D cd pre W hD _ h _
    exact h.elim
end Go.Proofs.Ytbjinkkmakhbaaa.Print
