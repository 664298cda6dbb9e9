/- The mains that are laid a second time (enough, Lay). -/
import Derived.Test.YtbjinkkmakhbaaaA21
namespace Go.Proofs.Ytbjinkkmakhbaaa.Print
open Go.RowKit Go.Shelf Go.Proofs.YtbjinkkmakhbaaaW.PrintWords Go.Proofs.YtbjinkkmakhbaaaW.PrintLast Go.Proofs.YtbjinkkmakhbaaaW.PrintMore
set_option linter.unusedVariables false
set_option linter.unusedSimpArgs false
attribute [local go_sem] Oper.semAt_some
theorem enough_any (lo hi : Int) (A : Option Addr) (n c : Nat) (A' : Option Addr) (n' c' : Nat) (w : World) :
    Calls Try.prog 43 #[.agg #[.int .i64 lo, .int .i64 hi, .slice A n c, .slice A' n' c']] w fun e w' => e = .returned (.func (.func 61) #[] #[.pointer (some ⟨w.heap.size, 0, none⟩)]) ∧ w' = w.alloc (.cells #[.int .i64 lo, .int .i64 hi, .slice A n c, .slice A' n' c'] 27) := by
  go_enter Try.func43, Try.ntmps43
  go_wp2
  go_ret
  exact ⟨rfl, rfl⟩
/-- The best of some sets. -/
def bestS (b : Int × Int) (x : Int × Int) : Int × Int := if b.1 < 0 ∨ x.2 < b.2 then x else b
def bestF (l : List (Int × Int)) : Int × Int := l.foldl bestS (-1, 0)
theorem bestF_snoc (l : List (Int × Int)) (x : Int × Int) : bestF (l ++ [x]) = bestS (bestF l) x := by
  unfold bestF
  rw [List.foldl_append]
  rfl
theorem enL_mem (lo hi : Int) (js : List S50) (ms : List S54) : ∀ k, ∀ x ∈ enL lo hi js ms k, ∃ s : Nat, x.1 = (s : Int) ∧ s < k
  | 0, x, h => by simp [enL] at h
  | k + 1, x, h => by
    rw [enL, List.mem_append] at h
    rcases h with h | h
    · obtain ⟨s, h1, h2⟩ := enL_mem lo hi js ms k x h
      exact ⟨s, h1, by omega⟩
    · split at h
      · simp only [List.mem_singleton] at h
        exact ⟨k, by rw [h], by omega⟩
      · cases h
theorem bestF_mem : ∀ (l : List (Int × Int)) (b : Int × Int), l.foldl bestS b = b ∨ l.foldl bestS b ∈ l
  | [], b => .inl rfl
  | x :: l, b => by
    simp only [List.foldl_cons]
    rcases bestF_mem l (bestS b x) with h | h
    · rw [h]
      unfold bestS
      split
      · exact .inr (by simp)
      · exact .inl rfl
    · exact .inr (by simp [h])
theorem best_some {l : List (Int × Int)} {N : Nat} (hl : ∀ x ∈ l, ∃ s : Nat, x.1 = (s : Int) ∧ s < N) (hne : l ≠ []) : ∃ s : Nat, (bestF l).1 = (s : Int) ∧ s < N := by
  cases l with
  | nil => exact absurd rfl hne
  | cons x l =>
    obtain ⟨s, h1, h2⟩ := hl x (by simp)
    have e : bestF (x :: l) = l.foldl bestS x := by
      unfold bestF
      rw [List.foldl_cons]
      congr 1
    rw [e]
    rcases bestF_mem l x with h | h
    · rw [h]
      exact ⟨s, h1, h2⟩
    · exact hl _ (by simp [h])
/-- Lay: the mains, what they cost, and the error. -/
def layS (lo hi : Int) (js : List S50) (ms : List S54) : List Int × Int × Int :=
  if netB lo hi js ms = true then (if (bestF (enL lo hi js ms (2 ^ ms.length))).1 < 0 then ([], 0, 4) else (listL (bestF (enL lo hi js ms (2 ^ ms.length))).1.toNat 8, (bestF (enL lo hi js ms (2 ^ ms.length))).2, 0)) else ([], 0, 1)
/-- What is known before each set. -/
structure LayI (w W : World) (BB : Nat) (b : Int × Int) : Prop where
  bb : W.heap[BB]? = some (.cells #[.int .i64 b.1] 3 (0, 0))
  bc : W.heap[w.heap.size + 1]? = some (.cells #[.int .i64 b.2] 3 (0, 0))
  bel : Below w.heap.size w W
theorem LayI.next {w W W' : World} {BB : Nat} {b : Int × Int} (h : LayI w W BB b) (hb : Below W.heap.size W W') : LayI w W' BB b := ⟨blk_below h.bb hb, blk_below h.bc hb, bl_next' h.bel hb⟩
theorem layi_own (w : World) (BB : Nat) (g : List (Int × Int) → Int × Int) (B : Nat) (hB : w.heap.size ≤ B) : OwnFrom B (fun (pre : List (Int × Int)) W => LayI w W BB (g pre)) := fun s W W' row h hg hr =>
  ⟨blk_kept h.bb hg (fun r e => (hr r e).2), blk_kept h.bc hg (fun r e => (hr r e).2), h.bel.grown hg h.bel.size (fun k e => Nat.le_trans hB (hr k e).1)⟩
theorem results_lay {v : Value} {b e : Int} {W : World} {g : Nat} {tmps : Array Value} (h : W.cell? ⟨g, 0, none⟩ = some (.int .i64 b)) (h2 : tmps[2]? = some v) (h3 : tmps[3]? = some (.pointer (some ⟨g, 0, none⟩))) (h4 : tmps[4]? = some (.int .i64 e)) : (results Try.f18 tmps).run Try.prog W = .ok (.tuple #[v, .int .i64 b, .int .i64 e]) W := by
  simp [results, Try.f18, go_sem, h2, h3, h4, h]
set_option maxHeartbeats 8000000 in
set_option maxRecDepth 100000 in
theorem Lay_any (lo hi : Int) (A : Option Addr) (c : Nat) (js : List S50) (A' : Option Addr) (c' : Nat) (ms : List S54) (w : World) (hr : Kd.C k50 w A js.length js) (hc : js.length ≤ c) (hr' : Kd.C k54 w A' ms.length ms) (hc' : ms.length ≤ c') :
    Calls Try.prog 18 #[.agg #[.int .i64 lo, .int .i64 hi, .slice A js.length c, .slice A' ms.length c']] w fun e w' => ∃ v : Value, e = .returned (.tuple #[v, .int .i64 (layS lo hi js ms).2.1, .int .i64 (layS lo hi js ms).2.2]) ∧ Kd.R (Kd.int .i64) 3 w' w.heap.size (fun _ => True) v (layS lo hi js ms).1 ∧ Below w.heap.size w w' := by
  have hm := Kd.C_max hr
  have H0 : Aside0 (NetAt w ((w.alloc (.cells (netC lo hi A js.length c A' ms.length c') 27)).alloc (.cells #[.int .i64 0] 3)) w.heap.size lo hi A c js A' c' ms) := ⟨⟨blk_alloc (blk_new w _) _, Kd.C_alloc (Kd.C_alloc hr _) _, Kd.C_alloc (Kd.C_alloc hr' _) _, below_alloc (below_alloc (Below.refl _ _) _) _⟩⟩
  have hq0 := blk_new (w.alloc (.cells (netC lo hi A js.length c A' ms.length c') 27)) (.cells #[.int .i64 0] 3)
  rw [World.size_alloc] at hq0
  have Q0 := Aside0.mk hq0
  clear hq0
  have s0 := cell_two H0.out.blk 0 rfl
  have s1 := cell_two H0.out.blk 1 rfl
  have s2 := cell_two H0.out.blk 2 rfl
  have s3 := cell_two H0.out.blk 3 rfl
  have HNet : Aside0 (∀ W, NetAt w W w.heap.size lo hi A c js A' c' ms → Calls Try.prog 33 #[.agg #[.int .i64 lo, .int .i64 hi, .slice A js.length c, .slice A' ms.length c']] W fun e w' => e = .returned (.bool (netB lo hi js ms)) ∧ Below W.heap.size W w') := ⟨fun W h => network_any lo hi A c js A' c' ms W h.jr hc h.mr hc'⟩
  have HR := Aside0.mk hr
  have HR' := Aside0.mk hr'
  clear hr hr'
  refine (callsIn_wide (n := 8)).1 ?_
  refine callsIn_of_wp_marks Try.func18 rfl trivial ?_ rfl
  refine wpIn_wide.2 ?_
  simp only [Try.ntmps18, List.size_toArray, List.length_cons, List.length_nil, Nat.reduceAdd, Nat.reduceSub, Array.replicate_succ, Array.replicate_zero, List.push_toArray, List.append_toArray, List.nil_append, List.cons_append]
  unfold layS
  by_cases hn : netB lo hi js ms = true
  · rw [if_pos hn]
    have HOK := Aside0.mk (net_ok hn)
    rw [hn] at HNet
    clear hn
    obtain ⟨res, hres⟩ : ∃ r, (if (bestF (enL lo hi js ms (2 ^ ms.length))).1 < 0 then (([] : List Int), (0 : Int), (4 : Int)) else (listL (bestF (enL lo hi js ms (2 ^ ms.length))).1.toNat 8, (bestF (enL lo hi js ms (2 ^ ms.length))).2, 0)) = r := ⟨_, rfl⟩
    rw [hres]
    have HRES := Aside0.mk hres
    clear hres
    go_wp2_with (first
      | (go_at_call 33; with_reducible refine (HNet.out _ H0.out).mono ?_; rintro e W1 ⟨rfl, hb⟩; have H1 := Aside0.mk (H0.out.next hb); have Q1 := Aside0.mk (blk_below Q0.out hb); clear hb s0 s1 s2 s3; have s0 := cell_two (blk_alloc H1.out.blk (.cells #[.int .i64 (-1)] 3)) 0 rfl; have s1 := cell_two (blk_alloc H1.out.blk (.cells #[.int .i64 (-1)] 3)) 1 rfl; have s2 := cell_two (blk_alloc H1.out.blk (.cells #[.int .i64 (-1)] 3)) 2 rfl; have s3 := cell_two (blk_alloc H1.out.blk (.cells #[.int .i64 (-1)] 3)) 3 rfl)
      | (go_at_call 43; refine (enough_any _ _ _ _ _ _ _ _ _).mono ?_; rintro e w' ⟨rfl, rfl⟩))
    clear s0 s1 s2 s3
    obtain ⟨W3, hW3⟩ : ∃ W3, W3 = (W1.alloc (.cells #[.int .i64 (-1)] 3)).alloc (.cells #[.int .i64 lo, .int .i64 hi, .slice A js.length c, .slice A' ms.length c'] 27) := ⟨_, rfl⟩
    have hB3 : Below W1.heap.size W1 W3 := by
      rw [hW3]
      exact below_alloc (below_alloc (Below.refl _ _) _) _
    have hS3 : W3.heap.size = W1.heap.size + 1 + 1 := by rw [hW3]; simp
    have x0 : W3.heap[W1.heap.size]? = some (.cells #[.int .i64 (-1)] 3 (0, 0)) := by
      rw [hW3]
      exact blk_alloc (blk_new W1 _) _
    have x1 : W3.heap[W1.heap.size + 1]? = some (.cells (netC lo hi A js.length c A' ms.length c') 27 (0, 0)) := by
      rw [hW3]
      have := blk_new (W1.alloc (.cells #[.int .i64 (-1)] 3)) (.cells #[.int .i64 lo, .int .i64 hi, .slice A js.length c, .slice A' ms.length c'] 27)
      rwa [World.size_alloc] at this
    rw [← hW3]
    clear hW3
    have hws : w.heap.size + 1 < W1.heap.size := blk_lt Q1.out
    have HX := Aside0.mk x1
    have HB3 := Aside0.mk (bl_next' H1.out.bel hB3)
    have HI0 : Aside0 (LayI w W3 W1.heap.size (bestF [])) := ⟨⟨x0, blk_below Q1.out hB3, HB3.out⟩⟩
    clear x0 x1 hB3
    refine (wpIn_wide (n := 8)).1 ?_
    refine range_st rfl (by omega) (gf := 61) (lb := #[.pointer (some ⟨W1.heap.size + 1, 0, none⟩)]) rfl trivial (enters_of Try.func61 (by kernel_rfl) rfl) (encs := encS) (Kp := KpX w.heap.size (W1.heap.size + 1)) (Ef := fun A B => Below A.heap.size A B)
      (Pre := fun pre x => ∃ s : Nat, x = ((s : Int), costN s 0 ms) ∧ s < 2 ^ ms.length ∧ isEn lo hi js ms s = true ∧ pre = enL lo hi js ms s) (S := fun xs _ => xs = enL lo hi js ms (2 ^ ms.length)) (Sp := fun _ => True)
      (fun W hg => enough_seq 7 (by omega) lo hi A c js A' c' ms HOK.out hc hc' w HR.out HR'.out (W1.heap.size + 1) W ⟨HB3.out.trans ((below_none hg).mono HB3.out.size), blk_grown HX.out hg (by simp)⟩)
      (fun A B k o h hk _ => blk_below hk h) (fun h k => kpx_trans h k) (fun W l o o' hl h1 h2 => kpx_putObj (by omega) h1 h2) (fun _ => rfl)
      (fun pre W => LayI w W W1.heap.size (bestF pre)) (fun _ _ _ => False)
      (layi_own w _ _ _ (by rw [hS3]; omega)) (fun _ _ _ _ _ hs _ _ => hs) (fun _ _ _ h he => h.next he) (fun _ _ _ _ h _ => h) (fun _ _ _ _ hs _ _ => hs) HI0.out
      (fun x a' _ => a' = { tmps := #[.agg #[.int .i64 lo, .int .i64 hi, .slice A js.length c, .slice A' ms.length c'], .pointer (some ⟨w.heap.size, 0, none⟩), .slice none 0 0, .pointer (some ⟨w.heap.size + 1, 0, none⟩), .int .i64 0, .pointer (some ⟨W1.heap.size, 0, none⟩), .int .i64 x.1, .int .i64 x.2, .agg #[.int .i64 lo, .int .i64 hi, .slice A js.length c, .slice A' ms.length c'], .bool true, .bool false, .agg #[.int .i64 lo, .int .i64 hi, .slice A js.length c, .slice A' ms.length c'], .func (.func 61) #[] #[.pointer (some ⟨W1.heap.size + 1, 0, none⟩)], .int .i64 x.1, .int .i64 x.2, undef, undef, undef, undef, undef, undef, undef, undef, undef, undef, undef, undef, undef, undef], defers := [] }) (fun _ _ _ _ _ hs _ _ => hs) ?assign ?body ?done ?stop
    case assign =>
      intro lp pre x W K hi hK
      gi_wp2
      exact hK _ _ (KeepsOthers.refl _) (kpx_refl _ _ _) hi rfl
    case body =>
      rintro lp pre x a' W hs rfl ⟨s, rfl, hsN, hen, hpre⟩
      have HS := Aside0.mk hs
      have HSN := Aside0.mk (bestF_snoc pre ((s : Int), costN s 0 ms))
      clear hs hpre hen HI0
      obtain ⟨cs, hcs⟩ : ∃ x, costN s 0 ms = x := ⟨_, rfl⟩
      rw [hcs] at HSN ⊢
      clear hcs
      obtain ⟨b, hb⟩ : ∃ x, bestF pre = x := ⟨_, rfl⟩
      rw [hb] at HS HSN
      clear hb
      obtain ⟨b1, b2⟩ := b
      have c1 := cell_two HS.out.bb 0 rfl
      have c2 := cell_two HS.out.bc 0 rfl
      have f1 := blk_frozen HS.out.bb 0
      have f2 := blk_frozen HS.out.bc 0
      simp only at c1 c2
      have HK2 : Aside0 (∀ u v : Value, KpX w.heap.size (W1.heap.size + 1) W ((W.setCell ⟨W1.heap.size, 0, none⟩ u).setCell ⟨w.heap.size + 1, 0, none⟩ v)) := ⟨fun u v => ⟨((Below.refl _ W).setCell (by show w.heap.size ≤ W1.heap.size; omega) _).setCell (by show w.heap.size ≤ w.heap.size + 1; omega) _, fun cs t m e => blk_set_ne (blk_set_ne e (by omega) 0 _) (by omega) 0 _⟩⟩
      have HF : Aside0 (LayI w ((W.setCell ⟨W1.heap.size, 0, none⟩ (.int .i64 (s : Int))).setCell ⟨w.heap.size + 1, 0, none⟩ (.int .i64 cs)) W1.heap.size ((s : Int), cs)) := ⟨⟨blk_set_ne (blk_put HS.out.bb 0 _ rfl) (by omega) 0 _, blk_put (blk_set_ne HS.out.bc (by omega) 0 _) 0 _ rfl, (HS.out.bel.setCell (by show w.heap.size ≤ W1.heap.size; omega) _).setCell (by show w.heap.size ≤ w.heap.size + 1; omega) _⟩⟩
      have c3 : (W.setCell ⟨W1.heap.size, 0, none⟩ (.int .i64 (s : Int))).cell? ⟨w.heap.size + 1, 0, none⟩ = some (.int .i64 b2) := cell_two (blk_set_ne HS.out.bc (by omega) 0 _) 0 rfl
      have f3 : (W.setCell ⟨W1.heap.size, 0, none⟩ (.int .i64 (s : Int))).frozen? ⟨w.heap.size + 1, 0, none⟩ = false := blk_frozen (blk_set_ne HS.out.bc (by omega) 0 _) 0
      by_cases h1 : b1 < 0
      · have d1 : decide (b1 < 0) = true := decide_eq_true h1
        have HE : Aside0 (bestF (pre ++ [((s : Int), cs)]) = ((s : Int), cs)) := ⟨by rw [HSN.out]; exact if_pos (.inl h1)⟩
        clear h1
        gi_wp2
        refine ⟨(KeepsOthers.setCell _ _ _).trans (KeepsOthers.setCell _ _ _), HK2.out _ _, ?_⟩
        show LayI w _ _ (bestF (pre ++ [((s : Int), cs)]))
        rw [HE.out]
        exact HF.out
      · have d1 : decide (b1 < 0) = false := decide_eq_false h1
        by_cases h2 : cs < b2
        · have d2 : decide (cs < b2) = true := decide_eq_true h2
          have HE : Aside0 (bestF (pre ++ [((s : Int), cs)]) = ((s : Int), cs)) := ⟨by rw [HSN.out]; exact if_pos (.inr h2)⟩
          clear h1 h2
          gi_wp2
          refine ⟨(KeepsOthers.setCell _ _ _).trans (KeepsOthers.setCell _ _ _), HK2.out _ _, ?_⟩
          show LayI w _ _ (bestF (pre ++ [((s : Int), cs)]))
          rw [HE.out]
          exact HF.out
        · have d2 : decide (cs < b2) = false := decide_eq_false h2
          have HE : Aside0 (bestF (pre ++ [((s : Int), cs)]) = (b1, b2)) := ⟨by rw [HSN.out]; exact if_neg (fun h => h.elim h1 h2)⟩
          clear h1 h2
          gi_wp2
          refine ⟨KeepsOthers.refl _, kpx_refl _ _ _, ?_⟩
          show LayI w _ _ (bestF (pre ++ [((s : Int), cs)]))
          rw [HE.out]
          exact HS.out
    case done =>
      rintro D xs W hD rfl hs hK
      rw [hS3] at hD
      have HS := Aside0.mk hs
      have HKW := Aside0.mk hK
      have HBS : Aside0 (¬ (bestF (enL lo hi js ms (2 ^ ms.length))).1 < 0 → ∃ s : Nat, (bestF (enL lo hi js ms (2 ^ ms.length))).1 = (s : Int) ∧ s < 256) := ⟨fun h => by
        have h8 : ms.length ≤ 8 := by have := HOK.out.ml; have := HOK.out.jl; omega
        have h256 : 2 ^ ms.length ≤ 256 := Nat.le_trans (Nat.pow_le_pow_right (by decide) h8) (by decide)
        obtain ⟨s, h1, h2⟩ := best_some (enL_mem lo hi js ms (2 ^ ms.length)) (fun e => by rw [e] at h; exact h (by decide))
        exact ⟨s, h1, by omega⟩⟩
      clear hs hK HI0
      obtain ⟨b, hb⟩ : ∃ x, bestF (enL lo hi js ms (2 ^ ms.length)) = x := ⟨_, rfl⟩
      rw [hb] at HS HBS HRES
      clear hb
      obtain ⟨b1, b2⟩ := b
      simp only at HBS HRES
      have c1 : W.cell? ⟨W1.heap.size, 0, none⟩ = some (.int .i64 b1) := cell_two HS.out.bb 0 rfl
      have c2 : W.cell? ⟨w.heap.size + 1, 0, none⟩ = some (.int .i64 b2) := cell_two HS.out.bc 0 rfl
      have f2 := blk_frozen HS.out.bc 0
      by_cases h1 : b1 < 0
      · have d1 : decide (b1 < 0) = true := decide_eq_true h1
        have HRE : Aside0 (res = ([], 0, 4)) := ⟨by rw [← HRES.out, if_pos h1]⟩
        clear h1
        gi_wp2
        go_wp2_with (fail)
        have HK' := blk_set_ne (g := w.heap.size + 1) HKW.out (by omega) 0 (.int .i64 0)
        refine ⟨by simp, .inl ⟨_, _, rfl, run_takeDeferred HK', ?_⟩⟩
        refine ⟨_, results_lay (cell_kept (cell_two (blk_put HS.out.bc 0 (.int .i64 0) rfl) 0 rfl) (grownBy_putObj' _ D (.deferred none)) (fun r e => by cases e; exact ⟨_, HK', rfl⟩)) rfl rfl rfl, ?_⟩
        rw [HRE.out]
        exact ⟨_, rfl, Kd.R_nil _ _ _ _ _, Below.trans (HS.out.bel.setCell (by show w.heap.size ≤ w.heap.size + 1; omega) _) (belowK_b (w := w) (Nat.le_refl _) _ D _ _ (by omega) HK' rfl rfl)⟩
      · have d1 : decide (b1 < 0) = false := decide_eq_false h1
        obtain ⟨s, rfl, hs⟩ := HBS.out h1
        have HRE : Aside0 (res = (listL s 8, b2, 0)) := ⟨by rw [← HRES.out, if_neg h1, Int.toNat_natCast]⟩
        clear h1
        gi_wp2
        go_wp2_with (fail)
        refine wp_region_noPanic ?_
        refine start_ (n := 6) (S := fun w' => w'.cell? ⟨W1.heap.size, 0, none⟩ = some (.int .i64 (s : Int)) ∧ w'.cell? ⟨w.heap.size + 1, 0, none⟩ = some (.int .i64 b2)) (ds := [4]) (bs_ 6 0) (by kernel_rfl) rfl rfl (⟨c1, c2⟩) (fun hHeld => ?_)
        have HS4 := Aside0.mk (HS.out.next (Below.drew (Below.refl _ W)))
        have HK4 : Aside0 (W.drew.heap[D]? = some (.deferred (some []))) := ⟨HKW.out⟩
        generalize W.drew = W4 at HS4 HK4 hHeld ⊢
        refine take_ (i := 0) (N := some 26) (v := ?_) (a' := ?_) (bs_ 6 1) rfl rfl (by kernel_rfl) (fun _ _ _ h => h) (Or.inl ⟨by rfl, ?_⟩) hHeld ?_ ?_; rotate_left; (· rintro w' ⟨s0, s1⟩; go_simp; with_reducible rfl); rotate_left; (· simp only [Act.put, N1_]; rfl)
        refine take_ (i := 2) (N := some 28) (v := ?_) (a' := ?_) (bs_ 6 5) rfl rfl (by kernel_rfl) (fun _ _ _ h => h) (Or.inl ⟨by rfl, ?_⟩) hHeld ?_ ?_; rotate_left; (· rintro w' ⟨s0, s1⟩; go_simp; with_reducible rfl); rotate_left; (· simp only [Act.put, N1_]; rfl)
        refine one_ (i := 1) (N := some 27) (bs_ 6 7) rfl rfl (by kernel_rfl) (by decide) (fun K hK => ?_)
        refine goes_ Try.func44 (by kernel_rfl) rfl #[.int .i64 (s : Int)] (by rfl) rfl rfl (by (try simp only [LM_]); try rfl) ?_
        refine (list_any s hs _).mono ?_
        rintro e W5 ⟨v, rfl, ho, hb⟩
        refine ⟨_, rfl, ?_⟩
        have HS5 := Aside0.mk (HS4.out.next hb)
        have HK5 := Aside0.mk (blk_below HK4.out hb)
        have HO5 := Aside0.mk ho
        have c5 := cell_two HS5.out.bc 0 rfl
        have f5 := blk_frozen HS5.out.bc 0
        clear hb ho hHeld
        refine hK.out _ _ ⟨cell_two HS5.out.bb 0 rfl, cell_two HS5.out.bc 0 rfl⟩ (fun hHeld => ?_)
        clear hK K
        refine norm_ (a' := ?_) ?_ ?_; rotate_left; (· show Act.put _ (some 27) _ = _; simp only [Act.put, N1_]; rfl)
        refine pure_ (i := 3) (N := some 2) (v := ?_) (a' := ?_) (bs_ 6 15) rfl rfl (by kernel_rfl) (fun _ _ _ h => h) (Or.inl ⟨by rfl, ?_⟩) ?_ ?_; rotate_left; (· intro w'; go_simp; with_reducible rfl); rotate_left; (· simp only [Act.put, N1_]; rfl)
        refine last_ (i := 4) (N := none) (bs_ 6 31) rfl rfl (by kernel_rfl) (by decide) (fun K hK => ?_)
        refine skip_ (w1 := ?_) (by rfl) rfl ?_ ?_; rotate_left; (· go_simp; rfl)
        refine hK.out _ _ ?_
        clear hK K
        refine pure_ (i := 5) (N := some 4) (v := ?_) (a' := ?_) (bs_ 6 63) rfl rfl (by kernel_rfl) (fun _ _ _ h => h) (Or.inl ⟨by rfl, ?_⟩) ?_ ?_; rotate_left; (· intro w'; go_simp; with_reducible rfl); rotate_left; (· simp only [Act.put, N1_]; rfl)
        refine done_ (by kernel_rfl) ?_
        refine NoPanic.normal ?_
        clear hHeld
        go_wp2_with (fail)
        have HK' := blk_set_ne (g := w.heap.size + 1) HK5.out (by omega) 0 (.int .i64 b2)
        refine ⟨by simp, .inl ⟨_, _, rfl, run_takeDeferred HK', ?_⟩⟩
        refine ⟨_, results_lay (v := v) (cell_kept (cell_two (blk_put HS5.out.bc 0 (.int .i64 b2) rfl) 0 rfl) (grownBy_putObj' _ D (.deferred none)) (fun r e => by cases e; exact ⟨_, HK', rfl⟩)) rfl rfl rfl, ?_⟩
        rw [HRE.out]
        refine ⟨_, rfl, ?_, Below.trans (HS5.out.bel.setCell (by show w.heap.size ≤ w.heap.size + 1; omega) _) (belowK_b (w := w) (Nat.le_refl _) _ D _ _ (by omega) HK' rfl rfl)⟩
        exact Kd.R_mono (Kd.R_lower (Kd.R_grown (Kd.R_far (p := ⟨w.heap.size + 1, 0, none⟩) HO5.out (fun k hk => by have := blk_lt HS4.out.bc; show k ≠ w.heap.size + 1; omega) _) (grownBy_putObj' _ D _) (fun k hk e => by have := blk_lt HK4.out; injection e with e; omega)) HS4.out.bel.size) (fun _ _ => trivial)
    case stop =>
      rintro D cd pre W hD _ h _
      exact h.elim
  · have hn' : netB lo hi js ms = false := by simpa using hn
    rw [if_neg hn]
    rw [hn'] at HNet
    clear hn hn'
    go_wp2_with (go_at_call 33; with_reducible refine (HNet.out _ H0.out).mono ?_; rintro e W1 ⟨rfl, hb⟩; have H1 := Aside0.mk (H0.out.next hb); have Q1 := Aside0.mk (blk_below Q0.out hb); clear hb s0 s1 s2 s3; have q0 := cell_two Q1.out 0 rfl; have f0 := blk_frozen Q1.out 0)
    refine ⟨_, results_lay (cell_two (blk_put Q1.out 0 (.int .i64 0) rfl) 0 rfl) rfl rfl rfl, ?_⟩
    exact ⟨_, rfl, Kd.R_nil _ _ _ _ _, H1.out.bel.setCell (by show w.heap.size ≤ w.heap.size + 1; omega) _⟩
end Go.Proofs.Ytbjinkkmakhbaaa.Print
