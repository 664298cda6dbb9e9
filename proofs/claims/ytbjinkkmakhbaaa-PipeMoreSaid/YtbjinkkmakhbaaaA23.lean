/- The mains that have to be laid a second time (Must). -/
import Derived.Test.YtbjinkkmakhbaaaA22
namespace Go.Proofs.Ytbjinkkmakhbaaa.Print
open Go.RowKit Go.Shelf Go.Proofs.YtbjinkkmakhbaaaW.PrintWords Go.Proofs.YtbjinkkmakhbaaaW.PrintLast Go.Proofs.YtbjinkkmakhbaaaW.PrintMore
set_option linter.unusedVariables false
set_option linter.unusedSimpArgs false
attribute [local go_sem] Oper.semAt_some
theorem bits_and (a b : Nat) (ha : a < 256) (hb : b < 256) : Go.bits .and .i64 (a : Int) (b : Int) = ((a &&& b : Nat) : Int) :=
  (bits_nat .i64 8 (by decide) (fun n h0 h1 => IntWalk.i64_in _ (by omega)) a b ha hb).1
/-- What all of some sets have. -/
def mustS1 (a : Nat × Bool) (x : Int × Int) : Nat × Bool := (a.1 &&& x.1.toNat, true)
def mustF (N : Nat) (l : List (Int × Int)) : Nat × Bool := l.foldl mustS1 (N - 1, false)
theorem mustF_snoc (N : Nat) (l : List (Int × Int)) (x : Int × Int) : mustF N (l ++ [x]) = mustS1 (mustF N l) x := by
  unfold mustF
  rw [List.foldl_append]
  rfl
theorem mustF_lt {N : Nat} (hN : N ≤ 256) (hp : 0 < N) : ∀ l : List (Int × Int), (mustF N l).1 < 256 := by
  have : ∀ (l : List (Int × Int)) (a : Nat × Bool), a.1 < 256 → (l.foldl mustS1 a).1 < 256 := by
    intro l
    induction l with
    | nil => intro a h; exact h
    | cons x l ih => intro a h; exact ih _ (Nat.lt_of_le_of_lt Nat.and_le_left h)
  intro l
  exact this l _ (by show N - 1 < 256; omega)
/-- Must: the mains, and the error. -/
def mustR (lo hi : Int) (js : List S50) (ms : List S54) : List Int × Int :=
  if netB lo hi js ms = true then (if (mustF (2 ^ ms.length) (enL lo hi js ms (2 ^ ms.length))).2 = false then ([], 4) else (listL (mustF (2 ^ ms.length) (enL lo hi js ms (2 ^ ms.length))).1 8, 0)) else ([], 1)
/-- What is known before each set. -/
structure MustI (w W : World) (BA : Nat) (b : Nat × Bool) : Prop where
  ba : W.heap[BA]? = some (.cells #[.int .i64 (b.1 : Int)] 3 (0, 0))
  bs : W.heap[BA + 1]? = some (.cells #[.bool b.2] 4 (0, 0))
  bel : Below w.heap.size w W
theorem MustI.next {w W W' : World} {BA : Nat} {b : Nat × Bool} (h : MustI w W BA b) (hb : Below W.heap.size W W') : MustI w W' BA b := ⟨blk_below h.ba hb, blk_below h.bs hb, bl_next' h.bel hb⟩
theorem musti_own (w : World) (BA : Nat) (g : List (Int × Int) → Nat × Bool) (B : Nat) (hB : w.heap.size ≤ B) : OwnFrom B (fun (pre : List (Int × Int)) W => MustI w W BA (g pre)) := fun s W W' row h hg hr =>
  ⟨blk_kept h.ba hg (fun r e => (hr r e).2), blk_kept h.bs hg (fun r e => (hr r e).2), h.bel.grown hg h.bel.size (fun k e => Nat.le_trans hB (hr k e).1)⟩
theorem results_must {v : Value} {e : Int} {W : World} {tmps : Array Value} (h2 : tmps[2]? = some v) (h3 : tmps[3]? = some (.int .i64 e)) : (results Try.f20 tmps).run Try.prog W = .ok (.tuple #[v, .int .i64 e]) W := by
  simp [results, Try.f20, go_sem, h2, h3]
set_option maxHeartbeats 8000000 in
set_option maxRecDepth 100000 in
theorem Must_any (lo hi : Int) (A : Option Addr) (c : Nat) (js : List S50) (A' : Option Addr) (c' : Nat) (ms : List S54) (w : World) (hr : Kd.C k50 w A js.length js) (hc : js.length ≤ c) (hr' : Kd.C k54 w A' ms.length ms) (hc' : ms.length ≤ c') :
    Calls Try.prog 20 #[.agg #[.int .i64 lo, .int .i64 hi, .slice A js.length c, .slice A' ms.length c']] w fun e w' => ∃ v : Value, e = .returned (.tuple #[v, .int .i64 (mustR lo hi js ms).2]) ∧ Kd.R (Kd.int .i64) 3 w' w.heap.size (fun _ => True) v (mustR lo hi js ms).1 ∧ Below w.heap.size w w' := by
  have hm := Kd.C_max hr
  have H0 : Aside0 (NetAt w (w.alloc (.cells (netC lo hi A js.length c A' ms.length c') 27)) w.heap.size lo hi A c js A' c' ms) := ⟨⟨blk_new w _, Kd.C_alloc hr _, Kd.C_alloc hr' _, below_alloc (Below.refl _ _) _⟩⟩
  have s0 := cell_two H0.out.blk 0 rfl
  have s1 := cell_two H0.out.blk 1 rfl
  have s2 := cell_two H0.out.blk 2 rfl
  have s3 := cell_two H0.out.blk 3 rfl
  have HNet : Aside0 (∀ W, NetAt w W w.heap.size lo hi A c js A' c' ms → Calls Try.prog 33 #[.agg #[.int .i64 lo, .int .i64 hi, .slice A js.length c, .slice A' ms.length c']] W fun e w' => e = .returned (.bool (netB lo hi js ms)) ∧ Below W.heap.size W w') := ⟨fun W h => network_any lo hi A c js A' c' ms W h.jr hc h.mr hc'⟩
  have HR := Aside0.mk hr
  have HR' := Aside0.mk hr'
  clear hr hr'
  refine (callsIn_wide (n := 8)).1 ?_
  refine callsIn_of_wp_marks Try.func20 rfl trivial ?_ rfl
  refine wpIn_wide.2 ?_
  simp only [Try.ntmps20, List.size_toArray, List.length_cons, List.length_nil, Nat.reduceAdd, Nat.reduceSub, Array.replicate_succ, Array.replicate_zero, List.push_toArray, List.append_toArray, List.nil_append, List.cons_append]
  unfold mustR
  by_cases hn : netB lo hi js ms = true
  · rw [if_pos hn]
    have HOK := Aside0.mk (net_ok hn)
    rw [hn] at HNet
    clear hn
    obtain ⟨res, hres⟩ : ∃ r, (if (mustF (2 ^ ms.length) (enL lo hi js ms (2 ^ ms.length))).2 = false then (([] : List Int), (4 : Int)) else (listL (mustF (2 ^ ms.length) (enL lo hi js ms (2 ^ ms.length))).1 8, 0)) = r := ⟨_, rfl⟩
    rw [hres]
    have HRES := Aside0.mk hres
    clear hres
    have h8 : ms.length ≤ 8 := by have := HOK.out.ml; have := HOK.out.jl; omega
    have hN256 : 2 ^ ms.length ≤ 256 := Nat.le_trans (Nat.pow_le_pow_right (by decide) h8) (by decide)
    have hNp : 0 < 2 ^ ms.length := Nat.pow_pos (by decide)
    obtain ⟨N, hN⟩ : ∃ N, N = 2 ^ ms.length := ⟨_, rfl⟩
    have hwN : wrap64 ((2 : Int) ^ ms.length) = (N : Int) := by
      have e : (2 : Int) ^ ms.length = ((2 ^ ms.length : Nat) : Int) := by simp
      rw [e, hN]
      unfold wrap64
      omega
    have HN := Aside0.mk hN
    rw [← hN] at HRES hN256 hNp
    clear hN
    go_wp2_with (first
      | (go_at_call 33; with_reducible refine (HNet.out _ H0.out).mono ?_; rintro e W1 ⟨rfl, hb⟩; have H1 := Aside0.mk (H0.out.next hb); clear hb s0 s1 s2 s3; have s3 := cell_two H1.out.blk 3 rfl; have r0 := cell_two (blk_alloc (blk_alloc H1.out.blk (.cells #[.int .i64 ((N : Int) - 1)] 3)) (.cells #[.bool false] 4)) 0 rfl; have r1 := cell_two (blk_alloc (blk_alloc H1.out.blk (.cells #[.int .i64 ((N : Int) - 1)] 3)) (.cells #[.bool false] 4)) 1 rfl; have r2 := cell_two (blk_alloc (blk_alloc H1.out.blk (.cells #[.int .i64 ((N : Int) - 1)] 3)) (.cells #[.bool false] 4)) 2 rfl; have r3 := cell_two (blk_alloc (blk_alloc H1.out.blk (.cells #[.int .i64 ((N : Int) - 1)] 3)) (.cells #[.bool false] 4)) 3 rfl)
      | (go_at_call 43; refine (enough_any _ _ _ _ _ _ _ _ _).mono ?_; rintro e w' ⟨rfl, rfl⟩))
    clear s3 r0 r1 r2 r3 hwN
    obtain ⟨W3, hW3⟩ : ∃ W3, W3 = ((W1.alloc (.cells #[.int .i64 ((N : Int) - 1)] 3)).alloc (.cells #[.bool false] 4)).alloc (.cells #[.int .i64 lo, .int .i64 hi, .slice A js.length c, .slice A' ms.length c'] 27) := ⟨_, rfl⟩
    have hB3 : Below W1.heap.size W1 W3 := by
      rw [hW3]
      exact below_alloc (below_alloc (below_alloc (Below.refl _ _) _) _) _
    have hS3 : W3.heap.size = W1.heap.size + 1 + 1 + 1 := by rw [hW3]; simp
    have x0 : W3.heap[W1.heap.size]? = some (.cells #[.int .i64 ((N : Int) - 1)] 3 (0, 0)) := by
      rw [hW3]
      exact blk_alloc (blk_alloc (blk_new W1 _) _) _
    have x1 : W3.heap[W1.heap.size + 1]? = some (.cells #[.bool false] 4 (0, 0)) := by
      rw [hW3]
      have := blk_new (W1.alloc (.cells #[.int .i64 ((N : Int) - 1)] 3)) (.cells #[.bool false] 4)
      rw [World.size_alloc] at this
      exact blk_alloc this _
    have x2 : W3.heap[W1.heap.size + 1 + 1]? = some (.cells (netC lo hi A js.length c A' ms.length c') 27 (0, 0)) := by
      rw [hW3]
      have := blk_new ((W1.alloc (.cells #[.int .i64 ((N : Int) - 1)] 3)).alloc (.cells #[.bool false] 4)) (.cells #[.int .i64 lo, .int .i64 hi, .slice A js.length c, .slice A' ms.length c'] 27)
      rwa [World.size_alloc, World.size_alloc] at this
    rw [← hW3]
    clear hW3
    have hws : w.heap.size < W1.heap.size := blk_lt H1.out.blk
    have HX := Aside0.mk x2
    have HB3 := Aside0.mk (bl_next' H1.out.bel hB3)
    have HI0 : Aside0 (MustI w W3 W1.heap.size (mustF N [])) := ⟨⟨by rw [x0]; show some (Obj.cells #[.int .i64 ((N : Int) - 1)] 3 (0, 0)) = some (Obj.cells #[.int .i64 ((N - 1 : Nat) : Int)] 3 (0, 0)); rw [show ((N - 1 : Nat) : Int) = (N : Int) - 1 by omega], x1, HB3.out⟩⟩
    clear x0 x1 x2 hB3
    refine (wpIn_wide (n := 8)).1 ?_
    refine range_st rfl (by omega) (gf := 61) (lb := #[.pointer (some ⟨W1.heap.size + 1 + 1, 0, none⟩)]) rfl trivial (enters_of Try.func61 (by kernel_rfl) rfl) (encs := encS) (Kp := KpX w.heap.size (W1.heap.size + 1 + 1)) (Ef := fun A B => Below A.heap.size A B)
      (Pre := fun pre x => ∃ s : Nat, x = ((s : Int), costN s 0 ms) ∧ s < 2 ^ ms.length ∧ isEn lo hi js ms s = true ∧ pre = enL lo hi js ms s) (S := fun xs _ => xs = enL lo hi js ms (2 ^ ms.length)) (Sp := fun _ => True)
      (fun W hg => enough_seq 7 (by omega) lo hi A c js A' c' ms HOK.out hc hc' w HR.out HR'.out (W1.heap.size + 1 + 1) W ⟨HB3.out.trans ((below_none hg).mono HB3.out.size), blk_grown HX.out hg (by simp)⟩)
      (fun A B k o h hk _ => blk_below hk h) (fun h k => kpx_trans h k) (fun W l o o' hl h1 h2 => kpx_putObj (by omega) h1 h2) (fun _ => rfl)
      (fun pre W => MustI w W W1.heap.size (mustF N pre)) (fun _ _ _ => False)
      (musti_own w _ _ _ (by rw [hS3]; omega)) (fun _ _ _ _ _ hs _ _ => hs) (fun _ _ _ h he => h.next he) (fun _ _ _ _ h _ => h) (fun _ _ _ _ hs _ _ => hs) HI0.out
      (fun x a' _ => a' = { tmps := #[.agg #[.int .i64 lo, .int .i64 hi, .slice A js.length c, .slice A' ms.length c'], .pointer (some ⟨w.heap.size, 0, none⟩), .slice none 0 0, .int .i64 0, .pointer (some ⟨W1.heap.size, 0, none⟩), .pointer (some ⟨W1.heap.size + 1, 0, none⟩), .int .i64 x.1, .agg #[.int .i64 lo, .int .i64 hi, .slice A js.length c, .slice A' ms.length c'], .bool true, .bool false, .pointer (some ⟨w.heap.size, 3, none⟩), .slice A' ms.length c', .int .i64 (ms.length : Int), .int .i64 (N : Int), .int .i64 ((N : Int) - 1), .agg #[.int .i64 lo, .int .i64 hi, .slice A js.length c, .slice A' ms.length c'], .func (.func 61) #[] #[.pointer (some ⟨W1.heap.size + 1 + 1, 0, none⟩)], .int .i64 x.1, .int .i64 x.2, undef, undef, undef, undef, undef, undef, undef], defers := [] }) (fun _ _ _ _ _ hs _ _ => hs) ?assign ?body ?done ?stop
    case assign =>
      intro lp pre x W K hi hK
      gi_wp2
      exact hK _ _ (KeepsOthers.refl _) (kpx_refl _ _ _) hi rfl
    case body =>
      rintro lp pre x a' W hs rfl ⟨s, rfl, hsN, hen, hpre⟩
      have HS := Aside0.mk hs
      have HSN := Aside0.mk (mustF_snoc N pre ((s : Int), costN s 0 ms))
      have hs256 : s < 256 := by rw [HN.out] at hN256; omega
      have hb256 := mustF_lt hN256 hNp pre
      clear hs hpre hen HI0 hsN
      obtain ⟨b, hb⟩ : ∃ x, mustF N pre = x := ⟨_, rfl⟩
      rw [hb] at HS HSN hb256
      clear hb
      obtain ⟨b1, b2⟩ := b
      simp only at hb256
      have hand := bits_and b1 s hb256 hs256
      have c1 : W.cell? ⟨W1.heap.size, 0, none⟩ = some (.int .i64 (b1 : Int)) := cell_two HS.out.ba 0 rfl
      have f1 := blk_frozen HS.out.ba 0
      have HK2 : Aside0 (∀ u v : Value, KpX w.heap.size (W1.heap.size + 1 + 1) W ((W.setCell ⟨W1.heap.size, 0, none⟩ u).setCell ⟨W1.heap.size + 1, 0, none⟩ v)) := ⟨fun u v => ⟨((Below.refl _ W).setCell (by show w.heap.size ≤ W1.heap.size; omega) _).setCell (by show w.heap.size ≤ W1.heap.size + 1; omega) _, fun cs t m e => blk_set_ne (blk_set_ne e (by omega) 0 _) (by omega) 0 _⟩⟩
      have HF : Aside0 (MustI w ((W.setCell ⟨W1.heap.size, 0, none⟩ (.int .i64 ((b1 &&& s : Nat) : Int))).setCell ⟨W1.heap.size + 1, 0, none⟩ (.bool true)) W1.heap.size (b1 &&& s, true)) := ⟨⟨blk_set_ne (blk_put HS.out.ba 0 _ rfl) (by omega) 0 _, blk_put (blk_set_ne HS.out.bs (by omega) 0 _) 0 _ rfl, (HS.out.bel.setCell (by show w.heap.size ≤ W1.heap.size; omega) _).setCell (by show w.heap.size ≤ W1.heap.size + 1; omega) _⟩⟩
      have c3 : (W.setCell ⟨W1.heap.size, 0, none⟩ (.int .i64 ((b1 &&& s : Nat) : Int))).cell? ⟨W1.heap.size + 1, 0, none⟩ = some (.bool b2) := cell_two (blk_set_ne HS.out.bs (by omega) 0 _) 0 rfl
      have f3 : (W.setCell ⟨W1.heap.size, 0, none⟩ (.int .i64 ((b1 &&& s : Nat) : Int))).frozen? ⟨W1.heap.size + 1, 0, none⟩ = false := blk_frozen (blk_set_ne HS.out.bs (by omega) 0 _) 0
      have HE : Aside0 (mustF N (pre ++ [((s : Int), costN s 0 ms)]) = (b1 &&& s, true)) := ⟨by rw [HSN.out]; show (b1 &&& (s : Int).toNat, true) = _; rw [Int.toNat_natCast]⟩
      gi_wp2
      refine ⟨(KeepsOthers.setCell _ _ _).trans (KeepsOthers.setCell _ _ _), HK2.out _ _, ?_⟩
      show MustI w _ _ (mustF N (pre ++ [((s : Int), costN s 0 ms)]))
      rw [HE.out]
      exact HF.out
    case done =>
      rintro D xs W hD rfl hs hK
      rw [hS3] at hD
      rw [← HN.out] at hs
      have HS := Aside0.mk hs
      have HKW := Aside0.mk hK
      have hb256 := mustF_lt hN256 hNp (enL lo hi js ms N)
      clear hs hK HI0
      obtain ⟨b, hb⟩ : ∃ x, mustF N (enL lo hi js ms N) = x := ⟨_, rfl⟩
      rw [hb] at HS HRES hb256
      clear hb
      obtain ⟨b1, b2⟩ := b
      simp only at hb256 HRES
      have c1 : W.cell? ⟨W1.heap.size, 0, none⟩ = some (.int .i64 (b1 : Int)) := cell_two HS.out.ba 0 rfl
      have c2 : W.cell? ⟨W1.heap.size + 1, 0, none⟩ = some (.bool b2) := cell_two HS.out.bs 0 rfl
      cases b2
      · have HRE : Aside0 (res = ([], 4)) := ⟨by rw [← HRES.out, if_pos rfl]⟩
        gi_wp2
        go_wp2_with (fail)
        refine ⟨by simp, .inl ⟨_, _, rfl, run_takeDeferred HKW.out, ?_⟩⟩
        refine ⟨_, results_must rfl rfl, ?_⟩
        rw [HRE.out]
        exact ⟨_, rfl, Kd.R_nil _ _ _ _ _, Below.trans HS.out.bel (belowK_b (w := w) (Nat.le_refl _) _ D _ _ (by omega) HKW.out rfl rfl)⟩
      · have HRE : Aside0 (res = (listL b1 8, 0)) := ⟨by rw [← HRES.out, if_neg (by simp)]⟩
        gi_wp2
        go_wp2_with (go_at_call 44; refine (list_any b1 hb256 _).mono ?_; rintro e W5 ⟨v, rfl, ho, hb⟩; have HS5 := Aside0.mk (HS.out.next hb); have HK5 := Aside0.mk (blk_below HKW.out hb); have HO5 := Aside0.mk ho; clear hb ho)
        refine ⟨by simp, .inl ⟨_, _, rfl, run_takeDeferred HK5.out, ?_⟩⟩
        refine ⟨_, results_must (v := v) rfl rfl, ?_⟩
        rw [HRE.out]
        refine ⟨_, rfl, ?_, Below.trans HS5.out.bel (belowK_b (w := w) (Nat.le_refl _) _ D _ _ (by omega) HK5.out rfl rfl)⟩
        exact Kd.R_mono (Kd.R_lower (Kd.R_grown HO5.out (grownBy_putObj' _ D _) (fun k hk e => by have := blk_lt HKW.out; injection e with e; omega)) HS.out.bel.size) (fun _ _ => trivial)
    case stop =>
      rintro D cd pre W hD _ h _
      exact h.elim
  · have hn' : netB lo hi js ms = false := by simpa using hn
    rw [if_neg hn]
    rw [hn'] at HNet
    clear hn hn'
    go_wp2_with (go_at_call 33; with_reducible refine (HNet.out _ H0.out).mono ?_; rintro e W1 ⟨rfl, hb⟩; have H1 := Aside0.mk (H0.out.next hb); clear hb s0 s1 s2 s3)
    refine ⟨_, results_must rfl rfl, ?_⟩
    exact ⟨_, rfl, Kd.R_nil _ _ _ _ _, H1.out.bel⟩
end Go.Proofs.Ytbjinkkmakhbaaa.Print
