/- Pressures: the closure that reckons them (59). -/
import Derived.Test.YtbjinkkmakhbaaaA14
namespace Go.Proofs.Ytbjinkkmakhbaaa.Print
open Go.RowKit Go.Shelf Go.Proofs.YtbjinkkmakhbaaaW.PrintWords Go.Proofs.YtbjinkkmakhbaaaW.PrintLast Go.Proofs.YtbjinkkmakhbaaaW.PrintMore
set_option linter.unusedVariables false
set_option linter.unusedSimpArgs false
attribute [local go_sem] Oper.semAt_some
def fn59 (BE BX FB BP : Nat) : Value := .func (.func 59) #[] #[.pointer (some ⟨BE, 0, none⟩), .pointer (some ⟨BX, 0, none⟩), .pointer (some ⟨FB, 0, none⟩), .pointer (some ⟨BP, 0, none⟩)]
/-- What the closure reads. -/
structure PEnv (W : World) (d : Bool) (f : Nat → Bool) (BE BX FB BP P : Nat) (lo hi : Int) (A : Option Addr) (c : Nat) (js : List S50) (A' : Option Addr) (c' : Nat) (ms : List S54) (vs : List Value) : Prop where
  e0 : W.cell? ⟨BE, 0, none⟩ = some (fnE d)
  e2 : W.cell? ⟨BE, 2, none⟩ = some (fnE (!d))
  x : W.cell? ⟨BX, 0, none⟩ = some (.pointer (some ⟨P, 0, none⟩))
  fb : W.heap[FB]? = some (.cells (arrB f) 105 (0, 0))
  bp : W.cell? ⟨BP, 0, none⟩ = some (fn59 BE BX FB BP)
  net : NetR W P lo hi A c js A' c' ms vs
theorem PEnv.next {W W' : World} {d : Bool} {f : Nat → Bool} {BE BX FB BP P : Nat} {lo hi : Int} {A : Option Addr} {c : Nat} {js : List S50} {A' : Option Addr} {c' : Nat} {ms : List S54} {vs : List Value} (h : PEnv W d f BE BX FB BP P lo hi A c js A' c' ms vs) (hb : Below W.heap.size W W') : PEnv W' d f BE BX FB BP P lo hi A c js A' c' ms vs where
  e0 := (hb.cell (World.block_lt_of_cell? _ _ h.e0)).trans h.e0
  e2 := (hb.cell (World.block_lt_of_cell? _ _ h.e2)).trans h.e2
  x := (hb.cell (World.block_lt_of_cell? _ _ h.x)).trans h.x
  fb := blk_below h.fb hb
  bp := (hb.cell (World.block_lt_of_cell? _ _ h.bp)).trans h.bp
  net := h.net.next hb
theorem net_0 (lo hi : Int) (A : Option Addr) (n c : Nat) (A' : Option Addr) (n' c' : Nat) (vs : List Value) : (netC lo hi A n c A' n' c' ++ vs.toArray)[0]? = some (.int .i64 lo) := by
  rw [Array.getElem?_append_left (by simp [netC])]
  rfl
theorem net_1 (lo hi : Int) (A : Option Addr) (n c : Nat) (A' : Option Addr) (n' c' : Nat) (vs : List Value) : (netC lo hi A n c A' n' c' ++ vs.toArray)[1]? = some (.int .i64 hi) := by
  rw [Array.getElem?_append_left (by simp [netC])]
  rfl
theorem net_2 (lo hi : Int) (A : Option Addr) (n c : Nat) (A' : Option Addr) (n' c' : Nat) (vs : List Value) : (netC lo hi A n c A' n' c' ++ vs.toArray)[2]? = some (.slice A n c) := by
  rw [Array.getElem?_append_left (by simp [netC])]
  rfl
/-- What is known before each junction that is summed up. -/
structure SumAt (w W : World) (m : Array Value) (sm : Int) : Prop where
  bm : W.heap[w.heap.size]? = some (.cells m 54 (0, 0))
  bs : W.heap[w.heap.size + 1]? = some (.cells #[.int .i64 sm] 3 (0, 0))
  bel : Below w.heap.size w W
theorem SumAt.next {w W W' : World} {m : Array Value} {sm : Int} (h : SumAt w W m sm) (hb : Below W.heap.size W W') : SumAt w W' m sm := ⟨blk_below h.bm hb, blk_below h.bs hb, bl_next' h.bel hb⟩
theorem sum_own (w : World) (m : Array Value) (g : List Int → Int) (B : Nat) (hB : w.heap.size ≤ B) : OwnFrom B (fun (pre : List Int) W => SumAt w W m (g pre)) := fun s W W' row h hg hr =>
  ⟨blk_kept h.bm hg (fun r e => (hr r e).2), blk_kept h.bs hg (fun r e => (hr r e).2), h.bel.grown hg h.bel.size (fun k e => Nat.le_trans hB (hr k e).1)⟩
theorem choose9 {p : Nat → Option Addr × Nat → Prop} (h : ∀ i, i < 9 → ∃ q, p i q) : ∃ AV : Nat → Option Addr × Nat, ∀ i, i < 9 → p i (AV i) :=
  ⟨fun i => if hi : i < 9 then (h i hi).choose else (none, 0), fun i hi => by have := (h i hi).choose_spec; simpa [hi] using this⟩
theorem kids_cell {W : World} {A : Option Addr} {l : List Int} (h : Kd.C (Kd.int .i64) W A l.length l) (k : Nat) (hk : k < l.length) : ∃ ad, A = some ad ∧ W.cell? (ad.add k) = some (.int .i64 l[k]) := by
  obtain ⟨ad, e, hc⟩ := Kd.at_int h (k : Int) (by omega) (by omega)
  refine ⟨ad, e, ?_⟩
  rw [Int.toNat_natCast] at hc
  rw [hc]
  simp [rd, hk]
theorem ret_i64 {a b : Int} (h : a = b) : Ending.returned (.int .i64 a) = .returned (.int .i64 b) := by rw [h]
set_option maxHeartbeats 4000000 in
set_option maxRecDepth 100000 in
theorem press_in (d : Bool) (f : Nat → Bool) (BE BX FB BP P : Nat) (lo hi : Int) (A : Option Addr) (c : Nat) (js : List S50) (A' : Option Addr) (c' : Nat) (ms : List S54) (vs : List Value) (hok : NetOk lo hi js ms) (hlen : ∀ j, j ≤ ms.length → (belowJ ms f j).length ≤ 9) :
    ∀ (j : Nat), j ≤ ms.length → ∀ W, PEnv W d f BE BX FB BP P lo hi A c js A' c' ms vs → Calls Try.prog 59 #[.int .i64 (j : Int), .pointer (some ⟨BE, 0, none⟩), .pointer (some ⟨BX, 0, none⟩), .pointer (some ⟨FB, 0, none⟩), .pointer (some ⟨BP, 0, none⟩)] W fun e w' => e = .returned (.int .i64 (pressP js ms d f (if d then lo else hi) j)) ∧ Below W.heap.size W w' := by
  intro j
  induction j using Nat.strongRecOn with
  | _ j ih =>
  intro hj w henv
  have HE := Aside0.mk henv
  have HOK := Aside0.mk hok
  have HL := Aside0.mk hlen
  have IH := Aside0.mk ih
  have hjl := hok.jl
  have hml := hok.ml
  have hm50 := Kd.C_max henv.net.jr
  clear henv hok hlen ih
  have c2 := HE.out.e2
  have cx := HE.out.x
  have p0 : w.cell? ⟨P, 0, none⟩ = some (.int .i64 lo) := cell_two HE.out.net.blk 0 (net_0 _ _ _ _ _ _ _ _ _)
  have p1 : w.cell? ⟨P, 1, none⟩ = some (.int .i64 hi) := cell_two HE.out.net.blk 1 (net_1 _ _ _ _ _ _ _ _ _)
  cases d
  · simp only [fnE, fn71, fn72, Bool.not_true, Bool.not_false, if_true, if_false, Bool.false_eq_true] at c2
    simp only [if_true, if_false, Bool.false_eq_true] at IH ⊢
    refine (callsIn_wide (n := 8)).1 ?_
    refine callsIn_of_wp_marks Try.func59 rfl trivial ?_ rfl
    refine wpIn_wide.2 ?_
    simp only [Try.ntmps59, List.size_toArray, List.length_cons, List.length_nil, Nat.reduceAdd, Nat.reduceSub, Array.replicate_succ, Array.replicate_zero, List.push_toArray, List.append_toArray, List.nil_append, List.cons_append]
    rcases Nat.eq_zero_or_pos j with hz | hz
    · have HZ := Aside0.mk hz
      clear hz
      have sz : (w.alloc (.cells #[.int .i64 lo, .int .i64 hi] 23)).drew.heap.size = w.heap.size + 1 := by simp
      go_wp2
      go_region_held3 (fun w' => w'.cell? ⟨BE, 2, none⟩ = some (.func (.func 72) #[] #[]) ∧ w'.cell? ⟨BX, 0, none⟩ = some (.pointer (some ⟨P, 0, none⟩)) ∧ w'.cell? ⟨P, 0, none⟩ = some (.int .i64 lo) ∧ w'.cell? ⟨P, 1, none⟩ = some (.int .i64 hi)) (go_keep)
        (first | (go_at_call 71; refine (lo_any _ _ _).mono ?_; rintro e w' ⟨rfl, rfl⟩) | (go_at_call 72; refine (hi_any _ _ _).mono ?_; rintro e w' ⟨rfl, rfl⟩))
      have HB1 : Aside0 (Below w.heap.size w (w.alloc (.cells #[.int .i64 lo, .int .i64 hi] 23)).drew) := ⟨Below.drew (below_alloc (Below.refl _ _) _)⟩
      have HE1 := Aside0.mk (HE.out.next HB1.out)
      clear c2 cx p0 p1
      generalize (w.alloc (.cells #[.int .i64 lo, .int .i64 hi] 23)).drew = W1 at HB1 HE1 sz ⊢
      have HSZ := Aside0.mk sz
      clear sz HE
      have cx := HE1.out.x
      have q2 : W1.cell? ⟨P, 2, none⟩ = some (.slice A js.length c) := cell_two HE1.out.net.blk 2 (net_2 _ _ _ _ _ _ _ _ _)
      have k0 : (0 : Int) ≤ (j : Int) := Int.natCast_nonneg j
      have k1 : (j : Int) < (js.length : Int) := by omega
      obtain ⟨ad, e, g0, g1, g2, g3, g4⟩ := at_T50 HE1.out.net.jr (j : Int) (by omega) (by omega)
      cases e
      simp only [Int.toNat_natCast] at g0 g1 g2 g3 g4
      have hd : decide (0 < j) = false := decide_eq_false (by have := HZ.out; omega)
      obtain ⟨p, hp⟩ : ∃ p : Int, p = hi := ⟨_, rfl⟩
      have HP : Aside0 (pressP js ms false f hi j = govP js j p) := ⟨by rw [HZ.out, pressP, hp]⟩
      rw [← hp]
      clear hp
      obtain ⟨gv, hgv⟩ : ∃ x, (rd_T50 js ((j : Nat) : Int)).f3 = x := ⟨_, rfl⟩
      have HGV : Aside0 (govP js (j) p = if gv = -1 then p else min p gv) := ⟨by unfold govP; rw [hgv]⟩
      rw [hgv] at g4
      clear hgv
      by_cases hg : gv = -1
      · have dg : (gv != -1) = false := by rw [hg]; rfl
        have HG : Aside0 (govP js (j) p = p) := ⟨by rw [HGV.out, if_pos hg]⟩
        clear hg HGV
        go_wp2
        all_goals
          refine ⟨.int .i64 _, by simp [results, Try.f59, go_sem]; rfl, ?_⟩
          exact ⟨ret_i64 (by rw [HP.out, HG.out]; try omega), HB1.out⟩
      · have dg : (gv != -1) = true := bne_iff_ne.2 hg
        have HG : Aside0 (govP js (j) p = min p gv) := ⟨by rw [HGV.out, if_neg hg]⟩
        clear hg HGV
        go_wp2
        all_goals
          refine ⟨.int .i64 _, by simp [results, Try.f59, go_sem]; rfl, ?_⟩
          exact ⟨ret_i64 (by rw [HP.out, HG.out]; try omega), HB1.out⟩
    · obtain ⟨k, rfl⟩ : ∃ k, j = k + 1 := ⟨j - 1, by omega⟩
      clear hz
      have sz : (w.alloc (.cells #[.int .i64 lo, .int .i64 hi] 23)).drew.heap.size = w.heap.size + 1 := by simp
      go_wp2
      go_region_held3 (fun w' => w'.cell? ⟨BE, 2, none⟩ = some (.func (.func 72) #[] #[]) ∧ w'.cell? ⟨BX, 0, none⟩ = some (.pointer (some ⟨P, 0, none⟩)) ∧ w'.cell? ⟨P, 0, none⟩ = some (.int .i64 lo) ∧ w'.cell? ⟨P, 1, none⟩ = some (.int .i64 hi)) (go_keep)
        (first | (go_at_call 71; refine (lo_any _ _ _).mono ?_; rintro e w' ⟨rfl, rfl⟩) | (go_at_call 72; refine (hi_any _ _ _).mono ?_; rintro e w' ⟨rfl, rfl⟩))
      have HB1 : Aside0 (Below w.heap.size w (w.alloc (.cells #[.int .i64 lo, .int .i64 hi] 23)).drew) := ⟨Below.drew (below_alloc (Below.refl _ _) _)⟩
      have HE1 := Aside0.mk (HE.out.next HB1.out)
      clear c2 cx p0 p1
      generalize (w.alloc (.cells #[.int .i64 lo, .int .i64 hi] 23)).drew = W1 at HB1 HE1 sz ⊢
      have HSZ := Aside0.mk sz
      clear sz HE
      have cx := HE1.out.x
      have q3 : W1.cell? ⟨P, 3, none⟩ = some (.slice A' ms.length c') := cell_two HE1.out.net.blk 3 (net_m _ _ _ _ _ _ _ _ _)
      have k0 : (0 : Int) ≤ (k : Int) := Int.natCast_nonneg k
      have k1 : (k : Int) < (ms.length : Int) := by omega
      have hd : decide (((k + 1 : Nat) : Int) > 0) = true := decide_eq_true (by omega)
      have hwk : wrap64 (((k + 1 : Nat) : Int) - 1) = (k : Int) := by unfold wrap64; omega
      obtain ⟨ad, e, g0, g1, g2, g3⟩ := at_T54 HE1.out.net.mr k k0 k1
      cases e
      simp only [Int.toNat_natCast] at g0 g1 g2 g3
      have HMK := Aside0.mk (mains_ok HOK.out.mok k (by omega))
      obtain ⟨i, hi0⟩ : ∃ i : Nat, (rd_T54 ms k).f0 = (i : Int) := ⟨(rd_T54 ms k).f0.toNat, by have := HMK.out; omega⟩
      have hik : i ≤ k := by have := HMK.out; omega
      have HPR : Aside0 (pressP js ms false f hi (k + 1) = govP js (k + 1) (pressP js ms false f hi i - (rd_T54 ms k).f1 * sumE js false (belowJ ms f (k + 1)))) := ⟨by rw [pressP, hi0, Int.toNat_natCast, Nat.min_eq_left hik]⟩
      have HFL := Aside0.mk (flow_bd (f := f) HOK.out.jok HOK.out.mok false k (by omega) (HL.out (k + 1) hj))
      have HPB := Aside0.mk (press_bd (f := f) HOK.out.jok HOK.out.mok false HL.out (src := hi) (by have := HOK.out.src; omega) (by have := HOK.out.src; omega) i (by omega))
      rw [hi0] at g0
      obtain ⟨m1, hm1⟩ : ∃ x, (rd_T54 ms k).f1 = x := ⟨_, rfl⟩
      obtain ⟨m2, hm2⟩ : ∃ x, (rd_T54 ms k).f2 = x := ⟨_, rfl⟩
      obtain ⟨m3, hm3⟩ : ∃ x, (rd_T54 ms k).f3 = x := ⟨_, rfl⟩
      rw [hm1] at g1 HPR HFL
      rw [hm2] at g2
      rw [hm3] at g3
      clear hi0 hm1 hm2 hm3 HMK
      have cx2 : ((W1.alloc (.cells #[.int .i64 (i : Int), .int .i64 m1, .int .i64 m2, .int .i64 m3] 54)).alloc (.cells #[.int .i64 0] 3)).cell? ⟨BX, 0, none⟩ = some (.pointer (some ⟨P, 0, none⟩)) := ((below_alloc (below_alloc (Below.refl _ W1) _) _).cell (World.block_lt_of_cell? _ _ cx)).trans cx
      go_wp2_with (go_at_call 60; refine (below_any _ _ _ _).mono ?_; rintro e w' ⟨rfl, rfl⟩)
      clear g0 g1 g2 g3 q3 cx2 hd hwk
      obtain ⟨W5, hW5⟩ : ∃ W5, W5 = (((((W1.alloc (.cells #[.int .i64 (i : Int), .int .i64 m1, .int .i64 m2, .int .i64 m3] 54)).alloc (.cells #[.int .i64 0] 3)).alloc (.cells #[.pointer (some ⟨P, 0, none⟩)] 69)).alloc (.cells #[.pointer (some ⟨FB, 0, none⟩)] 108)).alloc (.cells #[.int .i64 ((k : Int) + 1)] 3)) := ⟨_, rfl⟩
      have hB0 : Below W1.heap.size W1 W5 := by
        rw [hW5]
        repeat (first | exact Below.refl _ _ | apply below_alloc)
      have hS0 : W5.heap.size = W1.heap.size + 1 + 1 + 1 + 1 + 1 := by rw [hW5]; simp
      have x0 : W5.heap[W1.heap.size]? = some (.cells #[.int .i64 (i : Int), .int .i64 m1, .int .i64 m2, .int .i64 m3] 54 (0, 0)) := by
        rw [hW5]
        have := blk_new W1 (.cells #[.int .i64 (i : Int), .int .i64 m1, .int .i64 m2, .int .i64 m3] 54)
        try simp only [World.size_alloc] at this
        exact (blk_alloc (blk_alloc (blk_alloc (blk_alloc this _) _) _) _)
      have x1 : W5.heap[W1.heap.size + 1]? = some (.cells #[.int .i64 0] 3 (0, 0)) := by
        rw [hW5]
        have := blk_new (W1.alloc (.cells #[.int .i64 (i : Int), .int .i64 m1, .int .i64 m2, .int .i64 m3] 54)) (.cells #[.int .i64 0] 3)
        try simp only [World.size_alloc] at this
        exact (blk_alloc (blk_alloc (blk_alloc this _) _) _)
      have x2 : W5.heap[W1.heap.size + 1 + 1]? = some (.cells #[.pointer (some ⟨P, 0, none⟩)] 69 (0, 0)) := by
        rw [hW5]
        have := blk_new ((W1.alloc (.cells #[.int .i64 (i : Int), .int .i64 m1, .int .i64 m2, .int .i64 m3] 54)).alloc (.cells #[.int .i64 0] 3)) (.cells #[.pointer (some ⟨P, 0, none⟩)] 69)
        try simp only [World.size_alloc] at this
        exact (blk_alloc (blk_alloc this _) _)
      have x3 : W5.heap[W1.heap.size + 1 + 1 + 1]? = some (.cells #[.pointer (some ⟨FB, 0, none⟩)] 108 (0, 0)) := by
        rw [hW5]
        have := blk_new (((W1.alloc (.cells #[.int .i64 (i : Int), .int .i64 m1, .int .i64 m2, .int .i64 m3] 54)).alloc (.cells #[.int .i64 0] 3)).alloc (.cells #[.pointer (some ⟨P, 0, none⟩)] 69)) (.cells #[.pointer (some ⟨FB, 0, none⟩)] 108)
        try simp only [World.size_alloc] at this
        exact (blk_alloc this _)
      have x4 : W5.heap[W1.heap.size + 1 + 1 + 1 + 1]? = some (.cells #[.int .i64 ((k : Int) + 1)] 3 (0, 0)) := by
        rw [hW5]
        have := blk_new ((((W1.alloc (.cells #[.int .i64 (i : Int), .int .i64 m1, .int .i64 m2, .int .i64 m3] 54)).alloc (.cells #[.int .i64 0] 3)).alloc (.cells #[.pointer (some ⟨P, 0, none⟩)] 69)).alloc (.cells #[.pointer (some ⟨FB, 0, none⟩)] 108)) (.cells #[.int .i64 ((k : Int) + 1)] 3)
        try simp only [World.size_alloc] at this
        exact this
      rw [← hW5]
      clear hW5
      have HX := Aside0.mk HE1.out.net.row
      have HAV : Aside0 (∀ i, i < 9 → ∃ p : Option Addr × Nat, vs[i]? = some (.slice p.1 (kidsN ms i).length p.2) ∧ Kd.C (Kd.int .i64) W1 p.1 (kidsN ms i).length (kidsN ms i)) := ⟨fun i hi => by
        have hl := HE1.out.net.len
        obtain ⟨Av, cv, e, hC⟩ := HX.out i vs[i] (List.getElem?_eq_getElem (by omega))
        exact ⟨(Av, cv), by rw [List.getElem?_eq_getElem (by omega), e], hC⟩⟩
      obtain ⟨AV, hAV⟩ := choose9 HAV.out
      have HA := Aside0.mk hAV
      clear hAV HAV HX
      have HQ : Aside0 (∀ i, i < 9 → ∀ ad, (AV i).1 = some ad → 0 < (kidsN ms i).length → ad.block ≠ W1.heap.size + 1) := ⟨fun i hi ad e hpos => by
        obtain ⟨ad', e', hc⟩ := kids_cell (HA.out i hi).2 0 hpos
        rw [e] at e'
        obtain rfl := Option.some.inj e'
        have := World.block_lt_of_cell? _ _ hc
        rw [add_block] at this
        omega⟩
      have HB0 := Aside0.mk hB0
      have hst : SumAt W1 W5 #[.int .i64 (i : Int), .int .i64 m1, .int .i64 m2, .int .i64 m3] (sumE js false []) := ⟨x0, x1, hB0⟩
      have HX2 := Aside0.mk x2
      have HX3 := Aside0.mk x3
      have HX4 := Aside0.mk x4
      have HST := Aside0.mk hst
      clear x0 x1 x2 x3 x4 hB0 hst
      have HNE : Aside0 (BX < W1.heap.size ∧ FB < W1.heap.size ∧ P < W1.heap.size) := ⟨World.block_lt_of_cell? _ _ HE1.out.x, blk_lt HE1.out.fb, blk_lt HE1.out.net.blk⟩
      clear cx
      refine (wpIn_wide (n := 8)).1 ?_
      refine range_st rfl (by omega) (gf := 73) (lb := #[.pointer (some ⟨W1.heap.size + 1 + 1 + 1, 0, none⟩), .pointer (some ⟨W1.heap.size + 1 + 1, 0, none⟩), .pointer (some ⟨W1.heap.size + 1 + 1 + 1 + 1, 0, none⟩)]) rfl trivial (enters_of Try.func73 (by kernel_rfl) rfl) (encs := encK) (Kp := KpC (W1.heap.size + 1)) (Ef := fun A B => Below A.heap.size A B)
        (Pre := (fun pre x => ∃ (t : Nat) (r : List Int), x = (t : Int) ∧ t ≤ ms.length ∧ pre ++ x :: r = belowJ ms f (k + 1))) (S := fun xs _ => xs = belowJ ms f (k + 1)) (Sp := fun _ => True)
        (fun W hg => below_seq Fence.wide 7 trivial trivial trivial trivial trivial rfl rfl (by omega) ms (by omega) HOK.out.mok (fun i => (AV i).1) (fun i => (AV i).2) f FB P (W1.heap.size + 1 + 1 + 1) (W1.heap.size + 1 + 1) (W1.heap.size + 1 + 1 + 1 + 1) (W1.heap.size + 1) (k + 1) W hj (cell_two (blk_grown HX3.out hg (by simp)) 0 rfl) (cell_two (blk_grown HX2.out hg (by simp)) 0 rfl) (cell_two (blk_grown HX4.out hg (by simp)) 0 rfl)
          (fun i hi => cell_two (blk_below (HE1.out.next (HB0.out.trans ((below_none hg).mono HB0.out.size))).fb (Below.refl _ _)) i (arr_get _ i hi)) (fun i hi => cell_two (HE1.out.next (HB0.out.trans ((below_none hg).mono HB0.out.size))).net.blk (4 + i) ((net_slot _ _ _ _ _ _ _ _ vs i).trans (HA.out i hi).1))
          (fun i hi t ht => kids_cell (Kd.C_below (HA.out i hi).2 (HB0.out.trans ((below_none hg).mono HB0.out.size))) t ht) (Nat.lt_of_lt_of_le (by rw [hS0]; omega) (below_none hg).size) (by omega) (by have := HNE.out; omega) (by omega) (by have := HNE.out; omega) HQ.out)
        (fun A B k o h hk _ => blk_below hk h) (fun h k => kpc_trans h k) (fun W l o o' hl h1 h2 => kpc_putObj h1 h2) (fun _ => rfl)
        (fun pre W => SumAt W1 W #[.int .i64 (i : Int), .int .i64 m1, .int .i64 m2, .int .i64 m3] (sumE js false pre)) (fun _ _ _ => False)
        (sum_own W1 _ _ _ (by rw [hS0]; omega)) (fun _ _ _ _ _ hs _ _ => hs) (fun _ _ _ h he => h.next he) (fun _ _ _ _ h _ => h) (fun _ _ _ _ hs _ _ => hs) HST.out
        (fun x a' _ => a' = { tmps := #[.int .i64 ((k : Int) + 1), .pointer (some ⟨BE, 0, none⟩), .pointer (some ⟨BX, 0, none⟩), .pointer (some ⟨FB, 0, none⟩), .pointer (some ⟨BP, 0, none⟩), undef, .int .i64 0, .int .i64 hi, .pointer (some ⟨(W1.heap.size), 0, none⟩), .pointer (some ⟨(W1.heap.size + 1), 0, none⟩), .int .i64 x, undef, .pointer (some ⟨BE, 2, none⟩), .pointer (some ⟨BE, 2, none⟩), .func (.func 72) #[] #[], .pointer (some ⟨P, 0, none⟩), .pointer (some ⟨P, 0, none⟩), .pointer (some ⟨P, 0, none⟩), .pointer (some ⟨P, 0, none⟩), .agg #[.int .i64 lo, .int .i64 hi], .int .i64 hi, .int .i64 ((k : Int) + 1), .bool true, .pointer (some ⟨P, 0, none⟩), .pointer (some ⟨P, 0, none⟩), .pointer (some ⟨P, 0, none⟩), .pointer (some ⟨P, 3, none⟩), .slice (some ad) ms.length c', .int .i64 ((k : Int) + 1), .int .i64 (k : Int), .pointer (some (ad.add (k * 4))), .agg #[.int .i64 (i : Int), .int .i64 m1, .int .i64 m2, .int .i64 m3], .pointer (some ⟨P, 0, none⟩), .int .i64 ((k : Int) + 1), .func (.func 73) #[] #[.pointer (some ⟨W1.heap.size + 1 + 1 + 1, 0, none⟩), .pointer (some ⟨W1.heap.size + 1 + 1, 0, none⟩), .pointer (some ⟨W1.heap.size + 1 + 1 + 1 + 1, 0, none⟩)], .int .i64 x, undef, undef, undef, undef, undef, undef, undef, undef, undef, undef, undef, undef, undef, undef, undef, undef, undef, undef, undef, undef, undef, undef, undef, undef, undef, undef, undef, undef, undef, undef, undef, undef, undef, undef, undef, undef, undef, undef, undef], defers := [] }) (fun _ _ _ _ _ hs _ _ => hs) ?assign ?body ?done ?stop
      case assign =>
        intro lp pre x W K hi hK
        gi_wp2
        exact hK _ _ (KeepsOthers.refl _) (kpc_refl _ _) hi rfl
      case body =>
        rintro lp pre x a' W hs rfl ⟨t, r, rfl, ht, hp⟩
        have HS := Aside0.mk hs
        have HPP := Aside0.mk hp
        have HE2 := Aside0.mk (HE1.out.next hs.bel)
        have HSB : Aside0 (0 ≤ sumE js false pre ∧ sumE js false pre ≤ 9000000 ∧ 0 ≤ (rd_T50 js (t : Int)).f0.f0 ∧ (rd_T50 js (t : Int)).f0.f0 ≤ 1000000 ∧ 0 ≤ (rd_T50 js (t : Int)).f0.f1 ∧ (rd_T50 js (t : Int)).f0.f1 ≤ 1000000) := ⟨by
          have h1 := sumE_bd HOK.out.jok false pre (fun x hx => belowL_nat ms f _ (k + 1) x (by have := HPP.out; unfold belowJ at this; rw [← this]; simp [hx]))
          have h2 : pre.length ≤ 9 := by have := HL.out (k + 1) hj; rw [← HPP.out] at this; simp at this; omega
          have h3 := junction_ok HOK.out.jok t
          omega⟩
        have HSN := Aside0.mk (sumE_snoc js false pre (t : Int))
        clear hs hp HST
        obtain ⟨sm, hsm⟩ : ∃ x, sumE js false pre = x := ⟨_, rfl⟩
        rw [hsm] at HS HSB HSN
        clear hsm
        have y0 : W.cell? ⟨BE, 0, none⟩ = some (.func (.func 71) #[] #[]) := HE2.out.e0
        have yx := HE2.out.x
        have y2 : W.cell? ⟨P, 2, none⟩ = some (.slice A js.length c) := cell_two HE2.out.net.blk 2 (net_2 _ _ _ _ _ _ _ _ _)
        have ys := cell_two HS.out.bs 0 rfl
        have yf := blk_frozen HS.out.bs 0
        have t0 : (0 : Int) ≤ (t : Int) := Int.natCast_nonneg t
        have t1 : (t : Int) < (js.length : Int) := by omega
        obtain ⟨ae, e, u0, u1, _⟩ := at_T50 HE2.out.net.jr t t0 t1
        cases e
        simp only [Int.toNat_natCast] at u0 u1
        obtain ⟨n0, hn0⟩ : ∃ x, (rd_T50 js (t : Int)).f0.f0 = x := ⟨_, rfl⟩
        obtain ⟨n1, hn1⟩ : ∃ x, (rd_T50 js (t : Int)).f0.f1 = x := ⟨_, rfl⟩
        rw [hn0] at u0 HSB
        rw [hn1] at u1 HSB
        have HEE : Aside0 (endE false (rd_T50 js (t : Int)).f0 = n0) := ⟨by unfold endE; simp [hn0, hn1]⟩
        clear hn0 hn1
        have hws : IntKind.i64.wrap (sm + n0) = sm + n0 := IntWalk.i64_in _ (by have := HSB.out; omega)
        gi_wp2
        refine startR_ (n := 16) (S := fun w' => w'.cell? ⟨W1.heap.size + 1, 0, none⟩ = some (.int .i64 sm) ∧ w'.cell? ⟨BE, 0, none⟩ = some (.func (.func 71) #[] #[]) ∧ w'.cell? ⟨BX, 0, none⟩ = some (.pointer (some ⟨P, 0, none⟩)) ∧ w'.cell? ⟨P, 2, none⟩ = some (.slice (some ae) js.length c) ∧ w'.cell? (ae.add (t * 5)) = some (.int .i64 n0) ∧ w'.cell? ⟨(ae.add (t * 5)).block, (ae.add (t * 5)).off + 1, none⟩ = some (.int .i64 n1)) (ds := [15]) (bs_ 16 0) (by kernel_rfl) (by kernel_rfl) (fun ⟨_, _, h⟩ => h) rfl rfl (⟨ys, y0, yx, y2, u0, u1⟩) (fun hHeld => ?_)
        have HD0 := Aside0.mk (Below.drew (Below.refl W.heap.size W))
        have HKo := Aside0.mk (KeepsOthers.drew W)
        generalize W.drew = W0 at HD0 HKo hHeld ⊢
        have HS0 := Aside0.mk (HS.out.next HD0.out)
        have HBn : Aside0 (KpC (W1.heap.size + 1) W ((W0.alloc (.cells #[.int .i64 n0, .int .i64 n1] 23)).setCell ⟨W1.heap.size + 1, 0, none⟩ (.int .i64 (sm + n0)))) := ⟨kpc_trans (kpc_below (below_alloc HD0.out _)) (kpc_set _ _ _ _)⟩
        have HF : Aside0 (SumAt W1 ((W0.alloc (.cells #[.int .i64 n0, .int .i64 n1] 23)).setCell ⟨W1.heap.size + 1, 0, none⟩ (.int .i64 (sm + n0))) #[.int .i64 (i : Int), .int .i64 m1, .int .i64 m2, .int .i64 m3] (sm + n0)) := ⟨⟨HBn.out W1.heap.size _ _ _ (by omega) HS.out.bm, blk_put (blk_alloc HS0.out.bs _) 0 _ rfl, Below.setCell (HS0.out.bel.trans ((below_alloc (Below.refl _ W0) _).mono HS0.out.bel.size)) (by show W1.heap.size ≤ W1.heap.size + 1; omega) _⟩⟩
        have ys2 : (W0.alloc (.cells #[.int .i64 n0, .int .i64 n1] 23)).cell? ⟨W1.heap.size + 1, 0, none⟩ = some (.int .i64 sm) := cell_two (blk_alloc HS0.out.bs _) 0 rfl
        have yf2 : (W0.alloc (.cells #[.int .i64 n0, .int .i64 n1] 23)).frozen? ⟨W1.heap.size + 1, 0, none⟩ = false := blk_frozen (blk_alloc HS0.out.bs _) 0
        have hh := hHeld
        obtain ⟨_, z0, zx, z2, v0, v1⟩ := hh
        clear y0 yx y2 u0 u1 ys yf
        refine take_ (i := 0) (N := some 36) (v := ?_) (a' := ?_) (bs_ 16 1) rfl rfl (by kernel_rfl) (fun _ _ _ h => h) (Or.inl ⟨by rfl, ?_⟩) hHeld ?_ ?_; rotate_left; (· rintro w' ⟨s0, s1, s2, s3, s4, s5⟩; go_simp; with_reducible rfl); rotate_left; (· simp only [Act.put, N1_]; rfl)
        refine pure_ (i := 1) (N := some 37) (v := ?_) (a' := ?_) (bs_ 16 3) rfl rfl (by kernel_rfl) (fun _ _ _ h => h) (Or.inl ⟨by rfl, ?_⟩) ?_ ?_; rotate_left; (· intro w'; go_simp; with_reducible rfl); rotate_left; (· simp only [Act.put, N1_]; rfl)
        refine pure_ (i := 2) (N := some 38) (v := ?_) (a' := ?_) (bs_ 16 7) rfl rfl (by kernel_rfl) (fun _ _ _ h => h) (Or.inl ⟨by rfl, ?_⟩) ?_ ?_; rotate_left; (· intro w'; go_simp; with_reducible rfl); rotate_left; (· simp only [Act.put, N1_]; rfl)
        refine take_ (i := 3) (N := some 39) (v := ?_) (a' := ?_) (bs_ 16 15) rfl rfl (by kernel_rfl) (fun _ _ _ h => h) (Or.inl ⟨by rfl, ?_⟩) hHeld ?_ ?_; rotate_left; (· rintro w' ⟨s0, s1, s2, s3, s4, s5⟩; go_simp; with_reducible rfl); rotate_left; (· simp only [Act.put, N1_]; rfl)
        refine take_ (i := 4) (N := some 40) (v := ?_) (a' := ?_) (bs_ 16 31) rfl rfl (by kernel_rfl) (fun _ _ _ h => h) (Or.inl ⟨by rfl, ?_⟩) hHeld ?_ ?_; rotate_left; (· rintro w' ⟨s0, s1, s2, s3, s4, s5⟩; go_simp; with_reducible rfl); rotate_left; (· simp only [Act.put, N1_]; rfl)
        refine pure_ (i := 5) (N := some 41) (v := ?_) (a' := ?_) (bs_ 16 63) rfl rfl (by kernel_rfl) (fun _ _ _ h => h) (Or.inl ⟨by rfl, ?_⟩) ?_ ?_; rotate_left; (· intro w'; go_simp; with_reducible rfl); rotate_left; (· simp only [Act.put, N1_]; rfl)
        refine pure_ (i := 6) (N := some 42) (v := ?_) (a' := ?_) (bs_ 16 127) rfl rfl (by kernel_rfl) (fun _ _ _ h => h) (Or.inl ⟨by rfl, ?_⟩) ?_ ?_; rotate_left; (· intro w'; go_simp; with_reducible rfl); rotate_left; (· simp only [Act.put, N1_]; rfl)
        refine pure_ (i := 7) (N := some 43) (v := ?_) (a' := ?_) (bs_ 16 255) rfl rfl (by kernel_rfl) (fun _ _ _ h => h) (Or.inl ⟨by rfl, ?_⟩) ?_ ?_; rotate_left; (· intro w'; go_simp; with_reducible rfl); rotate_left; (· simp only [Act.put, N1_]; rfl)
        refine take_ (i := 8) (N := some 44) (v := ?_) (a' := ?_) (bs_ 16 511) rfl rfl (by kernel_rfl) (fun _ _ _ h => h) (Or.inl ⟨by rfl, ?_⟩) hHeld ?_ ?_; rotate_left; (· rintro w' ⟨s0, s1, s2, s3, s4, s5⟩; go_simp; with_reducible rfl); rotate_left; (· simp only [Act.put, N1_]; rfl)
        refine pure_ (i := 9) (N := some 45) (v := ?_) (a' := ?_) (bs_ 16 1023) rfl rfl (by kernel_rfl) (fun _ _ _ h => h) (Or.inl ⟨by rfl, ?_⟩) ?_ ?_; rotate_left; (· intro w'; go_simp; with_reducible rfl); rotate_left; (· simp only [Act.put, N1_]; rfl)
        refine pure_ (i := 10) (N := some 46) (v := ?_) (a' := ?_) (bs_ 16 2047) rfl rfl (by kernel_rfl) (fun _ _ _ h => h) (Or.inl ⟨by rfl, ?_⟩) ?_ ?_; rotate_left; (· intro w'; go_simp; with_reducible rfl); rotate_left; (· simp only [Act.put, N1_]; rfl)
        refine pure_ (i := 11) (N := some 47) (v := ?_) (a' := ?_) (bs_ 16 4095) rfl rfl (by kernel_rfl) (fun _ _ _ h => h) (Or.inl ⟨by rfl, ?_⟩) ?_ ?_; rotate_left; (· intro w'; go_simp; with_reducible rfl); rotate_left; (· simp only [Act.put, N1_]; rfl)
        refine take_ (i := 12) (N := some 48) (v := ?_) (a' := ?_) (bs_ 16 8191) rfl rfl (by kernel_rfl) (fun _ _ _ h => h) (Or.inl ⟨by rfl, ?_⟩) hHeld ?_ ?_; rotate_left; (· rintro w' ⟨s0, s1, s2, s3, s4, s5⟩; go_simp; with_reducible rfl); rotate_left; (· simp only [Act.put, N1_]; rfl)
        refine one_ (i := 13) (N := some 49) (bs_ 16 16383) rfl rfl (by kernel_rfl) (by decide) (fun K hK => ?_)
        go_simp
        refine (lo_any _ _ _).mono ?_
        rintro e w' ⟨rfl, rfl⟩
        refine hK.out _ _ ⟨ys2, ((below_alloc (Below.refl _ W0) _).cell (World.block_lt_of_cell? _ _ z0)).trans z0, ((below_alloc (Below.refl _ W0) _).cell (World.block_lt_of_cell? _ _ zx)).trans zx, ((below_alloc (Below.refl _ W0) _).cell (World.block_lt_of_cell? _ _ z2)).trans z2, ((below_alloc (Below.refl _ W0) _).cell (World.block_lt_of_cell? _ _ v0)).trans v0, ((below_alloc (Below.refl _ W0) _).cell (World.block_lt_of_cell? _ _ v1)).trans v1⟩ (fun hHeld => ?_)
        clear hK K
        refine pure_ (i := 14) (N := some 50) (v := ?_) (a' := ?_) (bs_ 16 32767) rfl rfl (by kernel_rfl) (fun _ _ _ h => h) (Or.inl ⟨by rfl, ?_⟩) ?_ ?_; rotate_left; (· intro w'; go_simp; with_reducible rfl); rotate_left; (· simp only [Act.put, N1_]; rfl)
        refine last_ (i := 15) (N := none) (bs_ 16 65535) rfl rfl (by kernel_rfl) (by decide) (fun K hK => ?_)
        refine skip_ (w1 := ?_) (by rfl) rfl ?_ ?_; rotate_left; (· go_simp; rfl)
        refine hK.out _ _ ?_
        clear hK K
        refine done_ (by kernel_rfl) ?_
        refine ⟨(HKo.out.trans (KeepsOthers.alloc _ _)).trans (KeepsOthers.setCell _ _ _), ?_, ?_⟩
        · exact HBn.out
        · show SumAt W1 _ _ (sumE js false (pre ++ [(t : Int)]))
          rw [HSN.out, HEE.out]
          exact HF.out
      case done =>
        rintro D xs W hD rfl hs hK
        rw [hS0] at hD
        have HS := Aside0.mk hs
        have HKW := Aside0.mk hK
        have HE2 := Aside0.mk (HE1.out.next hs.bel)
        clear hs hK HST
        obtain ⟨sm, hsm⟩ : ∃ x, sumE js false (belowJ ms f (k + 1)) = x := ⟨_, rfl⟩
        rw [hsm] at HS HPR HFL
        clear hsm
        obtain ⟨pi, hpi⟩ : ∃ x, pressP js ms false f hi i = x := ⟨_, rfl⟩
        have HIH : Aside0 (∀ W, PEnv W false f BE BX FB BP P lo hi A c js (some ad) c' ms vs → Calls Try.prog 59 #[.int .i64 (i : Int), .pointer (some ⟨BE, 0, none⟩), .pointer (some ⟨BX, 0, none⟩), .pointer (some ⟨FB, 0, none⟩), .pointer (some ⟨BP, 0, none⟩)] W fun e w' => e = .returned (.int .i64 pi) ∧ Below W.heap.size W w') := ⟨fun W h => by rw [← hpi]; exact IH.out i (by omega) (by omega) W h⟩
        rw [hpi] at HPR HPB
        clear hpi IH
        have hw1 : IntKind.i64.wrap (m1 * sm) = m1 * sm := IntWalk.i64_in _ (by have := HFL.out; omega)
        have hw2 : IntKind.i64.wrap (pi - m1 * sm) = pi - m1 * sm := IntWalk.i64_in _ (by have := HFL.out; have := HPB.out; omega)
        have zb : W.cell? ⟨BP, 0, none⟩ = some (.func (.func 59) #[] #[.pointer (some ⟨BE, 0, none⟩), .pointer (some ⟨BX, 0, none⟩), .pointer (some ⟨FB, 0, none⟩), .pointer (some ⟨BP, 0, none⟩)]) := HE2.out.bp
        have z0 := cell_two HS.out.bm 0 rfl
        have z1 := cell_two HS.out.bm 1 rfl
        have zs := cell_two HS.out.bs 0 rfl
        clear HQ HA HX2 HX3 HX4 HNE HB0
        skip
        gi_wp2
        go_region_held3 (fun w' => w'.cell? ⟨BP, 0, none⟩ = some (.func (.func 59) #[] #[.pointer (some ⟨BE, 0, none⟩), .pointer (some ⟨BX, 0, none⟩), .pointer (some ⟨FB, 0, none⟩), .pointer (some ⟨BP, 0, none⟩)]) ∧ w'.cell? ⟨W1.heap.size, 0, none⟩ = some (.int .i64 (i : Int)) ∧ w'.cell? ⟨W1.heap.size, 1, none⟩ = some (.int .i64 m1) ∧ w'.cell? ⟨W1.heap.size + 1, 0, none⟩ = some (.int .i64 sm)) (go_keep)
          ((go_at_call 59; refine (HIH.out _ (HE2.out.next (Below.drew (Below.refl _ W)))).mono ?_; rintro e W8 ⟨rfl, hb8⟩; have HB8 := Aside0.mk ((Below.drew (Below.refl W.heap.size W)).trans hb8); clear hb8; have zb2 := (HB8.out.cell (World.block_lt_of_cell? _ _ zb)).trans zb; have z02 := (HB8.out.cell (World.block_lt_of_cell? _ _ z0)).trans z0; have z12 := (HB8.out.cell (World.block_lt_of_cell? _ _ z1)).trans z1; have zs2 := (HB8.out.cell (World.block_lt_of_cell? _ _ zs)).trans zs))
        have HE3 := Aside0.mk (HE2.out.next HB8.out)
        have HK8 := Aside0.mk (blk_below HKW.out HB8.out)
        have HW8 : Aside0 (Below w.heap.size w W8) := ⟨(HB1.out.trans (HS.out.bel.mono HB1.out.size)).trans (HB8.out.mono (Nat.le_trans HB1.out.size HS.out.bel.size))⟩
        clear zb z0 z1 zs zb2 z02 z12 zs2 hw1 hw2
        obtain ⟨p, hp⟩ : ∃ x, pi - m1 * sm = x := ⟨_, rfl⟩
        rw [hp] at HPR ⊢
        have HP := HPR
        clear hp HPR HPB HFL
        have cx := HE3.out.x
        have q2 : W8.cell? ⟨P, 2, none⟩ = some (.slice A js.length c) := cell_two HE3.out.net.blk 2 (net_2 _ _ _ _ _ _ _ _ _)
        have j1 : ((k : Int) + 1) < (js.length : Int) := by omega
        obtain ⟨ae, e, u0, u1, u2, u3, u4⟩ := at_T50 HE3.out.net.jr ((k + 1 : Nat) : Int) (by omega) (by omega)
        cases e
        simp only [Int.toNat_natCast] at u0 u1 u2 u3 u4
        obtain ⟨gv, hgv⟩ : ∃ x, (rd_T50 js ((k + 1 : Nat) : Int)).f3 = x := ⟨_, rfl⟩
        have HGV : Aside0 (govP js (k + 1) p = if gv = -1 then p else min p gv) := ⟨by unfold govP; rw [hgv]⟩
        rw [hgv] at u4
        clear hgv
        by_cases hg : gv = -1
        · have dg : (gv != -1) = false := by rw [hg]; rfl
          have HG : Aside0 (govP js (k + 1) p = p) := ⟨by rw [HGV.out, if_pos hg]⟩
          clear hg HGV
          go_wp2
          all_goals
            refine ⟨by simp, .inl ⟨_, _, rfl, run_takeDeferred HK8.out, ?_⟩⟩
            refine ⟨.int .i64 _, by simp [results, Try.f59, go_sem]; rfl, ?_⟩
            refine ⟨ret_i64 (by rw [HP.out, HG.out]; try omega), ?_⟩
            exact Below.trans HW8.out (belowK_b (w := w) (Nat.le_refl _) _ D _ _ (by have := HB1.out.size; omega) HK8.out rfl rfl)
        · have dg : (gv != -1) = true := bne_iff_ne.2 hg
          have HG : Aside0 (govP js (k + 1) p = min p gv) := ⟨by rw [HGV.out, if_neg hg]⟩
          clear hg HGV
          go_wp2
          all_goals
            refine ⟨by simp, .inl ⟨_, _, rfl, run_takeDeferred HK8.out, ?_⟩⟩
            refine ⟨.int .i64 _, by simp [results, Try.f59, go_sem]; rfl, ?_⟩
            refine ⟨ret_i64 (by rw [HP.out, HG.out]; try omega), ?_⟩
            exact Below.trans HW8.out (belowK_b (w := w) (Nat.le_refl _) _ D _ _ (by have := HB1.out.size; omega) HK8.out rfl rfl)
      case stop =>
        rintro D cd pre W hD _ h _
        exact h.elim
  · simp only [fnE, fn71, fn72, Bool.not_true, Bool.not_false, if_true, if_false, Bool.false_eq_true] at c2
    simp only [if_true, if_false, Bool.false_eq_true] at IH ⊢
    refine (callsIn_wide (n := 8)).1 ?_
    refine callsIn_of_wp_marks Try.func59 rfl trivial ?_ rfl
    refine wpIn_wide.2 ?_
    simp only [Try.ntmps59, List.size_toArray, List.length_cons, List.length_nil, Nat.reduceAdd, Nat.reduceSub, Array.replicate_succ, Array.replicate_zero, List.push_toArray, List.append_toArray, List.nil_append, List.cons_append]
    rcases Nat.eq_zero_or_pos j with hz | hz
    · have HZ := Aside0.mk hz
      clear hz
      have sz : (w.alloc (.cells #[.int .i64 lo, .int .i64 hi] 23)).drew.heap.size = w.heap.size + 1 := by simp
      go_wp2
      go_region_held3 (fun w' => w'.cell? ⟨BE, 2, none⟩ = some (.func (.func 71) #[] #[]) ∧ w'.cell? ⟨BX, 0, none⟩ = some (.pointer (some ⟨P, 0, none⟩)) ∧ w'.cell? ⟨P, 0, none⟩ = some (.int .i64 lo) ∧ w'.cell? ⟨P, 1, none⟩ = some (.int .i64 hi)) (go_keep)
        (first | (go_at_call 71; refine (lo_any _ _ _).mono ?_; rintro e w' ⟨rfl, rfl⟩) | (go_at_call 72; refine (hi_any _ _ _).mono ?_; rintro e w' ⟨rfl, rfl⟩))
      have HB1 : Aside0 (Below w.heap.size w (w.alloc (.cells #[.int .i64 lo, .int .i64 hi] 23)).drew) := ⟨Below.drew (below_alloc (Below.refl _ _) _)⟩
      have HE1 := Aside0.mk (HE.out.next HB1.out)
      clear c2 cx p0 p1
      generalize (w.alloc (.cells #[.int .i64 lo, .int .i64 hi] 23)).drew = W1 at HB1 HE1 sz ⊢
      have HSZ := Aside0.mk sz
      clear sz HE
      have cx := HE1.out.x
      have q2 : W1.cell? ⟨P, 2, none⟩ = some (.slice A js.length c) := cell_two HE1.out.net.blk 2 (net_2 _ _ _ _ _ _ _ _ _)
      have k0 : (0 : Int) ≤ (j : Int) := Int.natCast_nonneg j
      have k1 : (j : Int) < (js.length : Int) := by omega
      obtain ⟨ad, e, g0, g1, g2, g3, g4⟩ := at_T50 HE1.out.net.jr (j : Int) (by omega) (by omega)
      cases e
      simp only [Int.toNat_natCast] at g0 g1 g2 g3 g4
      have hd : decide (0 < j) = false := decide_eq_false (by have := HZ.out; omega)
      obtain ⟨p, hp⟩ : ∃ p : Int, p = lo := ⟨_, rfl⟩
      have HP : Aside0 (pressP js ms true f lo j = govP js j p) := ⟨by rw [HZ.out, pressP, hp]⟩
      rw [← hp]
      clear hp
      obtain ⟨gv, hgv⟩ : ∃ x, (rd_T50 js ((j : Nat) : Int)).f3 = x := ⟨_, rfl⟩
      have HGV : Aside0 (govP js (j) p = if gv = -1 then p else min p gv) := ⟨by unfold govP; rw [hgv]⟩
      rw [hgv] at g4
      clear hgv
      by_cases hg : gv = -1
      · have dg : (gv != -1) = false := by rw [hg]; rfl
        have HG : Aside0 (govP js (j) p = p) := ⟨by rw [HGV.out, if_pos hg]⟩
        clear hg HGV
        go_wp2
        all_goals
          refine ⟨.int .i64 _, by simp [results, Try.f59, go_sem]; rfl, ?_⟩
          exact ⟨ret_i64 (by rw [HP.out, HG.out]; try omega), HB1.out⟩
      · have dg : (gv != -1) = true := bne_iff_ne.2 hg
        have HG : Aside0 (govP js (j) p = min p gv) := ⟨by rw [HGV.out, if_neg hg]⟩
        clear hg HGV
        go_wp2
        all_goals
          refine ⟨.int .i64 _, by simp [results, Try.f59, go_sem]; rfl, ?_⟩
          exact ⟨ret_i64 (by rw [HP.out, HG.out]; try omega), HB1.out⟩
    · obtain ⟨k, rfl⟩ : ∃ k, j = k + 1 := ⟨j - 1, by omega⟩
      clear hz
      have sz : (w.alloc (.cells #[.int .i64 lo, .int .i64 hi] 23)).drew.heap.size = w.heap.size + 1 := by simp
      go_wp2
      go_region_held3 (fun w' => w'.cell? ⟨BE, 2, none⟩ = some (.func (.func 71) #[] #[]) ∧ w'.cell? ⟨BX, 0, none⟩ = some (.pointer (some ⟨P, 0, none⟩)) ∧ w'.cell? ⟨P, 0, none⟩ = some (.int .i64 lo) ∧ w'.cell? ⟨P, 1, none⟩ = some (.int .i64 hi)) (go_keep)
        (first | (go_at_call 71; refine (lo_any _ _ _).mono ?_; rintro e w' ⟨rfl, rfl⟩) | (go_at_call 72; refine (hi_any _ _ _).mono ?_; rintro e w' ⟨rfl, rfl⟩))
      have HB1 : Aside0 (Below w.heap.size w (w.alloc (.cells #[.int .i64 lo, .int .i64 hi] 23)).drew) := ⟨Below.drew (below_alloc (Below.refl _ _) _)⟩
      have HE1 := Aside0.mk (HE.out.next HB1.out)
      clear c2 cx p0 p1
      generalize (w.alloc (.cells #[.int .i64 lo, .int .i64 hi] 23)).drew = W1 at HB1 HE1 sz ⊢
      have HSZ := Aside0.mk sz
      clear sz HE
      have cx := HE1.out.x
      have q3 : W1.cell? ⟨P, 3, none⟩ = some (.slice A' ms.length c') := cell_two HE1.out.net.blk 3 (net_m _ _ _ _ _ _ _ _ _)
      have k0 : (0 : Int) ≤ (k : Int) := Int.natCast_nonneg k
      have k1 : (k : Int) < (ms.length : Int) := by omega
      have hd : decide (((k + 1 : Nat) : Int) > 0) = true := decide_eq_true (by omega)
      have hwk : wrap64 (((k + 1 : Nat) : Int) - 1) = (k : Int) := by unfold wrap64; omega
      obtain ⟨ad, e, g0, g1, g2, g3⟩ := at_T54 HE1.out.net.mr k k0 k1
      cases e
      simp only [Int.toNat_natCast] at g0 g1 g2 g3
      have HMK := Aside0.mk (mains_ok HOK.out.mok k (by omega))
      obtain ⟨i, hi0⟩ : ∃ i : Nat, (rd_T54 ms k).f0 = (i : Int) := ⟨(rd_T54 ms k).f0.toNat, by have := HMK.out; omega⟩
      have hik : i ≤ k := by have := HMK.out; omega
      have HPR : Aside0 (pressP js ms true f lo (k + 1) = govP js (k + 1) (pressP js ms true f lo i - (rd_T54 ms k).f1 * sumE js true (belowJ ms f (k + 1)))) := ⟨by rw [pressP, hi0, Int.toNat_natCast, Nat.min_eq_left hik]⟩
      have HFL := Aside0.mk (flow_bd (f := f) HOK.out.jok HOK.out.mok true k (by omega) (HL.out (k + 1) hj))
      have HPB := Aside0.mk (press_bd (f := f) HOK.out.jok HOK.out.mok true HL.out (src := lo) (by have := HOK.out.src; omega) (by have := HOK.out.src; omega) i (by omega))
      rw [hi0] at g0
      obtain ⟨m1, hm1⟩ : ∃ x, (rd_T54 ms k).f1 = x := ⟨_, rfl⟩
      obtain ⟨m2, hm2⟩ : ∃ x, (rd_T54 ms k).f2 = x := ⟨_, rfl⟩
      obtain ⟨m3, hm3⟩ : ∃ x, (rd_T54 ms k).f3 = x := ⟨_, rfl⟩
      rw [hm1] at g1 HPR HFL
      rw [hm2] at g2
      rw [hm3] at g3
      clear hi0 hm1 hm2 hm3 HMK
      have cx2 : ((W1.alloc (.cells #[.int .i64 (i : Int), .int .i64 m1, .int .i64 m2, .int .i64 m3] 54)).alloc (.cells #[.int .i64 0] 3)).cell? ⟨BX, 0, none⟩ = some (.pointer (some ⟨P, 0, none⟩)) := ((below_alloc (below_alloc (Below.refl _ W1) _) _).cell (World.block_lt_of_cell? _ _ cx)).trans cx
      go_wp2_with (go_at_call 60; refine (below_any _ _ _ _).mono ?_; rintro e w' ⟨rfl, rfl⟩)
      clear g0 g1 g2 g3 q3 cx2 hd hwk
      obtain ⟨W5, hW5⟩ : ∃ W5, W5 = (((((W1.alloc (.cells #[.int .i64 (i : Int), .int .i64 m1, .int .i64 m2, .int .i64 m3] 54)).alloc (.cells #[.int .i64 0] 3)).alloc (.cells #[.pointer (some ⟨P, 0, none⟩)] 69)).alloc (.cells #[.pointer (some ⟨FB, 0, none⟩)] 108)).alloc (.cells #[.int .i64 ((k : Int) + 1)] 3)) := ⟨_, rfl⟩
      have hB0 : Below W1.heap.size W1 W5 := by
        rw [hW5]
        repeat (first | exact Below.refl _ _ | apply below_alloc)
      have hS0 : W5.heap.size = W1.heap.size + 1 + 1 + 1 + 1 + 1 := by rw [hW5]; simp
      have x0 : W5.heap[W1.heap.size]? = some (.cells #[.int .i64 (i : Int), .int .i64 m1, .int .i64 m2, .int .i64 m3] 54 (0, 0)) := by
        rw [hW5]
        have := blk_new W1 (.cells #[.int .i64 (i : Int), .int .i64 m1, .int .i64 m2, .int .i64 m3] 54)
        try simp only [World.size_alloc] at this
        exact (blk_alloc (blk_alloc (blk_alloc (blk_alloc this _) _) _) _)
      have x1 : W5.heap[W1.heap.size + 1]? = some (.cells #[.int .i64 0] 3 (0, 0)) := by
        rw [hW5]
        have := blk_new (W1.alloc (.cells #[.int .i64 (i : Int), .int .i64 m1, .int .i64 m2, .int .i64 m3] 54)) (.cells #[.int .i64 0] 3)
        try simp only [World.size_alloc] at this
        exact (blk_alloc (blk_alloc (blk_alloc this _) _) _)
      have x2 : W5.heap[W1.heap.size + 1 + 1]? = some (.cells #[.pointer (some ⟨P, 0, none⟩)] 69 (0, 0)) := by
        rw [hW5]
        have := blk_new ((W1.alloc (.cells #[.int .i64 (i : Int), .int .i64 m1, .int .i64 m2, .int .i64 m3] 54)).alloc (.cells #[.int .i64 0] 3)) (.cells #[.pointer (some ⟨P, 0, none⟩)] 69)
        try simp only [World.size_alloc] at this
        exact (blk_alloc (blk_alloc this _) _)
      have x3 : W5.heap[W1.heap.size + 1 + 1 + 1]? = some (.cells #[.pointer (some ⟨FB, 0, none⟩)] 108 (0, 0)) := by
        rw [hW5]
        have := blk_new (((W1.alloc (.cells #[.int .i64 (i : Int), .int .i64 m1, .int .i64 m2, .int .i64 m3] 54)).alloc (.cells #[.int .i64 0] 3)).alloc (.cells #[.pointer (some ⟨P, 0, none⟩)] 69)) (.cells #[.pointer (some ⟨FB, 0, none⟩)] 108)
        try simp only [World.size_alloc] at this
        exact (blk_alloc this _)
      have x4 : W5.heap[W1.heap.size + 1 + 1 + 1 + 1]? = some (.cells #[.int .i64 ((k : Int) + 1)] 3 (0, 0)) := by
        rw [hW5]
        have := blk_new ((((W1.alloc (.cells #[.int .i64 (i : Int), .int .i64 m1, .int .i64 m2, .int .i64 m3] 54)).alloc (.cells #[.int .i64 0] 3)).alloc (.cells #[.pointer (some ⟨P, 0, none⟩)] 69)).alloc (.cells #[.pointer (some ⟨FB, 0, none⟩)] 108)) (.cells #[.int .i64 ((k : Int) + 1)] 3)
        try simp only [World.size_alloc] at this
        exact this
      rw [← hW5]
      clear hW5
      have HX := Aside0.mk HE1.out.net.row
      have HAV : Aside0 (∀ i, i < 9 → ∃ p : Option Addr × Nat, vs[i]? = some (.slice p.1 (kidsN ms i).length p.2) ∧ Kd.C (Kd.int .i64) W1 p.1 (kidsN ms i).length (kidsN ms i)) := ⟨fun i hi => by
        have hl := HE1.out.net.len
        obtain ⟨Av, cv, e, hC⟩ := HX.out i vs[i] (List.getElem?_eq_getElem (by omega))
        exact ⟨(Av, cv), by rw [List.getElem?_eq_getElem (by omega), e], hC⟩⟩
      obtain ⟨AV, hAV⟩ := choose9 HAV.out
      have HA := Aside0.mk hAV
      clear hAV HAV HX
      have HQ : Aside0 (∀ i, i < 9 → ∀ ad, (AV i).1 = some ad → 0 < (kidsN ms i).length → ad.block ≠ W1.heap.size + 1) := ⟨fun i hi ad e hpos => by
        obtain ⟨ad', e', hc⟩ := kids_cell (HA.out i hi).2 0 hpos
        rw [e] at e'
        obtain rfl := Option.some.inj e'
        have := World.block_lt_of_cell? _ _ hc
        rw [add_block] at this
        omega⟩
      have HB0 := Aside0.mk hB0
      have hst : SumAt W1 W5 #[.int .i64 (i : Int), .int .i64 m1, .int .i64 m2, .int .i64 m3] (sumE js true []) := ⟨x0, x1, hB0⟩
      have HX2 := Aside0.mk x2
      have HX3 := Aside0.mk x3
      have HX4 := Aside0.mk x4
      have HST := Aside0.mk hst
      clear x0 x1 x2 x3 x4 hB0 hst
      have HNE : Aside0 (BX < W1.heap.size ∧ FB < W1.heap.size ∧ P < W1.heap.size) := ⟨World.block_lt_of_cell? _ _ HE1.out.x, blk_lt HE1.out.fb, blk_lt HE1.out.net.blk⟩
      clear cx
      refine (wpIn_wide (n := 8)).1 ?_
      refine range_st rfl (by omega) (gf := 73) (lb := #[.pointer (some ⟨W1.heap.size + 1 + 1 + 1, 0, none⟩), .pointer (some ⟨W1.heap.size + 1 + 1, 0, none⟩), .pointer (some ⟨W1.heap.size + 1 + 1 + 1 + 1, 0, none⟩)]) rfl trivial (enters_of Try.func73 (by kernel_rfl) rfl) (encs := encK) (Kp := KpC (W1.heap.size + 1)) (Ef := fun A B => Below A.heap.size A B)
        (Pre := (fun pre x => ∃ (t : Nat) (r : List Int), x = (t : Int) ∧ t ≤ ms.length ∧ pre ++ x :: r = belowJ ms f (k + 1))) (S := fun xs _ => xs = belowJ ms f (k + 1)) (Sp := fun _ => True)
        (fun W hg => below_seq Fence.wide 7 trivial trivial trivial trivial trivial rfl rfl (by omega) ms (by omega) HOK.out.mok (fun i => (AV i).1) (fun i => (AV i).2) f FB P (W1.heap.size + 1 + 1 + 1) (W1.heap.size + 1 + 1) (W1.heap.size + 1 + 1 + 1 + 1) (W1.heap.size + 1) (k + 1) W hj (cell_two (blk_grown HX3.out hg (by simp)) 0 rfl) (cell_two (blk_grown HX2.out hg (by simp)) 0 rfl) (cell_two (blk_grown HX4.out hg (by simp)) 0 rfl)
          (fun i hi => cell_two (blk_below (HE1.out.next (HB0.out.trans ((below_none hg).mono HB0.out.size))).fb (Below.refl _ _)) i (arr_get _ i hi)) (fun i hi => cell_two (HE1.out.next (HB0.out.trans ((below_none hg).mono HB0.out.size))).net.blk (4 + i) ((net_slot _ _ _ _ _ _ _ _ vs i).trans (HA.out i hi).1))
          (fun i hi t ht => kids_cell (Kd.C_below (HA.out i hi).2 (HB0.out.trans ((below_none hg).mono HB0.out.size))) t ht) (Nat.lt_of_lt_of_le (by rw [hS0]; omega) (below_none hg).size) (by omega) (by have := HNE.out; omega) (by omega) (by have := HNE.out; omega) HQ.out)
        (fun A B k o h hk _ => blk_below hk h) (fun h k => kpc_trans h k) (fun W l o o' hl h1 h2 => kpc_putObj h1 h2) (fun _ => rfl)
        (fun pre W => SumAt W1 W #[.int .i64 (i : Int), .int .i64 m1, .int .i64 m2, .int .i64 m3] (sumE js true pre)) (fun _ _ _ => False)
        (sum_own W1 _ _ _ (by rw [hS0]; omega)) (fun _ _ _ _ _ hs _ _ => hs) (fun _ _ _ h he => h.next he) (fun _ _ _ _ h _ => h) (fun _ _ _ _ hs _ _ => hs) HST.out
        (fun x a' _ => a' = { tmps := #[.int .i64 ((k : Int) + 1), .pointer (some ⟨BE, 0, none⟩), .pointer (some ⟨BX, 0, none⟩), .pointer (some ⟨FB, 0, none⟩), .pointer (some ⟨BP, 0, none⟩), undef, .int .i64 0, .int .i64 lo, .pointer (some ⟨(W1.heap.size), 0, none⟩), .pointer (some ⟨(W1.heap.size + 1), 0, none⟩), .int .i64 x, undef, .pointer (some ⟨BE, 2, none⟩), .pointer (some ⟨BE, 2, none⟩), .func (.func 71) #[] #[], .pointer (some ⟨P, 0, none⟩), .pointer (some ⟨P, 0, none⟩), .pointer (some ⟨P, 0, none⟩), .pointer (some ⟨P, 0, none⟩), .agg #[.int .i64 lo, .int .i64 hi], .int .i64 lo, .int .i64 ((k : Int) + 1), .bool true, .pointer (some ⟨P, 0, none⟩), .pointer (some ⟨P, 0, none⟩), .pointer (some ⟨P, 0, none⟩), .pointer (some ⟨P, 3, none⟩), .slice (some ad) ms.length c', .int .i64 ((k : Int) + 1), .int .i64 (k : Int), .pointer (some (ad.add (k * 4))), .agg #[.int .i64 (i : Int), .int .i64 m1, .int .i64 m2, .int .i64 m3], .pointer (some ⟨P, 0, none⟩), .int .i64 ((k : Int) + 1), .func (.func 73) #[] #[.pointer (some ⟨W1.heap.size + 1 + 1 + 1, 0, none⟩), .pointer (some ⟨W1.heap.size + 1 + 1, 0, none⟩), .pointer (some ⟨W1.heap.size + 1 + 1 + 1 + 1, 0, none⟩)], .int .i64 x, undef, undef, undef, undef, undef, undef, undef, undef, undef, undef, undef, undef, undef, undef, undef, undef, undef, undef, undef, undef, undef, undef, undef, undef, undef, undef, undef, undef, undef, undef, undef, undef, undef, undef, undef, undef, undef, undef, undef], defers := [] }) (fun _ _ _ _ _ hs _ _ => hs) ?assign ?body ?done ?stop
      case assign =>
        intro lp pre x W K hi hK
        gi_wp2
        exact hK _ _ (KeepsOthers.refl _) (kpc_refl _ _) hi rfl
      case body =>
        rintro lp pre x a' W hs rfl ⟨t, r, rfl, ht, hp⟩
        have HS := Aside0.mk hs
        have HPP := Aside0.mk hp
        have HE2 := Aside0.mk (HE1.out.next hs.bel)
        have HSB : Aside0 (0 ≤ sumE js true pre ∧ sumE js true pre ≤ 9000000 ∧ 0 ≤ (rd_T50 js (t : Int)).f0.f0 ∧ (rd_T50 js (t : Int)).f0.f0 ≤ 1000000 ∧ 0 ≤ (rd_T50 js (t : Int)).f0.f1 ∧ (rd_T50 js (t : Int)).f0.f1 ≤ 1000000) := ⟨by
          have h1 := sumE_bd HOK.out.jok true pre (fun x hx => belowL_nat ms f _ (k + 1) x (by have := HPP.out; unfold belowJ at this; rw [← this]; simp [hx]))
          have h2 : pre.length ≤ 9 := by have := HL.out (k + 1) hj; rw [← HPP.out] at this; simp at this; omega
          have h3 := junction_ok HOK.out.jok t
          omega⟩
        have HSN := Aside0.mk (sumE_snoc js true pre (t : Int))
        clear hs hp HST
        obtain ⟨sm, hsm⟩ : ∃ x, sumE js true pre = x := ⟨_, rfl⟩
        rw [hsm] at HS HSB HSN
        clear hsm
        have y0 : W.cell? ⟨BE, 0, none⟩ = some (.func (.func 72) #[] #[]) := HE2.out.e0
        have yx := HE2.out.x
        have y2 : W.cell? ⟨P, 2, none⟩ = some (.slice A js.length c) := cell_two HE2.out.net.blk 2 (net_2 _ _ _ _ _ _ _ _ _)
        have ys := cell_two HS.out.bs 0 rfl
        have yf := blk_frozen HS.out.bs 0
        have t0 : (0 : Int) ≤ (t : Int) := Int.natCast_nonneg t
        have t1 : (t : Int) < (js.length : Int) := by omega
        obtain ⟨ae, e, u0, u1, _⟩ := at_T50 HE2.out.net.jr t t0 t1
        cases e
        simp only [Int.toNat_natCast] at u0 u1
        obtain ⟨n0, hn0⟩ : ∃ x, (rd_T50 js (t : Int)).f0.f0 = x := ⟨_, rfl⟩
        obtain ⟨n1, hn1⟩ : ∃ x, (rd_T50 js (t : Int)).f0.f1 = x := ⟨_, rfl⟩
        rw [hn0] at u0 HSB
        rw [hn1] at u1 HSB
        have HEE : Aside0 (endE true (rd_T50 js (t : Int)).f0 = n1) := ⟨by unfold endE; simp [hn0, hn1]⟩
        clear hn0 hn1
        have hws : IntKind.i64.wrap (sm + n1) = sm + n1 := IntWalk.i64_in _ (by have := HSB.out; omega)
        gi_wp2
        refine startR_ (n := 16) (S := fun w' => w'.cell? ⟨W1.heap.size + 1, 0, none⟩ = some (.int .i64 sm) ∧ w'.cell? ⟨BE, 0, none⟩ = some (.func (.func 72) #[] #[]) ∧ w'.cell? ⟨BX, 0, none⟩ = some (.pointer (some ⟨P, 0, none⟩)) ∧ w'.cell? ⟨P, 2, none⟩ = some (.slice (some ae) js.length c) ∧ w'.cell? (ae.add (t * 5)) = some (.int .i64 n0) ∧ w'.cell? ⟨(ae.add (t * 5)).block, (ae.add (t * 5)).off + 1, none⟩ = some (.int .i64 n1)) (ds := [15]) (bs_ 16 0) (by kernel_rfl) (by kernel_rfl) (fun ⟨_, _, h⟩ => h) rfl rfl (⟨ys, y0, yx, y2, u0, u1⟩) (fun hHeld => ?_)
        have HD0 := Aside0.mk (Below.drew (Below.refl W.heap.size W))
        have HKo := Aside0.mk (KeepsOthers.drew W)
        generalize W.drew = W0 at HD0 HKo hHeld ⊢
        have HS0 := Aside0.mk (HS.out.next HD0.out)
        have HBn : Aside0 (KpC (W1.heap.size + 1) W ((W0.alloc (.cells #[.int .i64 n0, .int .i64 n1] 23)).setCell ⟨W1.heap.size + 1, 0, none⟩ (.int .i64 (sm + n1)))) := ⟨kpc_trans (kpc_below (below_alloc HD0.out _)) (kpc_set _ _ _ _)⟩
        have HF : Aside0 (SumAt W1 ((W0.alloc (.cells #[.int .i64 n0, .int .i64 n1] 23)).setCell ⟨W1.heap.size + 1, 0, none⟩ (.int .i64 (sm + n1))) #[.int .i64 (i : Int), .int .i64 m1, .int .i64 m2, .int .i64 m3] (sm + n1)) := ⟨⟨HBn.out W1.heap.size _ _ _ (by omega) HS.out.bm, blk_put (blk_alloc HS0.out.bs _) 0 _ rfl, Below.setCell (HS0.out.bel.trans ((below_alloc (Below.refl _ W0) _).mono HS0.out.bel.size)) (by show W1.heap.size ≤ W1.heap.size + 1; omega) _⟩⟩
        have ys2 : (W0.alloc (.cells #[.int .i64 n0, .int .i64 n1] 23)).cell? ⟨W1.heap.size + 1, 0, none⟩ = some (.int .i64 sm) := cell_two (blk_alloc HS0.out.bs _) 0 rfl
        have yf2 : (W0.alloc (.cells #[.int .i64 n0, .int .i64 n1] 23)).frozen? ⟨W1.heap.size + 1, 0, none⟩ = false := blk_frozen (blk_alloc HS0.out.bs _) 0
        have hh := hHeld
        obtain ⟨_, z0, zx, z2, v0, v1⟩ := hh
        clear y0 yx y2 u0 u1 ys yf
        refine take_ (i := 0) (N := some 36) (v := ?_) (a' := ?_) (bs_ 16 1) rfl rfl (by kernel_rfl) (fun _ _ _ h => h) (Or.inl ⟨by rfl, ?_⟩) hHeld ?_ ?_; rotate_left; (· rintro w' ⟨s0, s1, s2, s3, s4, s5⟩; go_simp; with_reducible rfl); rotate_left; (· simp only [Act.put, N1_]; rfl)
        refine pure_ (i := 1) (N := some 37) (v := ?_) (a' := ?_) (bs_ 16 3) rfl rfl (by kernel_rfl) (fun _ _ _ h => h) (Or.inl ⟨by rfl, ?_⟩) ?_ ?_; rotate_left; (· intro w'; go_simp; with_reducible rfl); rotate_left; (· simp only [Act.put, N1_]; rfl)
        refine pure_ (i := 2) (N := some 38) (v := ?_) (a' := ?_) (bs_ 16 7) rfl rfl (by kernel_rfl) (fun _ _ _ h => h) (Or.inl ⟨by rfl, ?_⟩) ?_ ?_; rotate_left; (· intro w'; go_simp; with_reducible rfl); rotate_left; (· simp only [Act.put, N1_]; rfl)
        refine take_ (i := 3) (N := some 39) (v := ?_) (a' := ?_) (bs_ 16 15) rfl rfl (by kernel_rfl) (fun _ _ _ h => h) (Or.inl ⟨by rfl, ?_⟩) hHeld ?_ ?_; rotate_left; (· rintro w' ⟨s0, s1, s2, s3, s4, s5⟩; go_simp; with_reducible rfl); rotate_left; (· simp only [Act.put, N1_]; rfl)
        refine take_ (i := 4) (N := some 40) (v := ?_) (a' := ?_) (bs_ 16 31) rfl rfl (by kernel_rfl) (fun _ _ _ h => h) (Or.inl ⟨by rfl, ?_⟩) hHeld ?_ ?_; rotate_left; (· rintro w' ⟨s0, s1, s2, s3, s4, s5⟩; go_simp; with_reducible rfl); rotate_left; (· simp only [Act.put, N1_]; rfl)
        refine pure_ (i := 5) (N := some 41) (v := ?_) (a' := ?_) (bs_ 16 63) rfl rfl (by kernel_rfl) (fun _ _ _ h => h) (Or.inl ⟨by rfl, ?_⟩) ?_ ?_; rotate_left; (· intro w'; go_simp; with_reducible rfl); rotate_left; (· simp only [Act.put, N1_]; rfl)
        refine pure_ (i := 6) (N := some 42) (v := ?_) (a' := ?_) (bs_ 16 127) rfl rfl (by kernel_rfl) (fun _ _ _ h => h) (Or.inl ⟨by rfl, ?_⟩) ?_ ?_; rotate_left; (· intro w'; go_simp; with_reducible rfl); rotate_left; (· simp only [Act.put, N1_]; rfl)
        refine pure_ (i := 7) (N := some 43) (v := ?_) (a' := ?_) (bs_ 16 255) rfl rfl (by kernel_rfl) (fun _ _ _ h => h) (Or.inl ⟨by rfl, ?_⟩) ?_ ?_; rotate_left; (· intro w'; go_simp; with_reducible rfl); rotate_left; (· simp only [Act.put, N1_]; rfl)
        refine take_ (i := 8) (N := some 44) (v := ?_) (a' := ?_) (bs_ 16 511) rfl rfl (by kernel_rfl) (fun _ _ _ h => h) (Or.inl ⟨by rfl, ?_⟩) hHeld ?_ ?_; rotate_left; (· rintro w' ⟨s0, s1, s2, s3, s4, s5⟩; go_simp; with_reducible rfl); rotate_left; (· simp only [Act.put, N1_]; rfl)
        refine pure_ (i := 9) (N := some 45) (v := ?_) (a' := ?_) (bs_ 16 1023) rfl rfl (by kernel_rfl) (fun _ _ _ h => h) (Or.inl ⟨by rfl, ?_⟩) ?_ ?_; rotate_left; (· intro w'; go_simp; with_reducible rfl); rotate_left; (· simp only [Act.put, N1_]; rfl)
        refine pure_ (i := 10) (N := some 46) (v := ?_) (a' := ?_) (bs_ 16 2047) rfl rfl (by kernel_rfl) (fun _ _ _ h => h) (Or.inl ⟨by rfl, ?_⟩) ?_ ?_; rotate_left; (· intro w'; go_simp; with_reducible rfl); rotate_left; (· simp only [Act.put, N1_]; rfl)
        refine pure_ (i := 11) (N := some 47) (v := ?_) (a' := ?_) (bs_ 16 4095) rfl rfl (by kernel_rfl) (fun _ _ _ h => h) (Or.inl ⟨by rfl, ?_⟩) ?_ ?_; rotate_left; (· intro w'; go_simp; with_reducible rfl); rotate_left; (· simp only [Act.put, N1_]; rfl)
        refine take_ (i := 12) (N := some 48) (v := ?_) (a' := ?_) (bs_ 16 8191) rfl rfl (by kernel_rfl) (fun _ _ _ h => h) (Or.inl ⟨by rfl, ?_⟩) hHeld ?_ ?_; rotate_left; (· rintro w' ⟨s0, s1, s2, s3, s4, s5⟩; go_simp; with_reducible rfl); rotate_left; (· simp only [Act.put, N1_]; rfl)
        refine one_ (i := 13) (N := some 49) (bs_ 16 16383) rfl rfl (by kernel_rfl) (by decide) (fun K hK => ?_)
        go_simp
        refine (hi_any _ _ _).mono ?_
        rintro e w' ⟨rfl, rfl⟩
        refine hK.out _ _ ⟨ys2, ((below_alloc (Below.refl _ W0) _).cell (World.block_lt_of_cell? _ _ z0)).trans z0, ((below_alloc (Below.refl _ W0) _).cell (World.block_lt_of_cell? _ _ zx)).trans zx, ((below_alloc (Below.refl _ W0) _).cell (World.block_lt_of_cell? _ _ z2)).trans z2, ((below_alloc (Below.refl _ W0) _).cell (World.block_lt_of_cell? _ _ v0)).trans v0, ((below_alloc (Below.refl _ W0) _).cell (World.block_lt_of_cell? _ _ v1)).trans v1⟩ (fun hHeld => ?_)
        clear hK K
        refine pure_ (i := 14) (N := some 50) (v := ?_) (a' := ?_) (bs_ 16 32767) rfl rfl (by kernel_rfl) (fun _ _ _ h => h) (Or.inl ⟨by rfl, ?_⟩) ?_ ?_; rotate_left; (· intro w'; go_simp; with_reducible rfl); rotate_left; (· simp only [Act.put, N1_]; rfl)
        refine last_ (i := 15) (N := none) (bs_ 16 65535) rfl rfl (by kernel_rfl) (by decide) (fun K hK => ?_)
        refine skip_ (w1 := ?_) (by rfl) rfl ?_ ?_; rotate_left; (· go_simp; rfl)
        refine hK.out _ _ ?_
        clear hK K
        refine done_ (by kernel_rfl) ?_
        refine ⟨(HKo.out.trans (KeepsOthers.alloc _ _)).trans (KeepsOthers.setCell _ _ _), ?_, ?_⟩
        · exact HBn.out
        · show SumAt W1 _ _ (sumE js true (pre ++ [(t : Int)]))
          rw [HSN.out, HEE.out]
          exact HF.out
      case done =>
        rintro D xs W hD rfl hs hK
        rw [hS0] at hD
        have HS := Aside0.mk hs
        have HKW := Aside0.mk hK
        have HE2 := Aside0.mk (HE1.out.next hs.bel)
        clear hs hK HST
        obtain ⟨sm, hsm⟩ : ∃ x, sumE js true (belowJ ms f (k + 1)) = x := ⟨_, rfl⟩
        rw [hsm] at HS HPR HFL
        clear hsm
        obtain ⟨pi, hpi⟩ : ∃ x, pressP js ms true f lo i = x := ⟨_, rfl⟩
        have HIH : Aside0 (∀ W, PEnv W true f BE BX FB BP P lo hi A c js (some ad) c' ms vs → Calls Try.prog 59 #[.int .i64 (i : Int), .pointer (some ⟨BE, 0, none⟩), .pointer (some ⟨BX, 0, none⟩), .pointer (some ⟨FB, 0, none⟩), .pointer (some ⟨BP, 0, none⟩)] W fun e w' => e = .returned (.int .i64 pi) ∧ Below W.heap.size W w') := ⟨fun W h => by rw [← hpi]; exact IH.out i (by omega) (by omega) W h⟩
        rw [hpi] at HPR HPB
        clear hpi IH
        have hw1 : IntKind.i64.wrap (m1 * sm) = m1 * sm := IntWalk.i64_in _ (by have := HFL.out; omega)
        have hw2 : IntKind.i64.wrap (pi - m1 * sm) = pi - m1 * sm := IntWalk.i64_in _ (by have := HFL.out; have := HPB.out; omega)
        have zb : W.cell? ⟨BP, 0, none⟩ = some (.func (.func 59) #[] #[.pointer (some ⟨BE, 0, none⟩), .pointer (some ⟨BX, 0, none⟩), .pointer (some ⟨FB, 0, none⟩), .pointer (some ⟨BP, 0, none⟩)]) := HE2.out.bp
        have z0 := cell_two HS.out.bm 0 rfl
        have z1 := cell_two HS.out.bm 1 rfl
        have zs := cell_two HS.out.bs 0 rfl
        clear HQ HA HX2 HX3 HX4 HNE HB0
        skip
        gi_wp2
        go_region_held3 (fun w' => w'.cell? ⟨BP, 0, none⟩ = some (.func (.func 59) #[] #[.pointer (some ⟨BE, 0, none⟩), .pointer (some ⟨BX, 0, none⟩), .pointer (some ⟨FB, 0, none⟩), .pointer (some ⟨BP, 0, none⟩)]) ∧ w'.cell? ⟨W1.heap.size, 0, none⟩ = some (.int .i64 (i : Int)) ∧ w'.cell? ⟨W1.heap.size, 1, none⟩ = some (.int .i64 m1) ∧ w'.cell? ⟨W1.heap.size + 1, 0, none⟩ = some (.int .i64 sm)) (go_keep)
          ((go_at_call 59; refine (HIH.out _ (HE2.out.next (Below.drew (Below.refl _ W)))).mono ?_; rintro e W8 ⟨rfl, hb8⟩; have HB8 := Aside0.mk ((Below.drew (Below.refl W.heap.size W)).trans hb8); clear hb8; have zb2 := (HB8.out.cell (World.block_lt_of_cell? _ _ zb)).trans zb; have z02 := (HB8.out.cell (World.block_lt_of_cell? _ _ z0)).trans z0; have z12 := (HB8.out.cell (World.block_lt_of_cell? _ _ z1)).trans z1; have zs2 := (HB8.out.cell (World.block_lt_of_cell? _ _ zs)).trans zs))
        have HE3 := Aside0.mk (HE2.out.next HB8.out)
        have HK8 := Aside0.mk (blk_below HKW.out HB8.out)
        have HW8 : Aside0 (Below w.heap.size w W8) := ⟨(HB1.out.trans (HS.out.bel.mono HB1.out.size)).trans (HB8.out.mono (Nat.le_trans HB1.out.size HS.out.bel.size))⟩
        clear zb z0 z1 zs zb2 z02 z12 zs2 hw1 hw2
        obtain ⟨p, hp⟩ : ∃ x, pi - m1 * sm = x := ⟨_, rfl⟩
        rw [hp] at HPR ⊢
        have HP := HPR
        clear hp HPR HPB HFL
        have cx := HE3.out.x
        have q2 : W8.cell? ⟨P, 2, none⟩ = some (.slice A js.length c) := cell_two HE3.out.net.blk 2 (net_2 _ _ _ _ _ _ _ _ _)
        have j1 : ((k : Int) + 1) < (js.length : Int) := by omega
        obtain ⟨ae, e, u0, u1, u2, u3, u4⟩ := at_T50 HE3.out.net.jr ((k + 1 : Nat) : Int) (by omega) (by omega)
        cases e
        simp only [Int.toNat_natCast] at u0 u1 u2 u3 u4
        obtain ⟨gv, hgv⟩ : ∃ x, (rd_T50 js ((k + 1 : Nat) : Int)).f3 = x := ⟨_, rfl⟩
        have HGV : Aside0 (govP js (k + 1) p = if gv = -1 then p else min p gv) := ⟨by unfold govP; rw [hgv]⟩
        rw [hgv] at u4
        clear hgv
        by_cases hg : gv = -1
        · have dg : (gv != -1) = false := by rw [hg]; rfl
          have HG : Aside0 (govP js (k + 1) p = p) := ⟨by rw [HGV.out, if_pos hg]⟩
          clear hg HGV
          go_wp2
          all_goals
            refine ⟨by simp, .inl ⟨_, _, rfl, run_takeDeferred HK8.out, ?_⟩⟩
            refine ⟨.int .i64 _, by simp [results, Try.f59, go_sem]; rfl, ?_⟩
            refine ⟨ret_i64 (by rw [HP.out, HG.out]; try omega), ?_⟩
            exact Below.trans HW8.out (belowK_b (w := w) (Nat.le_refl _) _ D _ _ (by have := HB1.out.size; omega) HK8.out rfl rfl)
        · have dg : (gv != -1) = true := bne_iff_ne.2 hg
          have HG : Aside0 (govP js (k + 1) p = min p gv) := ⟨by rw [HGV.out, if_neg hg]⟩
          clear hg HGV
          go_wp2
          all_goals
            refine ⟨by simp, .inl ⟨_, _, rfl, run_takeDeferred HK8.out, ?_⟩⟩
            refine ⟨.int .i64 _, by simp [results, Try.f59, go_sem]; rfl, ?_⟩
            refine ⟨ret_i64 (by rw [HP.out, HG.out]; try omega), ?_⟩
            exact Below.trans HW8.out (belowK_b (w := w) (Nat.le_refl _) _ D _ _ (by have := HB1.out.size; omega) HK8.out rfl rfl)
      case stop =>
        rintro D cd pre W hD _ h _
        exact h.elim
end Go.Proofs.Ytbjinkkmakhbaaa.Print
