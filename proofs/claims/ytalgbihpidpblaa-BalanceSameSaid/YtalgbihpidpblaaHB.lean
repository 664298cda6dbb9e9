/- Why, where there is a truth and the flow is one. -/
import Derived.Test.YtalgbihpidpblaaHA
namespace Go.Proofs.Ytalgbihpidpblaa.Print
open Go.RowKit Go.Shelf Go.Proofs.YtalgbihpidpblaaW.PrintWords Go.Proofs.YtalgbihpidpblaaW.PrintLast Go.Proofs.YtalgbihpidpblaaW.PrintMore
set_option linter.unusedVariables false
set_option linter.unusedSimpArgs false

set_option maxRecDepth 100000 in
set_option maxHeartbeats 2000000 in
theorem why_least_is (pl : Int) (A : Option Addr) (c : Nat) (l : List S47) (k : Int) (w : World) (hr : Kd.C k47 w A l.length l) (hc : l.length ≤ c) (hn : l.length ≤ 9223372036854775807)
    (he : errS pl l = 0) (hk : withinB k 0 (l.length - 1) = true) (hb : (boundS false pl l k).2.2 = true) :
    Calls Try.prog 17 #[.agg #[.int .i64 pl, .slice A l.length c], .int .i64 k, .bool false] w (WhyPost (whyS pl l k false) w) := by
  have hp : isPlantB pl l = true := by rcases err_cases pl l with ⟨h, hp⟩ | ⟨h, hp⟩ | ⟨h, hp⟩ <;> first | omega | exact hp
  have hk0 : 0 ≤ k := by simp [withinB] at hk; omega
  have hk1 : k < l.length := by simp [withinB] at hk; omega
  have HR := Aside0.mk hr
  clear hr
  have hx := blk_new w (.cells #[.int .i64 pl, .slice A l.length c] 24)
  have hb0 : Below w.heap.size w (w.alloc (.cells #[.int .i64 pl, .slice A l.length c] 24)) := (Below.refl _ _).alloc (Nat.le_refl _) _
  have HX := Aside0.mk hx
  have HB0 := Aside0.mk hb0
  clear hx hb0
  have hs : whyS pl l k false = (listS (boundS false pl l k).2.1, 0) := by
    unfold whyS; rw [if_neg (by omega), if_neg (by rw [hk]; simp), if_neg (by omega), hb]; rfl
  rw [hs]
  have HE := Aside0.mk he
  have HP := Aside0.mk hp
  clear hs he hp
  have i0 := index66_0
  have i1 := index66_1
  go_enter Try.func17, Try.ntmps17
  go_wp2_with (fail)
  go_step3
  go_wp2_with (first | (go_at_call 28; refine (error_as 0 _ _ _ _ _ (Kd.C_below HR.out HB0.out) hc HE.out).mono ?_; rintro e W1 ⟨rfl, hb⟩; have s0 : W1.cell? ⟨w.heap.size, 0, none⟩ = some (.int .i64 pl) := (hb.cell (p := ⟨w.heap.size, 0, none⟩) (by simp)).trans (cell_two HX.out 0 rfl); have s1 : W1.cell? ⟨w.heap.size, 1, none⟩ = some (.slice A l.length c) := (hb.cell (p := ⟨w.heap.size, 1, none⟩) (by simp)).trans (cell_two HX.out 1 rfl); have HB1 := Aside0.mk (HB0.out.trans (hb.mono HB0.out.size)); clear hb) | (go_at_call 31; refine (within_any _ _ _ _).mono ?_; rintro e W2 ⟨rfl, hq⟩; obtain rfl := hq.symm))
  go_step3
  go_wp2_with (go_at_call 32; refine (ends32 _).mono ?_; rintro e W3 ⟨rfl, hb⟩; have r0 := (hb.cell (World.block_lt_of_cell? _ _ s0)).trans s0; have r1 := (hb.cell (World.block_lt_of_cell? _ _ s1)).trans s1; have HB3 := Aside0.mk (HB1.out.trans (hb.mono HB1.out.size)); have hz := World.block_lt_of_cell? _ _ r0; clear hb s0 s1)
  refine wp_loop_rounds 1 ?_
  rw [rounds_succ]
  go_wp2_with (first | (go_at_call 33; refine (bound_least _ _ _ _ _ _ (Kd.C_below HR.out (by repeat (first | exact HB3.out | apply below_alloc))) HP.out hk0 hk1).mono ?_; rintro e W4 ⟨rfl, hb⟩; have HB4 := Aside0.mk ((show Below w.heap.size w _ from by repeat (first | exact HB3.out | apply below_alloc)).trans (hb.mono (below_size (by repeat (first | exact HB3.out | apply below_alloc))))); clear hb) | (go_at_call 34; refine (balance_set_list.calls 9 _ _ _ (list_eq _)).mono ?_; rintro e W5 ⟨v0, rfl, hO, hb⟩; have HO := Aside0.mk (Kd.R_lower hO HB4.out.size); have HB5 := Aside0.mk (HB4.out.trans (hb.mono HB4.out.size)); clear hO hb))
  rw [Exit.noGoto_ret]
  go_ret2
  exact ⟨_, rfl, HO.out, HB5.out⟩

set_option maxRecDepth 100000 in
set_option maxHeartbeats 2000000 in
theorem why_least_none (pl : Int) (A : Option Addr) (c : Nat) (l : List S47) (k : Int) (w : World) (hr : Kd.C k47 w A l.length l) (hc : l.length ≤ c) (hn : l.length ≤ 9223372036854775807)
    (he : errS pl l = 0) (hk : withinB k 0 (l.length - 1) = true) (hb : (boundS false pl l k).2.2 = false) :
    Calls Try.prog 17 #[.agg #[.int .i64 pl, .slice A l.length c], .int .i64 k, .bool false] w (WhyPost (whyS pl l k false) w) := by
  have hp : isPlantB pl l = true := by rcases err_cases pl l with ⟨h, hp⟩ | ⟨h, hp⟩ | ⟨h, hp⟩ <;> first | omega | exact hp
  have hk0 : 0 ≤ k := by simp [withinB] at hk; omega
  have hk1 : k < l.length := by simp [withinB] at hk; omega
  have HR := Aside0.mk hr
  clear hr
  have hx := blk_new w (.cells #[.int .i64 pl, .slice A l.length c] 24)
  have hb0 : Below w.heap.size w (w.alloc (.cells #[.int .i64 pl, .slice A l.length c] 24)) := (Below.refl _ _).alloc (Nat.le_refl _) _
  have HX := Aside0.mk hx
  have HB0 := Aside0.mk hb0
  clear hx hb0
  have hs : whyS pl l k false = ([], 4) := by
    unfold whyS; rw [if_neg (by omega), if_neg (by rw [hk]; simp), if_neg (by omega), hb]; rfl
  rw [hs]
  have HE := Aside0.mk he
  have HP := Aside0.mk hp
  clear hs he hp
  have i0 := index66_0
  have i1 := index66_1
  go_enter Try.func17, Try.ntmps17
  go_wp2_with (fail)
  go_step3
  go_wp2_with (first | (go_at_call 28; refine (error_as 0 _ _ _ _ _ (Kd.C_below HR.out HB0.out) hc HE.out).mono ?_; rintro e W1 ⟨rfl, hb⟩; have s0 : W1.cell? ⟨w.heap.size, 0, none⟩ = some (.int .i64 pl) := (hb.cell (p := ⟨w.heap.size, 0, none⟩) (by simp)).trans (cell_two HX.out 0 rfl); have s1 : W1.cell? ⟨w.heap.size, 1, none⟩ = some (.slice A l.length c) := (hb.cell (p := ⟨w.heap.size, 1, none⟩) (by simp)).trans (cell_two HX.out 1 rfl); have HB1 := Aside0.mk (HB0.out.trans (hb.mono HB0.out.size)); clear hb) | (go_at_call 31; refine (within_any _ _ _ _).mono ?_; rintro e W2 ⟨rfl, hq⟩; obtain rfl := hq.symm))
  go_step3
  go_wp2_with (go_at_call 32; refine (ends32 _).mono ?_; rintro e W3 ⟨rfl, hb⟩; have r0 := (hb.cell (World.block_lt_of_cell? _ _ s0)).trans s0; have r1 := (hb.cell (World.block_lt_of_cell? _ _ s1)).trans s1; have HB3 := Aside0.mk (HB1.out.trans (hb.mono HB1.out.size)); have hz := World.block_lt_of_cell? _ _ r0; clear hb s0 s1)
  refine wp_loop_rounds 1 ?_
  rw [rounds_succ]
  go_wp2_with (first | (go_at_call 33; refine (bound_least _ _ _ _ _ _ (Kd.C_below HR.out (by repeat (first | exact HB3.out | apply below_alloc))) HP.out hk0 hk1).mono ?_; rintro e W4 ⟨rfl, hb⟩; have HB4 := Aside0.mk ((show Below w.heap.size w _ from by repeat (first | exact HB3.out | apply below_alloc)).trans (hb.mono (below_size (by repeat (first | exact HB3.out | apply below_alloc))))); clear hb) | (go_at_call 34; refine (balance_set_list.calls 9 _ _ _ (list_eq _)).mono ?_; rintro e W5 ⟨v0, rfl, hO, hb⟩; have HO := Aside0.mk (Kd.R_lower hO HB4.out.size); have HB5 := Aside0.mk (HB4.out.trans (hb.mono HB4.out.size)); clear hO hb))
  rw [Exit.noGoto_ret]
  go_ret2
  exact ⟨_, rfl, Kd.R_nil _ _ _ _ _, HB4.out⟩

set_option maxRecDepth 100000 in
set_option maxHeartbeats 2000000 in
theorem why_most_is (pl : Int) (A : Option Addr) (c : Nat) (l : List S47) (k : Int) (w : World) (hr : Kd.C k47 w A l.length l) (hc : l.length ≤ c) (hn : l.length ≤ 9223372036854775807)
    (he : errS pl l = 0) (hk : withinB k 0 (l.length - 1) = true) (hb : (boundS true pl l k).2.2 = true) :
    Calls Try.prog 17 #[.agg #[.int .i64 pl, .slice A l.length c], .int .i64 k, .bool true] w (WhyPost (whyS pl l k true) w) := by
  have hp : isPlantB pl l = true := by rcases err_cases pl l with ⟨h, hp⟩ | ⟨h, hp⟩ | ⟨h, hp⟩ <;> first | omega | exact hp
  have hk0 : 0 ≤ k := by simp [withinB] at hk; omega
  have hk1 : k < l.length := by simp [withinB] at hk; omega
  have HR := Aside0.mk hr
  clear hr
  have hx := blk_new w (.cells #[.int .i64 pl, .slice A l.length c] 24)
  have hb0 : Below w.heap.size w (w.alloc (.cells #[.int .i64 pl, .slice A l.length c] 24)) := (Below.refl _ _).alloc (Nat.le_refl _) _
  have HX := Aside0.mk hx
  have HB0 := Aside0.mk hb0
  clear hx hb0
  have hs : whyS pl l k true = (listS (boundS true pl l k).2.1, 0) := by
    unfold whyS; rw [if_neg (by omega), if_neg (by rw [hk]; simp), if_neg (by omega), hb]; rfl
  rw [hs]
  have HE := Aside0.mk he
  have HP := Aside0.mk hp
  clear hs he hp
  have i0 := index66_0
  have i1 := index66_1
  go_enter Try.func17, Try.ntmps17
  go_wp2_with (fail)
  go_step3
  go_wp2_with (first | (go_at_call 28; refine (error_as 0 _ _ _ _ _ (Kd.C_below HR.out HB0.out) hc HE.out).mono ?_; rintro e W1 ⟨rfl, hb⟩; have s0 : W1.cell? ⟨w.heap.size, 0, none⟩ = some (.int .i64 pl) := (hb.cell (p := ⟨w.heap.size, 0, none⟩) (by simp)).trans (cell_two HX.out 0 rfl); have s1 : W1.cell? ⟨w.heap.size, 1, none⟩ = some (.slice A l.length c) := (hb.cell (p := ⟨w.heap.size, 1, none⟩) (by simp)).trans (cell_two HX.out 1 rfl); have HB1 := Aside0.mk (HB0.out.trans (hb.mono HB0.out.size)); clear hb) | (go_at_call 31; refine (within_any _ _ _ _).mono ?_; rintro e W2 ⟨rfl, hq⟩; obtain rfl := hq.symm))
  go_step3
  go_wp2_with (go_at_call 32; refine (ends32 _).mono ?_; rintro e W3 ⟨rfl, hb⟩; have r0 := (hb.cell (World.block_lt_of_cell? _ _ s0)).trans s0; have r1 := (hb.cell (World.block_lt_of_cell? _ _ s1)).trans s1; have HB3 := Aside0.mk (HB1.out.trans (hb.mono HB1.out.size)); have hz := World.block_lt_of_cell? _ _ r0; clear hb s0 s1)
  refine wp_loop_rounds 2 ?_
  rw [rounds_succ]
  go_wp2_with (fail)
  rw [rounds_succ]
  go_wp2_with (first | (go_at_call 33; refine (bound_most _ _ _ _ _ _ (Kd.C_below HR.out (by repeat (first | exact HB3.out | apply below_alloc))) HP.out hk0 hk1).mono ?_; rintro e W4 ⟨rfl, hb⟩; have HB4 := Aside0.mk ((show Below w.heap.size w _ from by repeat (first | exact HB3.out | apply below_alloc)).trans (hb.mono (below_size (by repeat (first | exact HB3.out | apply below_alloc))))); clear hb) | (go_at_call 34; refine (balance_set_list.calls 9 _ _ _ (list_eq _)).mono ?_; rintro e W5 ⟨v0, rfl, hO, hb⟩; have HO := Aside0.mk (Kd.R_lower hO HB4.out.size); have HB5 := Aside0.mk (HB4.out.trans (hb.mono HB4.out.size)); clear hO hb))
  rw [Exit.noGoto_ret]
  go_ret2
  exact ⟨_, rfl, HO.out, HB5.out⟩

set_option maxRecDepth 100000 in
set_option maxHeartbeats 2000000 in
theorem why_most_none (pl : Int) (A : Option Addr) (c : Nat) (l : List S47) (k : Int) (w : World) (hr : Kd.C k47 w A l.length l) (hc : l.length ≤ c) (hn : l.length ≤ 9223372036854775807)
    (he : errS pl l = 0) (hk : withinB k 0 (l.length - 1) = true) (hb : (boundS true pl l k).2.2 = false) :
    Calls Try.prog 17 #[.agg #[.int .i64 pl, .slice A l.length c], .int .i64 k, .bool true] w (WhyPost (whyS pl l k true) w) := by
  have hp : isPlantB pl l = true := by rcases err_cases pl l with ⟨h, hp⟩ | ⟨h, hp⟩ | ⟨h, hp⟩ <;> first | omega | exact hp
  have hk0 : 0 ≤ k := by simp [withinB] at hk; omega
  have hk1 : k < l.length := by simp [withinB] at hk; omega
  have HR := Aside0.mk hr
  clear hr
  have hx := blk_new w (.cells #[.int .i64 pl, .slice A l.length c] 24)
  have hb0 : Below w.heap.size w (w.alloc (.cells #[.int .i64 pl, .slice A l.length c] 24)) := (Below.refl _ _).alloc (Nat.le_refl _) _
  have HX := Aside0.mk hx
  have HB0 := Aside0.mk hb0
  clear hx hb0
  have hs : whyS pl l k true = ([], 4) := by
    unfold whyS; rw [if_neg (by omega), if_neg (by rw [hk]; simp), if_neg (by omega), hb]; rfl
  rw [hs]
  have HE := Aside0.mk he
  have HP := Aside0.mk hp
  clear hs he hp
  have i0 := index66_0
  have i1 := index66_1
  go_enter Try.func17, Try.ntmps17
  go_wp2_with (fail)
  go_step3
  go_wp2_with (first | (go_at_call 28; refine (error_as 0 _ _ _ _ _ (Kd.C_below HR.out HB0.out) hc HE.out).mono ?_; rintro e W1 ⟨rfl, hb⟩; have s0 : W1.cell? ⟨w.heap.size, 0, none⟩ = some (.int .i64 pl) := (hb.cell (p := ⟨w.heap.size, 0, none⟩) (by simp)).trans (cell_two HX.out 0 rfl); have s1 : W1.cell? ⟨w.heap.size, 1, none⟩ = some (.slice A l.length c) := (hb.cell (p := ⟨w.heap.size, 1, none⟩) (by simp)).trans (cell_two HX.out 1 rfl); have HB1 := Aside0.mk (HB0.out.trans (hb.mono HB0.out.size)); clear hb) | (go_at_call 31; refine (within_any _ _ _ _).mono ?_; rintro e W2 ⟨rfl, hq⟩; obtain rfl := hq.symm))
  go_step3
  go_wp2_with (go_at_call 32; refine (ends32 _).mono ?_; rintro e W3 ⟨rfl, hb⟩; have r0 := (hb.cell (World.block_lt_of_cell? _ _ s0)).trans s0; have r1 := (hb.cell (World.block_lt_of_cell? _ _ s1)).trans s1; have HB3 := Aside0.mk (HB1.out.trans (hb.mono HB1.out.size)); have hz := World.block_lt_of_cell? _ _ r0; clear hb s0 s1)
  refine wp_loop_rounds 2 ?_
  rw [rounds_succ]
  go_wp2_with (fail)
  rw [rounds_succ]
  go_wp2_with (first | (go_at_call 33; refine (bound_most _ _ _ _ _ _ (Kd.C_below HR.out (by repeat (first | exact HB3.out | apply below_alloc))) HP.out hk0 hk1).mono ?_; rintro e W4 ⟨rfl, hb⟩; have HB4 := Aside0.mk ((show Below w.heap.size w _ from by repeat (first | exact HB3.out | apply below_alloc)).trans (hb.mono (below_size (by repeat (first | exact HB3.out | apply below_alloc))))); clear hb) | (go_at_call 34; refine (balance_set_list.calls 9 _ _ _ (list_eq _)).mono ?_; rintro e W5 ⟨v0, rfl, hO, hb⟩; have HO := Aside0.mk (Kd.R_lower hO HB4.out.size); have HB5 := Aside0.mk (HB4.out.trans (hb.mono HB4.out.size)); clear hO hb))
  rw [Exit.noGoto_ret]
  go_ret2
  exact ⟨_, rfl, Kd.R_nil _ _ _ _ _, HB4.out⟩

theorem why_any (pl : Int) (A : Option Addr) (c : Nat) (l : List S47) (k : Int) (m : Bool) (w : World) (hr : Kd.C k47 w A l.length l) (hc : l.length ≤ c) :
    Calls Try.prog 17 #[.agg #[.int .i64 pl, .slice A l.length c], .int .i64 k, .bool m] w (WhyPost (whyS pl l k m) w) := by
  have hn := hr.2.1
  by_cases h : errS pl l = 1 ∨ withinB k 0 (l.length - 1) = false ∨ errS pl l = 6
  · exact why_early pl A c l k m w hr hc hn h
  · have he : errS pl l = 0 := by
      rcases err_cases pl l with ⟨h1, _⟩ | ⟨h1, _⟩ | ⟨h1, _⟩
      · exact absurd (.inl h1) h
      · exact absurd (.inr (.inr h1)) h
      · exact h1
    have hk : withinB k 0 (l.length - 1) = true := by
      cases e : withinB k 0 (l.length - 1)
      · exact absurd (.inr (.inl e)) h
      · rfl
    cases m
    · cases hb : (boundS false pl l k).2.2
      · exact why_least_none pl A c l k w hr hc hn he hk hb
      · exact why_least_is pl A c l k w hr hc hn he hk hb
    · cases hb : (boundS true pl l k).2.2
      · exact why_most_none pl A c l k w hr hc hn he hk hb
      · exact why_most_is pl A c l k w hr hc hn he hk hb

def balance_Why.f (a0_0 : Int) (l0_1 : List (S47)) (a1 : Int) (a2 : Bool) : Option (List Int × Int) := some (whyS a0_0 l0_1 a1 a2)
theorem balance_Why.calls (a0_0 : Int) (A0_1 : Option Addr) (c0_1 : Nat) (l0_1 : List (S47)) (a1 : Int) (a2 : Bool) (r1 : List Int) (r2 : Int) (w : World) (hr0_1 : Kd.C k47 w A0_1 l0_1.length l0_1) (hc0_1 : l0_1.length ≤ c0_1) (h : balance_Why.f a0_0 l0_1 a1 a2 = some (r1, r2)) :
    Calls Try.prog 17 #[.agg #[.int .i64 a0_0, .slice A0_1 l0_1.length c0_1], .int .i64 a1, .bool a2] w fun e w' => ∃ v0_ : Value, e = .returned (.tuple #[v0_, .int .i64 r2]) ∧ Kd.R (Kd.int .i64) 3 w' w.heap.size (fun _ => True) v0_ r1 ∧ Below w.heap.size w w' := by
  have e : whyS a0_0 l0_1 a1 a2 = (r1, r2) := by simpa [balance_Why.f] using h
  have := why_any a0_0 A0_1 c0_1 l0_1 a1 a2 w hr0_1 hc0_1
  rw [e] at this
  exact this
end Go.Proofs.Ytalgbihpidpblaa.Print
