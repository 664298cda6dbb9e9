/- The places that prove an end of a flow (Why). -/
import Derived.Test.YtalgbihpidpblaaH9
import Derived.Test.YtalgbihpidpblaaPrint4
namespace Go.Proofs.Ytalgbihpidpblaa.Print
open Go.RowKit Go.Shelf Go.Proofs.YtalgbihpidpblaaW.PrintWords Go.Proofs.YtalgbihpidpblaaW.PrintLast Go.Proofs.YtalgbihpidpblaaW.PrintMore
set_option linter.unusedVariables false
set_option linter.unusedSimpArgs false

/-- The places of a set, rising. -/
def listS (s : Int) : List Int := ([0, 1, 2, 3, 4, 5, 6, 7] : List Int).filter fun p => hasB s p

theorem has_f (s p : Int) (h : 0 ≤ p) : balance_set_has.f s p = some (hasB s p) := by
  unfold balance_set_has.f hasB
  rw [if_pos h]

theorem list_step (k : Nat) (s : Int) (acc : List Int) (x : Int) (h0 : 0 ≤ x) (h8 : x < 8) (ha : acc.length ≤ 8) :
    balance_set_list.l0 (k + 1) s acc x = balance_set_list.l0 k s (if hasB s x = true then acc ++ [x] else acc) (x + 1) := by
  simp only [balance_set_list.l0]
  rw [if_pos h8, has_f _ _ h0, Option.bind_some, show wrap64 (x + 1) = x + 1 from by unfold wrap64; omega]
  split
  · rw [if_pos (by omega)]
  · rfl

def iota : Int → Nat → List Int
  | _, 0 => []
  | x, d + 1 => x :: iota (x + 1) d

theorem list_go (s : Int) : ∀ (d : Nat) (x : Int) (acc : List Int), x + d = 8 → 0 ≤ x → acc.length ≤ x → balance_set_list.l0 (d + 1) s acc x = some (acc ++ (iota x d).filter fun p => hasB s p)
  | 0, x, acc, h, h0, ha => by
    simp only [balance_set_list.l0, iota]
    rw [if_neg (by omega)]
    simp
  | d + 1, x, acc, h, h0, ha => by
    rw [list_step _ _ _ _ h0 (by omega) (by omega), list_go s d (x + 1) _ (by omega) (by omega) (by split <;> (try simp only [List.length_append, List.length_cons, List.length_nil]) <;> omega)]
    simp only [iota, List.filter_cons]
    split <;> simp

theorem list_eq (s : Int) : balance_set_list.f 9 s = some (listS s) := list_go s 8 0 [] (by omega) (by omega) (by simp)

def whyS (pl : Int) (l : List S47) (k : Int) (m : Bool) : List Int × Int :=
  if errS pl l = 1 then ([], 1) else if withinB k 0 (l.length - 1) = false then ([], 2) else if errS pl l = 6 then ([], 6) else if (boundS m pl l k).2.2 = true then (listS (boundS m pl l k).2.1, 0) else ([], 4)

def WhyPost (r : List Int × Int) (w : World) (e : Ending) (w' : World) : Prop := ∃ v0_ : Value, e = .returned (.tuple #[v0_, .int .i64 r.2]) ∧ Kd.R (Kd.int .i64) 3 w' w.heap.size (fun _ => True) v0_ r.1 ∧ Below w.heap.size w w'

theorem error_as (n : Int) (pl : Int) (A : Option Addr) (c : Nat) (l : List S47) (w : World) (hr : Kd.C k47 w A l.length l) (hc : l.length ≤ c) (he : errS pl l = n) :
    Calls Try.prog 28 #[.agg #[.int .i64 pl, .slice A l.length c]] w fun e w' => e = .returned (.int .i64 n) ∧ Below w.heap.size w w' := by
  subst he
  exact error_any pl A c l w hr hc

theorem err_cases (pl : Int) (l : List S47) : errS pl l = 1 ∧ isPlantB pl l = false ∨ errS pl l = 6 ∧ isPlantB pl l = true ∨ errS pl l = 0 ∧ isPlantB pl l = true := by
  unfold errS
  split
  · rename_i h
    split
    · exact .inr (.inl ⟨rfl, h⟩)
    · exact .inr (.inr ⟨rfl, h⟩)
  · rename_i h
    exact .inl ⟨rfl, by simpa using h⟩

set_option maxRecDepth 100000 in
set_option maxHeartbeats 2000000 in
theorem why_early (pl : Int) (A : Option Addr) (c : Nat) (l : List S47) (k : Int) (m : Bool) (w : World) (hr : Kd.C k47 w A l.length l) (hc : l.length ≤ c) (hn : l.length ≤ 9223372036854775807)
    (h : errS pl l = 1 ∨ withinB k 0 (l.length - 1) = false ∨ errS pl l = 6) :
    Calls Try.prog 17 #[.agg #[.int .i64 pl, .slice A l.length c], .int .i64 k, .bool m] w (WhyPost (whyS pl l k m) w) := by
  have HR := Aside0.mk hr
  clear hr
  have hx := blk_new w (.cells #[.int .i64 pl, .slice A l.length c] 24)
  have hb0 : Below w.heap.size w (w.alloc (.cells #[.int .i64 pl, .slice A l.length c] 24)) := (Below.refl _ _).alloc (Nat.le_refl _) _
  have HX := Aside0.mk hx
  have HB0 := Aside0.mk hb0
  clear hx hb0
  rcases err_cases pl l with ⟨he, hp⟩ | ⟨he, hp⟩ | ⟨he, hp⟩
  · have hs : whyS pl l k m = ([], 1) := by unfold whyS; rw [if_pos he]
    rw [hs]
    have HE := Aside0.mk he
    clear h hs he hp
    go_enter Try.func17, Try.ntmps17
    go_wp2_with (fail)
    go_step3
    go_wp2_with (go_at_call 28; refine (error_as 1 _ _ _ _ _ (Kd.C_below HR.out HB0.out) hc HE.out).mono ?_; rintro e W1 ⟨rfl, hb⟩; have HB1 := Aside0.mk (HB0.out.trans (hb.mono HB0.out.size)); clear hb)
    rw [Exit.noGoto_ret]
    go_ret2
    exact ⟨_, rfl, Kd.R_nil _ _ _ _ _, HB1.out⟩
  · by_cases hk : withinB k 0 (l.length - 1) = true
    · have hs : whyS pl l k m = ([], 6) := by unfold whyS; rw [if_neg (by omega), if_neg (by rw [hk]; simp), if_pos he]
      rw [hs]
      have HE := Aside0.mk he
      clear h hs he hp
      go_enter Try.func17, Try.ntmps17
      go_wp2_with (fail)
      go_step3
      go_wp2_with (first | (go_at_call 28; refine (error_as 6 _ _ _ _ _ (Kd.C_below HR.out HB0.out) hc HE.out).mono ?_; rintro e W1 ⟨rfl, hb⟩; have s0 := (hb.cell (p := ⟨w.heap.size, 0, none⟩) (by simp)).trans (cell_two HX.out 0 rfl); have s1 := (hb.cell (p := ⟨w.heap.size, 1, none⟩) (by simp)).trans (cell_two HX.out 1 rfl); have HB1 := Aside0.mk (HB0.out.trans (hb.mono HB0.out.size)); clear hb) | (go_at_call 31; refine (within_any _ _ _ _).mono ?_; rintro e W2 ⟨rfl, hq⟩; obtain rfl := hq.symm))
      rw [Exit.noGoto_ret]
      go_ret2
      exact ⟨_, rfl, Kd.R_nil _ _ _ _ _, HB1.out⟩
    · have hk' : withinB k 0 (l.length - 1) = false := by simpa using hk
      have hs : whyS pl l k m = ([], 2) := by unfold whyS; rw [if_neg (by omega), if_pos hk']
      rw [hs]
      have HE := Aside0.mk he
      clear h hs he hp hk
      go_enter Try.func17, Try.ntmps17
      go_wp2_with (fail)
      go_step3
      go_wp2_with (first | (go_at_call 28; refine (error_as 6 _ _ _ _ _ (Kd.C_below HR.out HB0.out) hc HE.out).mono ?_; rintro e W1 ⟨rfl, hb⟩; have s0 := (hb.cell (p := ⟨w.heap.size, 0, none⟩) (by simp)).trans (cell_two HX.out 0 rfl); have s1 := (hb.cell (p := ⟨w.heap.size, 1, none⟩) (by simp)).trans (cell_two HX.out 1 rfl); have HB1 := Aside0.mk (HB0.out.trans (hb.mono HB0.out.size)); clear hb) | (go_at_call 31; refine (within_any _ _ _ _).mono ?_; rintro e W2 ⟨rfl, hq⟩; obtain rfl := hq.symm))
      rw [Exit.noGoto_ret]
      go_ret2
      exact ⟨_, rfl, Kd.R_nil _ _ _ _ _, HB1.out⟩
  · have hk' : withinB k 0 (l.length - 1) = false := by
      rcases h with h | h | h
      · omega
      · exact h
      · omega
    have hs : whyS pl l k m = ([], 2) := by unfold whyS; rw [if_neg (by omega), if_pos hk']
    rw [hs]
    have HE := Aside0.mk he
    clear h hs he hp
    go_enter Try.func17, Try.ntmps17
    go_wp2_with (fail)
    go_step3
    go_wp2_with (first | (go_at_call 28; refine (error_as 0 _ _ _ _ _ (Kd.C_below HR.out HB0.out) hc HE.out).mono ?_; rintro e W1 ⟨rfl, hb⟩; have s0 := (hb.cell (p := ⟨w.heap.size, 0, none⟩) (by simp)).trans (cell_two HX.out 0 rfl); have s1 := (hb.cell (p := ⟨w.heap.size, 1, none⟩) (by simp)).trans (cell_two HX.out 1 rfl); have HB1 := Aside0.mk (HB0.out.trans (hb.mono HB0.out.size)); clear hb) | (go_at_call 31; refine (within_any _ _ _ _).mono ?_; rintro e W2 ⟨rfl, hq⟩; obtain rfl := hq.symm))
    rw [Exit.noGoto_ret]
    go_ret2
    exact ⟨_, rfl, Kd.R_nil _ _ _ _ _, HB1.out⟩
end Go.Proofs.Ytalgbihpidpblaa.Print
