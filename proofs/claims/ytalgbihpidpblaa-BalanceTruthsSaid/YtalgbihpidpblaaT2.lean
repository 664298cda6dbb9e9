/- The document's Truth. -/
import Derived.Test.YtalgbihpidpblaaT1
namespace Go.Proofs.Ytalgbihpidpblaa.Print
open Go.RowKit Go.Shelf Go.Proofs.YtalgbihpidpblaaW.PrintWords Go.Proofs.YtalgbihpidpblaaW.PrintLast Go.Proofs.YtalgbihpidpblaaW.PrintMore
set_option linter.unusedVariables false
set_option linter.unusedSimpArgs false

def truRef (pl : Int) (l : List S47) : List Int × Int := if isPlantB pl l = true then (match truFrom l l [] with | [] => ([], 6) | t :: _ => (t, 0)) else ([], 1)
theorem plant_call2 {pl : Int} {A : Option Addr} {c : Nat} {l : List S47} {r : Bool} {w : World} (h : isPlantB pl l = r) (hr : Kd.C k47 w A l.length l) (hc : l.length ≤ c) :
    Calls Try.prog 23 #[.agg #[.int .i64 pl, .slice A l.length c]] w fun e w' => e = .returned (.bool r) ∧ Below w.heap.size w w' := by subst h; exact Plant_any _ _ _ _ _ hr hc
theorem truths_top (pl : Int) (A : Option Addr) (c : Nat) (l : List S47) (hp : isPlantB pl l = true) (w W : World) (hr : Kd.C k47 w A l.length l) (hc : l.length ≤ c) (hB : Below w.heap.size w W) (hcap : cnt l ≤ 1099511627776) :
    Calls Try.prog 30 #[.agg #[.int .i64 pl, .slice A l.length c], .slice none 0 0, .slice none 0 0] W (TruPost w W (fun _ => True) (.slice none 0 0) (truFrom l l [])) := by
  have := truths_any pl A c l hp w hr hc l.length [] (by simp) W (fun _ => True) (fun _ => False) none none 0 0 [] hB (Kd.R_nil _ _ _ _ _) (fun _ h => h.elim) (Kd.R_nil _ _ _ _ _) (fun _ _ => trivial) (by simpa using hcap)
  simpa using this

set_option maxHeartbeats 4000000 in
set_option maxRecDepth 100000 in
theorem Truth_any (pl : Int) (A : Option Addr) (c : Nat) (l : List S47) (w : World) (hr : Kd.C k47 w A l.length l) (hc : l.length ≤ c) (hcap : isPlantB pl l = true → cnt l ≤ 1099511627776) :
    Calls Try.prog 12 #[.agg #[.int .i64 pl, .slice A l.length c]] w (WhyPost (truRef pl l) w) := by
  have HR := Aside0.mk hr
  have HC := Aside0.mk hcap
  clear hr hcap
  unfold truRef
  cases hp : isPlantB pl l with
  | false =>
    rw [if_neg (by decide)]
    have HP := Aside0.mk hp
    clear hp
    go_enter Try.func12, Try.ntmps12
    go_wp2_with (go_at_call 23; refine (plant_call2 HP.out (Kd.C_below HR.out (below_alloc (Below.refl _ _) _)) hc).mono ?_; rintro e W1 ⟨rfl, hb⟩; have HB1 := Aside0.mk (bl_next (below_alloc (Below.refl w.heap.size w) _) hb); clear hb)
    go_ret2
    exact ⟨_, rfl, Kd.R_nil _ _ _ _ _, HB1.out⟩
  | true =>
    rw [if_pos rfl]
    have hC := HC.out hp
    have HP := Aside0.mk hp
    clear hp
    cases hT : truFrom l l [] with
    | nil =>
      have HT := Aside0.mk hT
      clear hT
      go_enter Try.func12, Try.ntmps12
      go_wp2_with (first
        | (go_at_call 23; refine (plant_call2 HP.out (Kd.C_below HR.out (below_alloc (Below.refl _ _) _)) hc).mono ?_; rintro e W1 ⟨rfl, hb⟩; have HB1 := Aside0.mk (bl_next (below_alloc (Below.refl w.heap.size w) _) hb); have BP1 := Aside0.mk (blk_below (blk_new w (.cells #[.int .i64 pl, .slice A l.length c] 24)) hb); have s0 := cell_two BP1.out 0 rfl; have s1 := cell_two BP1.out 1 rfl; clear hb)
        | (go_at_call 30; refine (truths_top pl A c l HP.out w _ HR.out hc HB1.out hC).mono ?_; rintro e W2 ⟨v, rfl, hR, hb, _, _⟩; rw [HT.out] at hR; obtain ⟨A2, c2, rfl⟩ := Kd.R_slice hR; have HB2 := Aside0.mk hb; clear hR hb s0 s1))
      go_ret2
      exact ⟨_, rfl, Kd.R_nil _ _ _ _ _, HB2.out⟩
    | cons t r =>
      have HT := Aside0.mk hT
      clear hT
      go_enter Try.func12, Try.ntmps12
      go_wp2_with (first
        | (go_at_call 23; refine (plant_call2 HP.out (Kd.C_below HR.out (below_alloc (Below.refl _ _) _)) hc).mono ?_; rintro e W1 ⟨rfl, hb⟩; have HB1 := Aside0.mk (bl_next (below_alloc (Below.refl w.heap.size w) _) hb); have BP1 := Aside0.mk (blk_below (blk_new w (.cells #[.int .i64 pl, .slice A l.length c] 24)) hb); have s0 := cell_two BP1.out 0 rfl; have s1 := cell_two BP1.out 1 rfl; clear hb)
        | (go_at_call 30; refine (truths_top pl A c l HP.out w _ HR.out hc HB1.out hC).mono ?_; rintro e W2 ⟨v, rfl, hR, hb, _, _⟩; rw [HT.out] at hR; obtain ⟨gv, cv, rfl, hge, hgl, _⟩ := Kd.R_form hR (by simp); obtain ⟨ce, _, ⟨ve, hce, hve⟩, hcell, _⟩ := Kd.R_elem hR ([] : List Int) 0 (by decide) (by simp); subst hce; obtain ⟨At, ct, hva⟩ := Kd.R_slice hve; subst hva; have t0 : W2.cell? ⟨gv, 0, none⟩ = some (.slice At t.length ct) := hcell 0 _ rfl; have HV : Aside0 ((Kd.int .i64).R 3 W2 w.heap.size (fun _ => True) (.slice At t.length ct) t) := ⟨Kd.R_mono hve (fun _ _ => trivial)⟩; have HB2 := Aside0.mk hb; clear hR hb s0 s1 hve hcell))
      go_ret2
      exact ⟨_, rfl, HV.out, HB2.out⟩

def gasworksref04_Truth.f (a0_0 : Int) (l0_1 : List (S47)) : Option (List Int × Int) := if isPlantB a0_0 l0_1 = true ∧ 1099511627776 < cnt l0_1 then none else some (truRef a0_0 l0_1)
theorem gasworksref04_Truth.calls (a0_0 : Int) (A0_1 : Option Addr) (c0_1 : Nat) (l0_1 : List (S47)) (r1 : List Int) (r2 : Int) (w : World) (hr0_1 : Kd.C k47 w A0_1 l0_1.length l0_1) (hc0_1 : l0_1.length ≤ c0_1) (h : gasworksref04_Truth.f a0_0 l0_1 = some (r1, r2)) :
    Calls Try.prog 12 #[.agg #[.int .i64 a0_0, .slice A0_1 l0_1.length c0_1]] w fun e w' => ∃ v0_ : Value, e = .returned (.tuple #[v0_, .int .i64 r2]) ∧ Kd.R (Kd.int .i64) 3 w' w.heap.size (fun _ => True) v0_ r1 ∧ Below w.heap.size w w' := by
  unfold gasworksref04_Truth.f at h
  split at h
  · cases h
  · rename_i hn
    have e : truRef a0_0 l0_1 = (r1, r2) := by simpa using h
    have := Truth_any a0_0 A0_1 c0_1 l0_1 w hr0_1 hc0_1 (fun hp => by
      rcases Nat.lt_or_ge 1099511627776 (cnt l0_1) with h1 | h1
      · exact absurd ⟨hp, h1⟩ hn
      · exact h1)
    rw [e] at this
    exact this
end Go.Proofs.Ytalgbihpidpblaa.Print
