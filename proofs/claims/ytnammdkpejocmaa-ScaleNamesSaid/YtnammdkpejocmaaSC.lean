/- What is wrong with an act and its years (errorOf, its closure, slices.ContainsFunc and IndexFunc at it). -/
import Derived.Test.YtnammdkpejocmaaSB
namespace Go.Proofs.Ytnammdkpejocmaa.Print
open Go.RowKit Go.Proofs.YtnammdkpejocmaaW.PrintWords Go.Proofs.YtnammdkpejocmaaW.PrintLast Go.Proofs.YtnammdkpejocmaaW.PrintMore
set_option linter.unusedVariables false
set_option linter.unusedSimpArgs false

theorem drawn_below {w w' : World} (h : Drawn0 w w') : Below w.heap.size w w' := h.below
def badY (y : S47) : Bool := !withinB y.f0 0 100000 || !withinB y.f1 0 1099511627776 || !withinB y.f2 (-1099511627776) 1099511627776
theorem within_below (a b c : Int) (w : World) : Calls Try.prog 26 #[.int .i64 a, .int .i64 b, .int .i64 c] w fun e w' => e = .returned (.bool (withinB a b c)) ∧ Below w.heap.size w w' :=
  (within_any a b c w).mono fun _ _ h => ⟨h.1, h.2.below⟩

set_option maxHeartbeats 1000000 in
theorem bad_any (y : S47) (w : World) :
    Calls Try.prog 41 #[.agg #[.int .i64 y.f0, .int .i64 y.f1, .int .i64 y.f2]] w fun e w' => e = .returned (.bool (badY y)) ∧ Below w.heap.size w w' := by
  unfold badY
  have BP0 := Aside0.mk (blk_new w (.cells #[.int .i64 y.f0, .int .i64 y.f1, .int .i64 y.f2] 47))
  have HB0 := Aside0.mk (below_alloc (Below.refl w.heap.size w) (.cells #[.int .i64 y.f0, .int .i64 y.f1, .int .i64 y.f2] 47))
  by_cases h1 : withinB y.f0 0 100000 = true
  · by_cases h2 : withinB y.f1 0 1099511627776 = true
    · go_enter Try.func41, Try.ntmps41
      go_wp2_with (go_at_call 26; refine (within_any _ _ _ _).mono ?_; rintro e w' ⟨rfl, ⟨n, rfl⟩⟩)
      go_ret
      exact ⟨by first | (simp [*]; done) | (simp_all; done), by repeat (first | exact HB0.out | apply pw_below_drewN)⟩
    · have h2' : withinB y.f1 0 1099511627776 = false := by simpa using h2
      clear h2
      go_enter Try.func41, Try.ntmps41
      go_wp2_with (go_at_call 26; refine (within_any _ _ _ _).mono ?_; rintro e w' ⟨rfl, ⟨n, rfl⟩⟩)
      go_ret
      exact ⟨by first | (simp [*]; done) | (simp_all; done), by repeat (first | exact HB0.out | apply pw_below_drewN)⟩
  · have h1' : withinB y.f0 0 100000 = false := by simpa using h1
    clear h1
    go_enter Try.func41, Try.ntmps41
    go_wp2_with (go_at_call 26; refine (within_any _ _ _ _).mono ?_; rintro e w' ⟨rfl, ⟨n, rfl⟩⟩)
    go_ret
    exact ⟨by first | (simp [*]; done) | (simp_all; done), by repeat (first | exact HB0.out | apply pw_below_drewN)⟩
theorem rd_T47_eq (xs : List S47) (i : Nat) (h : i < xs.length) : rd_T47 xs i = xs[i] := by
  simp [rd_T47, List.getD_eq_getElem?_getD, h]
theorem any_take_snoc (l : List S47) (k : Nat) (h : k < l.length) : (l.take (k + 1)).any badY = ((l.take k).any badY || badY (rd_T47 l k)) := by
  rw [List.take_succ_eq_append_getElem h, rd_T47_eq _ _ h]
  simp only [List.any_append, List.any_cons, List.any_nil, Bool.or_false]
theorem any_take_true (l : List S47) (k : Nat) (h : (l.take k).any badY = true) : l.any badY = true := by
  rw [List.any_eq_true] at *
  obtain ⟨x, hx, h⟩ := h
  exact ⟨x, List.mem_of_mem_take hx, h⟩
def IndexPost (l : List S47) (w : World) (e : Ending) (w' : World) : Prop := (∃ i : Int, e = .returned (.int .i64 i) ∧ (decide (0 ≤ i) = l.any badY)) ∧ Below w.heap.size w w'
set_option maxHeartbeats 1000000 in
theorem index_bad (A : Option Addr) (c : Nat) (l : List S47) (w : World) (hr : Kd.C k47 w A l.length l) (hcc : l.length ≤ c) (hl : l.length ≤ 16) :
    Calls Try.prog 46 #[.slice A l.length c, .func (.func 41) #[] #[]] w (IndexPost l w) := by
  have HR := Aside0.mk hr
  clear hr
  go_enter Try.func46, Try.ntmps46
  go_wp2_with (fail)
  go_loopw [8] (fun i wr => ∃ k : Nat, i = .int .i64 (k : Int) ∧ k ≤ l.length ∧ Aside0 ((l.take k).any badY = false) ∧ Aside0 (Below w.heap.size w wr)) (fun i _ => l.length - (intOf i).toNat)
  case atStart => exact ⟨0, rfl, by omega, ⟨by simp⟩, ⟨Below.refl _ _⟩⟩
  case round =>
    obtain ⟨k, rfl, hk, HA, HB⟩ := hrel
    by_cases hlt : k < l.length
    · have hlt' : decide ((k : Int) < (l.length : Int)) = true := decide_eq_true (by omega)
      obtain ⟨ad, e, g0, g1, g2⟩ := at_T47 (Kd.C_below HR.out HB.out) k (by omega) (by omega)
      cases e
      simp only [Int.toNat_natCast] at g0 g1 g2
      have HS := Aside0.mk (any_take_snoc l k hlt)
      go_wp2_with (go_at_call 41; refine (bad_any (rd_T47 l k) _).mono ?_; rintro e w' ⟨rfl, hb⟩; have HB1 := Aside0.mk hb; clear hb)
      · have hbad : badY (rd_T47 l k) = true := by assumption
        go_ret
        refine ⟨⟨k, rfl, ?_⟩, bl_next' HB.out HB1.out⟩
        rw [any_take_true l (k + 1) (by rw [HS.out, hbad]; simp)]
        simp
      · have hbad : badY (rd_T47 l k) = false := by
          first | assumption | (have hh := ‹¬ (badY (rd_T47 l k) = true)›; simpa using hh)
        go_roundw
        case rel => exact ⟨k + 1, by go_num, by omega, ⟨by rw [HS.out, HA.out, hbad]; rfl⟩, ⟨bl_next' HB.out HB1.out⟩⟩
        case measure => simp [intOf]; omega
    · have hlt' : decide ((k : Int) < (l.length : Int)) = false := decide_eq_false (by omega)
      go_wp2_with (fail)
      go_ret
      refine ⟨⟨-1, rfl, ?_⟩, HB.out⟩
      have e : k = l.length := by omega
      have hA := HA.out
      rw [e, List.take_length] at hA
      rw [hA]
      rfl
set_option maxHeartbeats 1000000 in
theorem contains_bad (A : Option Addr) (c : Nat) (l : List S47) (w : World) (hr : Kd.C k47 w A l.length l) (hcc : l.length ≤ c) (hl : l.length ≤ 16) :
    Calls Try.prog 42 #[.slice A l.length c, .func (.func 41) #[] #[]] w fun e w' => e = .returned (.bool (l.any badY)) ∧ Below w.heap.size w w' := by
  have HR := Aside0.mk hr
  clear hr
  go_enter Try.func42, Try.ntmps42
  go_wp2_with (go_at_call 46; refine (index_bad _ _ _ _ HR.out hcc hl).mono ?_; rintro e w' ⟨⟨i, rfl, hi⟩, hb⟩; have HB1 := Aside0.mk hb; have HI := Aside0.mk hi; clear hb hi)
  go_ret
  exact ⟨by rw [← HI.out]; rfl, HB1.out⟩
end Go.Proofs.Ytnammdkpejocmaa.Print
