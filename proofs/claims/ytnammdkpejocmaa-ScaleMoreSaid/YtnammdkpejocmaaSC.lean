/- What is wrong with an act and its years (errorOf, its closure, slices.ContainsFunc and IndexFunc at it). -/
import Derived.Test.YtnammdkpejocmaaSB
namespace Go.Proofs.Ytnammdkpejocmaa.Print
open Go.RowKit Go.Proofs.YtnammdkpejocmaaW.PrintWords Go.Proofs.YtnammdkpejocmaaW.PrintLast Go.Proofs.YtnammdkpejocmaaW.PrintMore
set_option linter.unusedVariables false
set_option linter.unusedSimpArgs false

theorem drawn_below {w w' : World} (h : Drawn0 w w') : Below w.heap.size w w' := h.below
def badY (y : S47) : Bool := !withinB y.f0 0 100000 || !withinB y.f1 0 1099511627776 || !withinB y.f2 (-1099511627776) 1099511627776
theorem within_below (a b c : Int) (w : World) : Calls Try.prog 26 #[.int .i64 a, .int .i64 b, .int .i64 c] w fun e w' => e = .returned (.bool (withinB a b c)) ∧ Below w.heap.size w w' :=
  (within_any a b c w).mono fun _ _ h => ⟨h.1, h.2.below⟩

set_option maxHeartbeats 1000000 in
theorem bad_any (y : S47) (w : World) :
    Calls Try.prog 41 #[.agg #[.int .i64 y.f0, .int .i64 y.f1, .int .i64 y.f2]] w fun e w' => e = .returned (.bool (badY y)) ∧ Below w.heap.size w w' := by
  unfold badY
  have BP0 := Aside0.mk (blk_new w (.cells #[.int .i64 y.f0, .int .i64 y.f1, .int .i64 y.f2] 47))
  have HB0 := Aside0.mk (below_alloc (Below.refl w.heap.size w) (.cells #[.int .i64 y.f0, .int .i64 y.f1, .int .i64 y.f2] 47))
  by_cases h1 : withinB y.f0 0 100000 = true
  · by_cases h2 : withinB y.f1 0 1099511627776 = true
    · go_enter Try.func41, Try.ntmps41
      go_wp2_with (go_at_call 26; refine (within_any _ _ _ _).mono ?_; rintro e w' ⟨rfl, ⟨n, rfl⟩⟩)
      go_ret
      exact ⟨by first | (simp [*]; done) | (simp_all; done), by repeat (first | exact HB0.out | apply pw_below_drewN)⟩
    · have h2' : withinB y.f1 0 1099511627776 = false := by simpa using h2
      clear h2
      go_enter Try.func41, Try.ntmps41
      go_wp2_with (go_at_call 26; refine (within_any _ _ _ _).mono ?_; rintro e w' ⟨rfl, ⟨n, rfl⟩⟩)
      go_ret
      exact ⟨by first | (simp [*]; done) | (simp_all; done), by repeat (first | exact HB0.out | apply pw_below_drewN)⟩
  · have h1' : withinB y.f0 0 100000 = false := by simpa using h1
    clear h1
    go_enter Try.func41, Try.ntmps41
    go_wp2_with (go_at_call 26; refine (within_any _ _ _ _).mono ?_; rintro e w' ⟨rfl, ⟨n, rfl⟩⟩)
    go_ret
    exact ⟨by first | (simp [*]; done) | (simp_all; done), by repeat (first | exact HB0.out | apply pw_below_drewN)⟩
theorem rd_T47_eq (xs : List S47) (i : Nat) (h : i < xs.length) : rd_T47 xs i = xs[i] := by
  simp [rd_T47, List.getD_eq_getElem?_getD, h]
theorem any_take_snoc (l : List S47) (k : Nat) (h : k < l.length) : (l.take (k + 1)).any badY = ((l.take k).any badY || badY (rd_T47 l k)) := by
  rw [List.take_succ_eq_append_getElem h, rd_T47_eq _ _ h]
  simp only [List.any_append, List.any_cons, List.any_nil, Bool.or_false]
theorem any_take_true (l : List S47) (k : Nat) (h : (l.take k).any badY = true) : l.any badY = true := by
  rw [List.any_eq_true] at *
  obtain ⟨x, hx, h⟩ := h
  exact ⟨x, List.mem_of_mem_take hx, h⟩
def IndexPost (l : List S47) (w : World) (e : Ending) (w' : World) : Prop := (∃ i : Int, e = .returned (.int .i64 i) ∧ (decide (0 ≤ i) = l.any badY)) ∧ Below w.heap.size w w'
set_option maxHeartbeats 1000000 in
theorem index_bad (A : Option Addr) (c : Nat) (l : List S47) (w : World) (hr : Kd.C k47 w A l.length l) (hcc : l.length ≤ c) (hl : l.length ≤ 16) :
    Calls Try.prog 46 #[.slice A l.length c, .func (.func 41) #[] #[]] w (IndexPost l w) := by
  have HR := Aside0.mk hr
  clear hr
  go_enter Try.func46, Try.ntmps46
  go_wp2_with (fail)
  go_loopw [8] (fun i wr => ∃ k : Nat, i = .int .i64 (k : Int) ∧ k ≤ l.length ∧ Aside0 ((l.take k).any badY = false) ∧ Aside0 (Below w.heap.size w wr)) (fun i _ => l.length - (intOf i).toNat)
  case atStart => exact ⟨0, rfl, by omega, ⟨by simp⟩, ⟨Below.refl _ _⟩⟩
  case round =>
    obtain ⟨k, rfl, hk, HA, HB⟩ := hrel
    by_cases hlt : k < l.length
    · have hlt' : decide ((k : Int) < (l.length : Int)) = true := decide_eq_true (by omega)
      obtain ⟨ad, e, g0, g1, g2⟩ := at_T47 (Kd.C_below HR.out HB.out) k (by omega) (by omega)
      cases e
      simp only [Int.toNat_natCast] at g0 g1 g2
      have HS := Aside0.mk (any_take_snoc l k hlt)
      go_wp2_with (go_at_call 41; refine (bad_any (rd_T47 l k) _).mono ?_; rintro e w' ⟨rfl, hb⟩; have HB1 := Aside0.mk hb; clear hb)
      · have hbad : badY (rd_T47 l k) = true := by assumption
        go_ret
        refine ⟨⟨k, rfl, ?_⟩, bl_next' HB.out HB1.out⟩
        rw [any_take_true l (k + 1) (by rw [HS.out, hbad]; simp)]
        simp
      · have hbad : badY (rd_T47 l k) = false := by
          first | assumption | (have hh := ‹¬ (badY (rd_T47 l k) = true)›; simpa using hh)
        go_roundw
        case rel => exact ⟨k + 1, by go_num, by omega, ⟨by rw [HS.out, HA.out, hbad]; rfl⟩, ⟨bl_next' HB.out HB1.out⟩⟩
        case measure => simp [intOf]; omega
    · have hlt' : decide ((k : Int) < (l.length : Int)) = false := decide_eq_false (by omega)
      go_wp2_with (fail)
      go_ret
      refine ⟨⟨-1, rfl, ?_⟩, HB.out⟩
      have e : k = l.length := by omega
      have hA := HA.out
      rw [e, List.take_length] at hA
      rw [hA]
      rfl
set_option maxHeartbeats 1000000 in
theorem contains_bad (A : Option Addr) (c : Nat) (l : List S47) (w : World) (hr : Kd.C k47 w A l.length l) (hcc : l.length ≤ c) (hl : l.length ≤ 16) :
    Calls Try.prog 42 #[.slice A l.length c, .func (.func 41) #[] #[]] w fun e w' => e = .returned (.bool (l.any badY)) ∧ Below w.heap.size w w' := by
  have HR := Aside0.mk hr
  clear hr
  go_enter Try.func42, Try.ntmps42
  go_wp2_with (go_at_call 46; refine (index_bad _ _ _ _ HR.out hcc hl).mono ?_; rintro e w' ⟨⟨i, rfl, hi⟩, hb⟩; have HB1 := Aside0.mk hb; have HI := Aside0.mk hi; clear hb hi)
  go_ret
  exact ⟨by rw [← HI.out]; rfl, HB1.out⟩
end Go.Proofs.Ytnammdkpejocmaa.Print

namespace Go.Proofs.Ytnammdkpejocmaa.Print
open Go.RowKit Go.Proofs.YtnammdkpejocmaaW.PrintWords Go.Proofs.YtnammdkpejocmaaW.PrintLast Go.Proofs.YtnammdkpejocmaaW.PrintMore
set_option linter.unusedVariables false
set_option linter.unusedSimpArgs false

def errY (a : S23) (l : List S47) : Int := if actB a = true then (if 16 < l.length then 3 else if l.any badY = true then 2 else 0) else 1
set_option maxHeartbeats 2000000 in
theorem error_any (a : S23) (A : Option Addr) (c : Nat) (l : List S47) (w : World) (hr : Kd.C k47 w A l.length l) (hc : l.length ≤ c) :
    Calls Try.prog 32 #[actV a, .slice A l.length c] w fun e w' => e = .returned (.int .i64 (errY a l)) ∧ Below w.heap.size w w' := by
  have HR := Aside0.mk hr
  have BP0 := Aside0.mk (blk_new w (.cells #[.int .i64 a.f0, .int .i64 a.f1, .int .i64 a.f2, .int .i64 a.f3, .int .i64 a.f4, .int .i64 a.f5] 23))
  have HB0 := Aside0.mk (below_alloc (Below.refl w.heap.size w) (.cells #[.int .i64 a.f0, .int .i64 a.f1, .int .i64 a.f2, .int .i64 a.f3, .int .i64 a.f4, .int .i64 a.f5] 23))
  clear hr
  by_cases h1 : actB a = true
  · by_cases h2 : 16 < l.length
    · have hd : decide ((16 : Int) < (l.length : Int)) = true := decide_eq_true (by omega)
      have HE : Aside0 ((3 : Int) = errY a l) := ⟨by unfold errY; rw [if_pos h1, if_pos h2]⟩
      clear h2
      go_enter Try.func32, Try.ntmps32
      go_wp2_with (go_at_call 25; refine (isAct_any a _).mono ?_; rintro e w' ⟨rfl, hb⟩; have HB1 := Aside0.mk (bl_next' HB0.out hb); clear hb)
      go_ret
      exact ⟨ret_int HE.out, HB1.out⟩
    · have hd : decide ((16 : Int) < (l.length : Int)) = false := decide_eq_false (by omega)
      have h16 : l.length ≤ 16 := by omega
      by_cases h3 : l.any badY = true
      · have HE : Aside0 ((2 : Int) = errY a l) := ⟨by unfold errY; rw [if_pos h1, if_neg h2, if_pos h3]⟩
        clear h2
        go_enter Try.func32, Try.ntmps32
        go_wp2_with (first
          | (go_at_call 25; refine (isAct_any a _).mono ?_; rintro e w' ⟨rfl, hb⟩; have HB1 := Aside0.mk (bl_next' HB0.out hb); clear hb)
          | (go_at_call 42; refine (contains_bad _ _ _ _ (Kd.C_below HR.out HB1.out) hc h16).mono ?_; rintro e w' ⟨rfl, hb⟩; have HB2 := Aside0.mk (bl_next' HB1.out hb); clear hb))
        go_ret
        exact ⟨ret_int HE.out, HB2.out⟩
      · have HE : Aside0 ((0 : Int) = errY a l) := ⟨by unfold errY; rw [if_pos h1, if_neg h2, if_neg h3]⟩
        have h3' : l.any badY = false := by simpa using h3
        clear h2 h3
        go_enter Try.func32, Try.ntmps32
        go_wp2_with (first
          | (go_at_call 25; refine (isAct_any a _).mono ?_; rintro e w' ⟨rfl, hb⟩; have HB1 := Aside0.mk (bl_next' HB0.out hb); clear hb)
          | (go_at_call 42; refine (contains_bad _ _ _ _ (Kd.C_below HR.out HB1.out) hc h16).mono ?_; rintro e w' ⟨rfl, hb⟩; have HB2 := Aside0.mk (bl_next' HB1.out hb); clear hb))
        go_ret
        exact ⟨ret_int HE.out, HB2.out⟩
  · have HE : Aside0 ((1 : Int) = errY a l) := ⟨by unfold errY; rw [if_neg h1]⟩
    have h1' : actB a = false := by simpa using h1
    clear h1
    go_enter Try.func32, Try.ntmps32
    go_wp2_with (go_at_call 25; refine (isAct_any a _).mono ?_; rintro e w' ⟨rfl, hb⟩; have HB1 := Aside0.mk (bl_next' HB0.out hb); clear hb)
    go_ret
    exact ⟨ret_int HE.out, HB1.out⟩

/-! ### The company -/
def Arr (base : Nat) (W : World) (A : Option Addr) (xs : List Int) : Prop :=
  0 < xs.length → ∃ g o cs, A = some ⟨g, o, none⟩ ∧ base ≤ g ∧ W.heap[g]? = some (.cells cs 3 (0, 0)) ∧ ∀ i, i < xs.length → cs[o + i]? = some (.int .i64 (rd xs (i : Int)))
theorem Arr.at_ {base : Nat} {W : World} {A : Option Addr} {xs : List Int} (h : Arr base W A xs) (i : Nat) (hi : i < xs.length) : ∃ g o, A = some ⟨g, o, none⟩ ∧ W.cell? ⟨g, o + i, none⟩ = some (.int .i64 (rd xs (i : Int))) := by
  obtain ⟨g, o, cs, e, _, hb, hc⟩ := h (by omega)
  exact ⟨g, o, e, cell_two hb _ (hc i hi)⟩
theorem Arr.kept {base : Nat} {W W' : World} {A : Option Addr} {xs : List Int} (h : Arr base W A xs) (hk : ∀ (g : Nat) (cs : Array Value), W.heap[g]? = some (.cells cs 3 (0, 0)) → W'.heap[g]? = some (.cells cs 3 (0, 0))) : Arr base W' A xs := fun hp => by
  obtain ⟨g, o, cs, e, hb, h1, h2⟩ := h hp
  exact ⟨g, o, cs, e, hb, hk g cs h1, h2⟩
/-- A company at block P: its act, its balance, its arrears. -/
structure CompAt (base : Nat) (W : World) (P : Nat) (a : S23) (bal : Int) (A : Option Addr) (n c : Nat) (arr : List Int) : Prop where
  blk : W.heap[P]? = some (.cells #[.int .i64 a.f0, .int .i64 a.f1, .int .i64 a.f2, .int .i64 a.f3, .int .i64 a.f4, .int .i64 a.f5, .int .i64 bal, .slice A n c] 67 (0, 0))
  len : arr.length = n
  cap : n ≤ c
  arr : Arr base W A arr
  ge : base ≤ P
theorem CompAt.below {base : Nat} {W W' : World} {P : Nat} {a : S23} {bal : Int} {A : Option Addr} {n c : Nat} {arr : List Int} (h : CompAt base W P a bal A n c arr) (hb : Below W.heap.size W W') : CompAt base W' P a bal A n c arr where
  blk := blk_below h.blk hb
  len := h.len
  cap := h.cap
  arr := h.arr.kept (fun g cs hg => blk_below hg hb)
  ge := h.ge
theorem CompAt.drew {base : Nat} {W : World} {P : Nat} {a : S23} {bal : Int} {A : Option Addr} {n c : Nat} {arr : List Int} (h : CompAt base W P a bal A n c arr) : CompAt base W.drew P a bal A n c arr :=
  h.below (below_drew1 (Below.refl _ _))
def sumI : List Int → Int
  | [] => 0
  | x :: r => x + sumI r
theorem sumI_append : ∀ a b : List Int, sumI (a ++ b) = sumI a + sumI b
  | [], b => by simp [sumI]
  | x :: r, b => by simp only [List.cons_append, sumI, sumI_append r b]; omega
theorem sumI_take (l : List Int) (k : Nat) (h : k < l.length) : sumI (l.take (k + 1)) = sumI (l.take k) + rd l (k : Int) := by
  have e : rd l (k : Int) = l[k] := by simp [rd, List.getD_eq_getElem?_getD, h]
  rw [List.take_succ_eq_append_getElem h, sumI_append, e]
  simp [sumI]
theorem sumI_bounds (B : Int) : ∀ l : List Int, (∀ x ∈ l, 0 ≤ x ∧ x ≤ B) → 0 ≤ sumI l ∧ sumI l ≤ l.length * B
  | [], _ => by simp [sumI]
  | x :: r, h => by
    have h1 := h x (by simp)
    have h2 := sumI_bounds B r (fun y hy => h y (by simp [hy]))
    have e : ((x :: r).length : Int) * B = r.length * B + B := by simp only [List.length_cons]; rw [Int.natCast_add, Int.add_mul]; simp
    rw [e]
    simp only [sumI]
    omega
def dueP (a : S23) (y : S47) : Int := y.f1 * rateP a y.f0 / 10000
set_option maxHeartbeats 1000000 in
theorem owed_any (base : Nat) (W : World) (P : Nat) (a : S23) (bal : Int) (A : Option Addr) (n c : Nat) (arr : List Int) (h : CompAt base W P a bal A n c arr) (hn : n ≤ 100) (hb : ∀ x ∈ arr, 0 ≤ x ∧ x ≤ 1099511627776) :
    Calls Try.prog 37 #[.pointer (some ⟨P, 0, none⟩)] W fun e w' => e = .returned (.int .i64 (sumI arr)) ∧ W = w' := by
  have H := Aside0.mk h
  have c7 := cell_two h.blk 7 rfl
  have HL := Aside0.mk h.len
  have HB := Aside0.mk hb
  clear h hb
  go_enter Try.func37, Try.ntmps37
  go_wp2_with (fail)
  go_loop [2, 10] (fun s i => ∃ k : Nat, i = .int .i64 (k : Int) ∧ k ≤ n ∧ s = .int .i64 (sumI (arr.take k))) (fun _ i => n - (intOf i).toNat)
  case atStart => exact ⟨0, rfl, by omega, rfl⟩
  case round =>
    obtain ⟨k, rfl, hk, rfl⟩ := hrel
    by_cases hlt : k < n
    · have hlt' : decide ((k : Int) < (n : Int)) = true := decide_eq_true (by omega)
      obtain ⟨g, o, e, hc⟩ := H.out.arr.at_ k (by rw [HL.out]; exact hlt)
      subst e
      have HS := Aside0.mk (sumI_take arr k (by rw [HL.out]; exact hlt))
      have b1 := sumI_bounds 1099511627776 (arr.take (k + 1)) (fun x hx => HB.out x (List.mem_of_mem_take hx))
      have b2 : ((arr.take (k + 1)).length : Int) ≤ 100 := by rw [List.length_take]; omega
      have hw : wrap64 (sumI (arr.take k) + rd arr (k : Int)) = sumI (arr.take k) + rd arr (k : Int) := by
        have := HS.out
        unfold wrap64
        omega
      clear b1 b2
      go_wp2_with (fail)
      go_round
      case rel => exact ⟨k + 1, by go_num, by omega, by rw [HS.out, hw]⟩
      case measure => simp [intOf]; omega
    · have hlt' : decide ((k : Int) < (n : Int)) = false := decide_eq_false (by omega)
      have HE : Aside0 (sumI (arr.take k) = sumI arr) := ⟨by rw [List.take_of_length_le (by rw [HL.out]; omega)]⟩
      go_wp2_with (fail)
      go_ret
      exact ⟨ret_int HE.out, rfl⟩
end Go.Proofs.Ytnammdkpejocmaa.Print
