/- The company settles: what is due first, then the oldest arrears. -/
import Derived.Test.YtnammdkpejocmaaSC
import Derived.Laws.MakeOwn
namespace Go.Proofs.Ytnammdkpejocmaa.Print
open Go.RowKit Go.Proofs.YtnammdkpejocmaaW.PrintWords Go.Proofs.YtnammdkpejocmaaW.PrintLast Go.Proofs.YtnammdkpejocmaaW.PrintMore
set_option linter.unusedVariables false
set_option linter.unusedSimpArgs false
theorem max2_mx (k k' : IntKind) (x y : Int) : Builtin.max2 (.int k x) (.int k' y) = pure (.int k (mx x y)) := max2_int k k' x y
theorem min2_mn (k k' : IntKind) (x y : Int) : Builtin.min2 (.int k x) (.int k' y) = pure (.int k (mn x y)) := min2_int k k' x y
attribute [local go_sem] max2_mx min2_mn max_two min_two

def payL : List Int → Int → List Int
  | [], _ => []
  | x :: r, p => (x - mn p x) :: payL r (p - mn p x)
def payR : List Int → Int → Int
  | [], p => p
  | x :: r, p => payR r (p - mn p x)
theorem payL_len : ∀ (l : List Int) (p : Int), (payL l p).length = l.length
  | [], _ => rfl
  | x :: r, p => by simp only [payL, List.length_cons, payL_len r]
theorem payL_append : ∀ (a b : List Int) (p : Int), payL (a ++ b) p = payL a p ++ payL b (payR a p)
  | [], b, p => by simp [payL, payR]
  | x :: r, b, p => by simp only [List.cons_append, payL, payR, payL_append r b]
theorem payR_append : ∀ (a b : List Int) (p : Int), payR (a ++ b) p = payR b (payR a p)
  | [], b, p => by simp [payR]
  | x :: r, b, p => by simp only [List.cons_append, payR, payR_append r b]
theorem payR_bounds : ∀ (l : List Int) (p : Int), (∀ x ∈ l, 0 ≤ x) → 0 ≤ p → 0 ≤ payR l p ∧ payR l p ≤ p
  | [], p, _, h => by simp only [payR]; omega
  | x :: r, p, hl, h => by
    have hx := hl x (by simp)
    have := payR_bounds r (p - mn p x) (fun y hy => hl y (by simp [hy])) (by unfold mn; split <;> omega)
    simp only [payR]
    have e : 0 ≤ mn p x := by unfold mn; split <;> omega
    omega
theorem payL_bounds (B : Int) : ∀ (l : List Int) (p : Int), (∀ x ∈ l, 0 ≤ x ∧ x ≤ B) → 0 ≤ p → ∀ x ∈ payL l p, 0 ≤ x ∧ x ≤ B
  | [], p, _, h => by simp [payL]
  | x :: r, p, hl, h => by
    have hx := hl x (by simp)
    intro y hy
    simp only [payL, List.mem_cons] at hy
    rcases hy with rfl | hy
    · unfold mn; split <;> omega
    · exact payL_bounds B r _ (fun z hz => hl z (by simp [hz])) (by unfold mn; split <;> omega) y hy
theorem rd_take_eq (l : List Int) (k : Nat) (h : k < l.length) : l.take (k + 1) = l.take k ++ [rd l (k : Int)] := by
  have e : rd l (k : Int) = l[k] := by simp [rd, List.getD_eq_getElem?_getD, h]
  rw [List.take_succ_eq_append_getElem h, e]
def nextL (arr : List Int) (due paid : Int) : List Int := payL arr (mx 0 (paid - due)) ++ [mx 0 (due - paid)]
def settleL (back : Int) (arr : List Int) (due paid : Int) : List Int := (nextL arr due paid).drop (mx 0 ((arr.length : Int) + 1 - back)).toNat

theorem R_make0 {ops : Array Oper} {rest : List Oper} {o : Oper} {a : Act} {Q : Exit → Act → World → Prop} {w0 W : World} (base : Nat) (hgd : o.guard = none) {N : Tmp} (hd : o.dst = some N) (x y : Operand) (ho : o.op = .makeSlice 65 x y) (n : Nat) (hx : a.eval x = .int .i64 0) (hy : a.eval y = .int .i64 ((n : Int) + 1)) (hn : n ≤ 1000)
    (HB : Below base w0 W) (hbase : base ≤ W.heap.size)
    (h : ∀ v1 w1, Kd.R (Kd.int .i64) 3 w1 base (fun _ => True) v1 [] → Below base w0 w1 → W.grownBy w1 none → wpList Try.prog ops Q rest (a.put o.dst v1) w1) : wpList Try.prog ops Q (o :: rest) a W := by
  obtain ⟨i0, hi, hz⟩ := Option.map_eq_some_iff.1 info3
  simp only [Prod.mk.injEq] at hz
  obtain ⟨hz0, hz1, hz2⟩ := hz
  obtain ⟨w', hr, ho', hg⟩ := run_make_own (w := W) (P := Try.prog) base 65 3 i0 _ 1 Try.underlying65 hi hz0 hz1 .i64 .i64 (n + 1) (by rw [hz2]; omega) (by simp [maxLen]; omega) hbase
  have e : ((n + 1 : Nat) : Int) = (n : Int) + 1 := by omega
  rw [e] at hr
  refine Kd.event_run (v := .slice (some ⟨W.heap.size, 0, none⟩) 0 (n + 1)) (w1 := w') hgd ?_ (h _ _ ⟨fun _ _ => trivial, [], ho', ?_⟩ (HB.grown hg hbase (fun k e => by cases e)) hg)
  · simp [execOp, ho, hx, hy, hr]
  · exact Reps.none _ _
end Go.Proofs.Ytnammdkpejocmaa.Print
