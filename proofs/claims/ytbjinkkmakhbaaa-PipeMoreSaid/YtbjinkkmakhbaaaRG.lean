/- A loop over an iterator that writes cells of its own between two rounds: the law for its caller. Ef: what the iterator does to the world; Kp: what a round keeps; Pre: which element may come next; S: what holds behind the last one. -/
import Derived.RangeFuncNested
import Derived.RangeFuncBound
import Derived.RangeFuncCalls
import Derived.RangeFuncLeaves
import Derived.RangeFuncFrom
import Derived.Shelf.Abstract
import Derived.Shelf.RegionOpen
import Derived.WalkKit
import Derived.OwnWalkIn
import Derived.TacticsInMore
import Derived.LoopNIn
import Derived.LoopIn
import Derived.OrdersHeld
import Derived.Deep.RegionHeld
import Derived.Deep.RegionHeld3
namespace Go.Proofs.Ytbjinkkmakhbaaa
open Go.RowKit Go.Shelf
set_option linter.unusedVariables false

def SeqEf {α : Type} (F : Fence) (n : Nat) (P : Program) (g : Nat) (lb : Array Value) (encs : α → Array Value) (Kp Ef : World → World → Prop) (Pre : List α → α → Prop) (S : List α → World → Prop) (Sp : List α → Prop) (W : World) : Prop :=
  ∀ (l : Nat) (J Jx : List α → World → Prop), (∀ s A B, J s A → Ef A B → J s B) → (∀ s A B, Jx s A → Ef A B → Jx s B) →
    (∀ pre x W1, J pre W1 → Pre pre x → YieldAt F (n - 1) P l (encs x) W1 fun e W' => (e = .returned (.bool true) ∧ J (pre ++ [x]) W' ∧ Kp W1 W') ∨ (e = .returned (.bool false) ∧ Jx (pre ++ [x]) W')) →
    J [] W → CallsIn F n P g (#[.func (.yield l) #[] #[]] ++ lb) W fun e W' => (∃ v, e = .returned v) ∧ ((∃ xs, S xs W' ∧ J xs W') ∨ (∃ pre, Sp pre ∧ Jx pre W'))

variable {F : Fence} {n : Nat} {P : Program}

theorem range_st {α : Type} {g : Operand} {ps : Array Tmp} {assign body : Code} {Q : Exit → Act → World → Prop} {a : Act} {w : World}
    (hro : F.round = none) (h1 : 1 ≤ n) {gf : Nat} {lb : Array Value} (hg : a.eval g = .func (.func gf) #[] lb) (hFg : F.fn gf) (eg : ∀ args w, (callFunc gf args).run P w = .ok (.enter gf args) w)
    {encs : α → Array Value} {Kp Ef : World → World → Prop} {Pre : List α → α → Prop} {S : List α → World → Prop} {Sp : List α → Prop}
    (hseq : ∀ W, w.grownBy W none → SeqEf F (n - 1) P gf lb encs Kp Ef Pre S Sp W)
    (hEk : ∀ (A B : World) (k : Nat) (o : Obj), Ef A B → A.heap[k]? = some o → o.isCells = false → B.heap[k]? = some o)
    (hKt : ∀ {A B C : World}, Kp A B → Kp B C → Kp A C) (hKb : ∀ (W : World) (l : Nat) (o o' : Obj), w.heap.size ≤ l → W.heap[l]? = some o → o.isCells = false → Kp W (W.putObj l o')) (hps : ∀ x, (encs x).size = ps.size)
    (I : List α → World → Prop) (Ix : Code → List α → World → Prop) (hI : OwnFrom w.heap.size I) (hIx : ∀ c, OwnFrom w.heap.size (Ix c)) (hIe : ∀ s A B, I s A → Ef A B → I s B) (hIxe : ∀ c s A B, Ix c s A → Ef A B → Ix c s B) (hS : OwnFrom w.heap.size S) (h0 : I [] w)
    (Ax : α → Act → World → Prop) (hAx : ∀ a', OwnFrom w.heap.size (fun x W => Ax x a' W))
    (hassign : ∀ (l : Nat) (pre : List α) (x : α) (W : World) (K : Act → World → Prop), I pre W → (∀ a' W', KeepsOthers W W' → Kp W W' → I pre W' → Ax x a' W' → K a' W') →
      assign.wpIn (F.inRound l) (n - 1 - 1) P (Exit.then K (fun _ _ _ => False)) { tmps := (ps.zip (encs x)).foldl (fun t (p, v) => t.setIfInBounds p v) a.tmps, defers := [] } W)
    (hbody : ∀ (l : Nat) (pre : List α) (x : α) (a' : Act) (W : World), I pre W → Ax x a' W → Pre pre x → body.wpIn (F.inRound l) (n - 1 - 1) P (ownPostK Kp I Ix (pre ++ [x]) W) a' W)
    (hdone : ∀ (D : Nat) (xs : List α) (W : World), w.heap.size ≤ D → S xs W → I xs W → W.heap[D]? = some (.deferred (some [])) → Q .normal { a with defers := { target := .collected D, args := #[] } :: a.defers } W)
    (hstop : ∀ (D : Nat) (c : Code) (pre : List α) (W : World), w.heap.size ≤ D → Sp pre → Ix c pre W → W.heap[D]? = some (.deferred (some [])) → c.wpIn F n P Q { a with defers := { target := .collected D, args := #[] } :: a.defers } W) :
    (Code.rangeFunc g ps assign body).wpIn F n P Q a w := by
  refine wpIn_rangeFunc fun fn hfn => ?_
  rw [hro]
  -- the loop's record L in the state st; its block and that of the deferred calls are the two that are laid ahead
  obtain ⟨L, hL⟩ : ∃ L : LoopState → Option Code → Loop, ∀ st pe, L st pe = { state := st, pending := pe, fn, tmps := a.tmps, params := ps, assign, body, defers := w.heap.size } := ⟨_, fun _ _ => rfl⟩
  have hW1 : w.grownBy ((w.alloc (.deferred (some []))).alloc (.loop (L .ready none))) none :=
    ⟨rfl, rfl, rfl, by simp; omega, fun i hi _ => by rw [Below.heap_alloc _ _ i (by simp; omega), Below.heap_alloc _ _ i hi]⟩
  have hLn : ((w.alloc (.deferred (some []))).alloc (.loop (L .ready none))).heap[w.heap.size + 1]? = some (.loop (L .ready none)) := by
    have := World.alloc_heap_new (w.alloc (.deferred (some []))) (.loop (L .ready none))
    rwa [World.size_alloc] at this
  have hDn : ((w.alloc (.deferred (some []))).alloc (.loop (L .ready none))).heap[w.heap.size]? = some (.deferred (some [])) :=
    (Below.heap_alloc _ _ _ (by simp)).trans (World.alloc_heap_new w _)
  have hIn : I [] ((w.alloc (.deferred (some []))).alloc (.loop (L .ready none))) := hI.alloc _ (hI.alloc _ h0)
  have hen : (Instr.enterLoop fn a.tmps ps assign body none).run P w = .ok (w.heap.size + 1, [{ target := .collected w.heap.size, args := #[] }]) ((w.alloc (.deferred (some []))).alloc (.loop (L .ready none))) := by
    rw [hL]; exact run_enterLoop_outer _ _ _ _ _
  generalize (w.alloc (.deferred (some []))).alloc (.loop (L .ready none)) = W1 at hW1 hLn hDn hIn hen
  refine ⟨w.heap.size + 1, _, W1, { target := .fn (.func gf) lb, args := #[.func (.yield (w.heap.size + 1)) #[] #[]] }, W1, gf, #[.func (.yield (w.heap.size + 1)) #[] #[]] ++ lb, W1, hen, ?_, ?_, ?_, fun _ => h1, ?_⟩
  · simp only [resolve, hg]
    simp [go_sem]
  · intro f' hf'
    simp [Target.leads] at hf'
    subst hf'
    exact hFg
  · simp [invoke, go_sem, eg]
  · have R : ∀ (W W' : World), Ef W W' → ∀ st pe, W.heap[w.heap.size + 1]? = some (.loop (L st pe)) → W'.heap[w.heap.size + 1]? = some (.loop (L st pe)) := fun W W' h st pe hl => hEk W W' _ _ h hl rfl
    have D : ∀ (W W' : World), Ef W W' → W.heap[w.heap.size]? = some (.deferred (some [])) → W'.heap[w.heap.size]? = some (.deferred (some [])) := fun W W' h hd => hEk W W' _ _ h hd rfl
    refine (hseq W1 hW1 (w.heap.size + 1)
      (fun pre W => I pre W ∧ W.heap[w.heap.size + 1]? = some (.loop (L .ready none)) ∧ W.heap[w.heap.size]? = some (.deferred (some [])))
      (fun pre W => ∃ c, Ix c pre W ∧ W.heap[w.heap.size + 1]? = some (.loop (L .done (some c))) ∧ W.heap[w.heap.size]? = some (.deferred (some [])))
      (fun s A B h he => ⟨hIe s A B h.1 he, R A B he _ _ h.2.1, D A B he h.2.2⟩)
      (fun s A B h he => by
        obtain ⟨c, h1, h2, h3⟩ := h
        exact ⟨c, hIxe c s A B h1 he, R A B he _ _ h2, D A B he h3⟩) ?_ ⟨hIn, hLn, hDn⟩).mono ?_
    · rintro pre x W ⟨hi, hl, hd⟩ hpre
      have hy := run_yield (P := P) (args := encs x) hl (by rw [hL]; exact hps x)
      rw [hL] at hy
      refine ⟨fn, _, assign, body, hy, roundIn_of_wpIn hfn (hassign _ pre x W _ hi fun a' W' hk hkp hi' hax => ?_)⟩
      have hl' := hk.same _ _ hl rfl
      have hd' := hk.same _ _ hd rfl
      have hlt : w.heap.size + 1 < W'.heap.size := (Array.getElem?_eq_some_iff.1 hl').1
      refine ⟨_, run_beginRound hl' (by rw [hL]), ?_⟩
      have hst : ({ L .ready none with state := .busy } : Loop) = L .busy none := by rw [hL, hL]
      rw [hst]
      have hl2 : (W'.putObj (w.heap.size + 1) (.loop (L .busy none))).heap[w.heap.size + 1]? = some (.loop (L .busy none)) := World.putObj_heap_same hlt
      have hd2 : (W'.putObj (w.heap.size + 1) (.loop (L .busy none))).heap[w.heap.size]? = some (.deferred (some [])) := (World.putObj_heap_other (by omega)).trans hd'
      have hk2 : Kp W (W'.putObj (w.heap.size + 1) (.loop (L .busy none))) := hKt hkp (hKb _ _ _ _ (by omega) hl' rfl)
      have hi2 := hI.putObj (.loop (L .busy none)) hi' (by omega) hl' rfl
      have ha2 := (hAx a').putObj (s := x) (.loop (L .busy none)) hax (by omega) hl' rfl
      refine wpIn_mono (hbody _ pre x a' _ hi2 ha2 hpre) ?_
      generalize W'.putObj (w.heap.size + 1) (.loop (L .busy none)) = W2 at hl2 hd2 hk2 hi2 ha2
      have fin : ∀ (j : Option Code) (W3 : World), KeepsOthers W2 W3 → ∃ st, (st = if j.isNone then LoopState.ready else LoopState.done) ∧
          (Instr.endRound (w.heap.size + 1) j).run P W3 = .ok (.bool j.isNone) (W3.putObj (w.heap.size + 1) (.loop (L st j))) ∧
          W3.heap[w.heap.size + 1]? = some (.loop (L .busy none)) ∧ (W3.putObj (w.heap.size + 1) (.loop (L st j))).heap[w.heap.size + 1]? = some (.loop (L st j)) ∧
          (W3.putObj (w.heap.size + 1) (.loop (L st j))).heap[w.heap.size]? = some (.deferred (some [])) := fun j W3 h3 => by
        have hl3 := h3.same _ _ hl2 rfl
        have he := run_endRound (P := P) j hl3
        have hst : ({ L .busy none with state := if j.isNone then .ready else .done, pending := j } : Loop) = L (if j.isNone then .ready else .done) j := by rw [hL, hL]
        rw [hst] at he
        exact ⟨_, rfl, he, hl3, World.putObj_heap_same (Array.getElem?_eq_some_iff.1 hl3).1, (World.putObj_heap_other (by omega)).trans (h3.same _ _ hd2 rfl)⟩
      have leave : ∀ (c : Code) (W3 : World), KeepsOthers W2 W3 → Ix c (pre ++ [x]) W3 → ∃ v W4, (Instr.endRound (w.heap.size + 1) (some c)).run P W3 = .ok v W4 ∧
          v = .bool false ∧ ∃ c, Ix c (pre ++ [x]) W4 ∧ W4.heap[w.heap.size + 1]? = some (.loop (L .done (some c))) ∧ W4.heap[w.heap.size]? = some (.deferred (some [])) := fun c W3 h3 hi3 => by
        obtain ⟨st, rfl, hr, hl3, hl4, hd4⟩ := fin (some c) W3 h3
        exact ⟨_, _, hr, rfl, c, (hIx c).putObj _ hi3 (by omega) hl3 rfl, hl4, hd4⟩
      rintro e a3 W3 hp
      cases e with
      | normal =>
        obtain ⟨h3, hkp3, hi3⟩ := hp
        obtain ⟨st, rfl, hr, hl3, hl4, hd4⟩ := fin none W3 h3
        exact ⟨_, _, hr, .inl ⟨rfl, ⟨hI.putObj _ hi3 (by omega) hl3 rfl, hl4, hd4⟩, hKt (hKt hk2 hkp3) (hKb _ _ _ _ (by omega) hl3 rfl)⟩⟩
      | ret =>
        obtain ⟨v, W4, hr, rfl, hx⟩ := leave _ W3 hp.1 hp.2
        exact ⟨_, _, hr, .inr ⟨rfl, hx⟩⟩
      | exit id =>
        obtain ⟨v, W4, hr, rfl, hx⟩ := leave _ W3 hp.1 hp.2
        exact ⟨_, _, hr, .inr ⟨rfl, hx⟩⟩
      | goto t =>
        obtain ⟨v, W4, hr, rfl, hx⟩ := leave _ W3 hp.1 hp.2
        exact ⟨_, _, hr, .inr ⟨rfl, hx⟩⟩
      | panic ch => exact hp.elim
      | outgrown => exact hp.elim
    · have en : ∀ (W2 : World) st pe, st ≠ .busy → W2.heap[w.heap.size + 1]? = some (.loop (L st pe)) → (Instr.endLoop (w.heap.size + 1)).run P W2 = .ok pe (W2.putObj (w.heap.size + 1) (.loop (L .exhausted pe))) := fun W2 st pe hs hl => by
        have he := run_endLoop (P := P) hl (by rw [hL]; exact hs)
        have hst : ({ L st pe with state := .exhausted } : Loop) = L .exhausted pe := by rw [hL, hL]
        rw [hst] at he
        rw [he, hL]
      rintro e W2 ⟨⟨v, rfl⟩, (⟨xs, hs, hi, hl, hd⟩ | ⟨pre, hsp, c, hi, hl, hd⟩)⟩
      · exact ⟨none, _, en W2 .ready none (by simp) hl, hdone _ xs _ (Nat.le_refl _) (hS.putObj _ hs (by omega) hl rfl) (hI.putObj _ hi (by omega) hl rfl) ((World.putObj_heap_other (by omega)).trans hd)⟩
      · exact ⟨some c, _, en W2 .done (some c) (by simp) hl, hstop _ c pre _ (Nat.le_refl _) hsp ((hIx c).putObj _ hi (by omega) hl rfl) ((World.putObj_heap_other (by omega)).trans hd)⟩
/-! ### A statement of a round, by the laws outside of rounds: no operation of it defers -/
def noDefers (l : List Oper) : Bool := l.all fun o => match o.op with | .defer _ => false | _ => true
theorem noDefers_cons {o : Oper} {l : List Oper} (h : noDefers (o :: l) = true) : (∀ c, o.op ≠ .defer c) ∧ noDefers l = true := by
  unfold noDefers at *
  rw [List.all_cons, Bool.and_eq_true] at h
  refine ⟨fun c e => ?_, h.2⟩
  have := h.1
  rw [e] at this
  cases this
theorem operIn_of_oper {ops : Array Oper} {o : Oper} {K : Act → World → Prop} {Q : Exit → Act → World → Prop} {a : Act} {w : World} {l m : Nat} (hd : ∀ c, o.op ≠ .defer c) (h : o.wp P a w K Q) : o.wpIn (Fence.wide.inRound l) m P a w K Q := by
  unfold Oper.wpIn
  refine ⟨fun _ _ => trivial, ?_⟩
  have hs : o.semAt (Fence.wide.inRound l).round a.eval = execOp a.eval o := Oper.semAt_eq _ _ _ hd
  rw [hs]
  unfold Oper.wp at h
  generalize (execOp a.eval o).run P w = r at *
  cases r with
  | ok x w' =>
    cases x <;> simp only [Oper.upon, Oper.uponIn] at h ⊢
    case value => exact h
    case skip => exact h
    case defer => exact h
    case enter f args => exact ⟨fun h => by simp [Fence.wide] at h, CallsIn.inRound l (callsIn_wide.2 h)⟩
    case row row args =>
      refine ⟨fun h => by simp [Fence.wide] at h, fun c cs _ => ?_⟩
      obtain ⟨v, w', hr, hs⟩ := h c cs
      exact ⟨v, w', hr, stepsIn_wide.2 hs⟩
  | halt x w' =>
    cases x <;> simp only [Oper.upon, Oper.uponIn] at h ⊢
    case panic => exact h
theorem listIn_of_list {ops : Array Oper} {Q : Exit → Act → World → Prop} {l m : Nat} (hout : ¬ LetsOut Q) : ∀ (rest : List Oper) (a : Act) (w : World), noDefers rest = true → wpList P ops Q rest a w → wpListIn (Fence.wide.inRound l) m P ops Q rest a w
  | [], _, _, _, h => h
  | o :: rest, a, w, hd, h => by
    obtain ⟨hd1, hd2⟩ := noDefers_cons hd
    unfold wpList at h
    unfold wpListIn
    by_cases hw : Region.wanted o (yielded ops a.tmps) = true
    · simp only [hw, if_true] at h ⊢
      rcases h with h | ⟨_, h⟩
      · exact operIn_of_oper (ops := ops) hd1 (Oper.wp_mono (fun a' w' h' => listIn_of_list hout rest a' w' hd2 h') h)
      · exact absurd h hout
    · simp only [hw] at h ⊢
      exact ⟨fun _ _ => trivial, listIn_of_list hout rest _ _ hd2 h⟩
theorem round_list {id l m : Nat} {ops : Array Oper} {Q : Exit → Act → World → Prop} {a : Act} {w : World} (hout : ¬ LetsOut Q) (hd : noDefers ops.toList = true) (h : wpList P ops Q ops.toList a w) : (Code.region id ops false).wpIn (Fence.wide.inRound l) m P Q a w := by
  refine wpIn_region ?_
  have e : wpOpsIn (Fence.wide.inRound l) m P ops Q (List.range ops.size) = wpListIn (Fence.wide.inRound l) m P ops Q ops.toList := by
    have := wpOpsIn_eq_wpListIn (F := Fence.wide.inRound l) (n := m) (P := P) (ops := ops) (Q := Q) ops.toList 0 (fun j => by simp)
    rwa [← List.range_eq_range', Array.length_toList] at this
  rw [e]
  exact listIn_of_list hout _ _ _ hd h
end Go.Proofs.Ytbjinkkmakhbaaa

namespace Go.Proofs.Ytbjinkkmakhbaaa.Print
open Go.RowKit
set_option linter.unusedVariables false
set_option linter.unusedSimpArgs false

def noDefersA (ops : Array Oper) : Bool := ops.toList.all fun o => match o.op with | .defer _ => false | _ => true
theorem noDefersA_spec {ops : Array Oper} (h : noDefersA ops = true) {i : Nat} {o : Oper} (ho : ops[i]? = some o) : ∀ c, o.op ≠ .defer c := by
  intro c e
  unfold noDefersA at h
  rw [List.all_eq_true] at h
  have hm : o ∈ ops.toList := by
    rw [Array.mem_toList_iff]
    exact Array.mem_of_getElem? ho
  have := h o hm
  rw [e] at this
  cases this

theorem wpOpIn_of_wpOp {P : Program} {ops : Array Oper} {Q : Exit → Act → World → Prop} {l n : Nat} (hout : ¬ LetsOut Q) (hd : noDefersA ops = true) {i : Nat} {K : Act → World → Prop} {a : Act} {w : World}
    (h : wpOp P ops Q i K a w) : wpOpIn (Fence.wide.inRound l) n P ops Q i K a w := by
  unfold wpOp at h
  unfold wpOpIn
  cases ho : ops[i]? with
  | none => simpa [ho] using h
  | some o =>
    simp only [ho] at h ⊢
    by_cases hw : Region.wanted o (yielded ops a.tmps) = true
    · simp only [hw, if_true] at h ⊢
      rcases h with h | ⟨_, h⟩
      · refine ⟨fun _ _ => trivial, ?_⟩
        have hs : o.semAt (Fence.wide.inRound l).round a.eval = execOp a.eval o := Oper.semAt_eq _ _ _ (noDefersA_spec hd ho)
        rw [hs]
        unfold Oper.wp at h
        generalize (execOp a.eval o).run P w = r at *
        cases r with
        | ok x w' =>
          cases x <;> simp only [Oper.upon, Oper.uponIn] at h ⊢
          case value => exact h
          case skip => exact h
          case defer => exact h
          case enter f args => exact ⟨fun h => by simp [Fence.wide] at h, CallsIn.inRound l (callsIn_wide.2 h)⟩
          case row row args =>
            refine ⟨fun h => by simp [Fence.wide] at h, fun c cs _ => ?_⟩
            obtain ⟨v, w', hr, hs⟩ := h c cs
            exact ⟨v, w', hr, stepsIn_wide.2 hs⟩
        | halt x w' =>
          cases x <;> simp only [Oper.upon, Oper.uponIn] at h ⊢
          case panic => exact h
      · exact absurd h hout
    · simp only [hw] at h ⊢
      exact ⟨fun _ _ => trivial, h⟩

theorem wpAnyIn_of_wpAny {P : Program} {ops : Array Oper} {Q : Exit → Act → World → Prop} {md : Region.Mode} {l n : Nat} (hout : ¬ LetsOut Q) (hd : noDefersA ops = true) :
    ∀ (fuel : Nat) (listed : Array Bool) (a : Act) (w : World), wpAny P md ops Q fuel listed a w → wpAnyIn (Fence.wide.inRound l) n P md ops Q fuel listed a w
  | 0, _, _, _, h => h
  | _ + 1, _, _, _, h => ⟨h.1, fun i hi => wpOpIn_mono (fun a' w' h' => wpAnyIn_of_wpAny hout hd _ _ a' w' h') (wpOpIn_of_wpOp hout hd (h.2 i hi))⟩

/-- A region in a round: from the law of a region outside of rounds, S being shown behind each operation. -/
theorem round_region {P : Program} {ops : Array Oper} {Q : Exit → Act → World → Prop} {id l n : Nat} {a : Act} {w : World} (S : World → Prop) (hd : noDefersA ops = true) (hm : P.follows .mixedOrders = true) (hout : ¬ LetsOut Q) (hS : S w.drew)
    (h : S w.drew → wpAnyH P .any ops Q S ops.size (Array.replicate ops.size false) a w.drew) : (Code.region id ops true).wpIn (Fence.wide.inRound l) n P Q a w :=
  wpIn_region_any hm (wpAnyIn_of_wpAny hout hd _ _ _ _ (wpAny_of_held _ _ _ _ (h hS)))
end Go.Proofs.Ytbjinkkmakhbaaa.Print
