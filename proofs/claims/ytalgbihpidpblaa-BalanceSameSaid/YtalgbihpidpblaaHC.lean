/- A list of flows that lies in one block; copy of such a row. -/
import Derived.Test.YtalgbihpidpblaaHB
import Derived.Laws.CopyRow
import Derived.Laws.CopyOwn
namespace Go.Proofs.Ytalgbihpidpblaa.Print
open Go.RowKit Go.Shelf Go.Proofs.YtalgbihpidpblaaW.PrintWords Go.Proofs.YtalgbihpidpblaaW.PrintLast Go.Proofs.YtalgbihpidpblaaW.PrintMore
set_option linter.unusedVariables false
set_option linter.unusedSimpArgs false

def encX (x : S47) : List Value := [.int .i64 x.f0, .int .i64 x.f1, .int .i64 x.f2.f0, .int .i64 x.f2.f1]
def encF : List S47 → List Value
  | [] => []
  | x :: r => encX x ++ encF r

theorem encF_length (l : List S47) : (encF l).length = l.length * 4 := by
  induction l with
  | nil => rfl
  | cons x r ih => simp [encF, encX, ih]; omega

theorem encF_one (l : List S47) : ∀ v ∈ encF l, v.oneCell' = true := by
  induction l with
  | nil => intro v h; cases h
  | cons x r ih =>
    intro v h
    simp only [encF, List.mem_append] at h
    rcases h with h | h
    · simp only [encX, List.mem_cons, List.mem_nil_iff, or_false] at h
      rcases h with rfl | rfl | rfl | rfl <;> rfl
    · exact ih v h

theorem encF_get (l : List S47) : ∀ (j : Nat) (p : S47) (i : Nat), l[j]? = some p → i < 4 → (encF l)[j * 4 + i]? = (encX p)[i]? := by
  induction l with
  | nil => intro j p i h; simp at h
  | cons x r ih =>
    intro j p i h hi
    cases j with
    | zero =>
      simp at h
      subst h
      rw [Nat.zero_mul, Nat.zero_add]
      exact List.getElem?_append_left (by simp [encX]; omega)
    | succ j =>
      simp at h
      have := ih j p i h hi
      simp only [encF]
      rw [List.getElem?_append_right (by simp [encX]; omega), ← this]
      congr 1
      simp [encX]
      omega

theorem C_of_blk {W : World} {B : Nat} {cur : List S47} (h : W.heap[B]? = some (.cells (encF cur).toArray 47 (0, 0))) (hn : cur.length ≤ 9223372036854775807) : Kd.C k47 W (some ⟨B, 0, none⟩) cur.length cur := by
  refine ⟨rfl, hn, fun _ => ⟨⟨B, 0, none⟩, rfl, fun j p hj => ⟨encX p, rfl, k47_mk W p, fun i u hu => ?_⟩⟩⟩
  have hi : i < 4 := by
    have : i < (encX p).length := (List.getElem?_eq_some_iff.1 hu).1
    simpa [encX] using this
  have e : (⟨B, 0, none⟩ : Addr).add (j * 4 + i) = ⟨B, j * 4 + i, none⟩ := by unfold Addr.add; split <;> simp_all
  show W.cell? ((⟨B, 0, none⟩ : Addr).add (j * 4 + i)) = some u
  rw [e, blk_cell h (j * 4 + i)]
  simp only [List.getElem?_toArray]
  rw [encF_get cur j p i hj hi, hu]

theorem encF_set (l : List S47) : ∀ (j : Nat) (p : S47) (s : S45), l[j]? = some p → encF (l.set j { p with f2 := s }) = ((encF l).set (j * 4 + 2) (.int .i64 s.f0)).set (j * 4 + 3) (.int .i64 s.f1) := by
  induction l with
  | nil => intro j p s h; simp at h
  | cons x r ih =>
    intro j p s h
    cases j with
    | zero =>
      simp at h
      subst h
      simp [encF, encX]
    | succ j =>
      simp at h
      have := ih j p s h
      simp only [List.set_cons_succ, encF, this]
      rw [show (j + 1) * 4 + 2 = (encX x).length + (j * 4 + 2) from by simp [encX]; omega, show (j + 1) * 4 + 3 = (encX x).length + (j * 4 + 3) from by simp [encX]; omega]
      rw [List.set_append_right _ _ (by omega), List.set_append_right _ _ (by omega)]
      simp

theorem run_copy_rowS {P : Program} (sz : Nat) (w : World) (dT sT ty elem : TypeId) (g o dLen dCap : Nat) (a : Addr) (sLen sCap : Nat) (cur : Array Value) (t : TypeId) (cs : List Value)
    (hu : P.underlying dT = some (.slice elem)) (hs : (P.info? elem).map (·.size) = some sz)
    (hg : w.heap[g]? = some (.cells cur t (0, 0))) (hn : cs.length = Nat.min sLen dLen * sz)
    (hsrc : ∀ j v, cs[j]? = some v → w.cell? (a.add j) = some v) (hfit : o + cs.length ≤ cur.size) (h1 : ∀ v ∈ cs, v.oneCell' = true) :
    (Builtin.copy_ #[dT, sT] ty #[.slice (some ⟨g, o, none⟩) dLen dCap, .slice (some a) sLen sCap]).run P w =
      .ok (goInt (Nat.min sLen dLen)) (w.setRow g (cur.toList.take o ++ cs ++ cur.toList.drop (o + cs.length)).toArray) := by
  have hl := run_loadCells_list (P := P) w a cs hsrc
  have hst := run_storeCells_at P g o t cs 0 cur w hg (by simpa using hfit) h1
  cases hq : P.info? elem with
  | none => simp [hq] at hs
  | some i =>
    have hi : i.size = sz := by simpa [hq] using hs
    simp [Builtin.copy_, run_underlying hu, Builtin.lenOf, Builtin.firstCells, sizeOf, typeInfo, hq, hi, ← hn, hl, hst]

theorem run_copy_zero {P : Program} (sz : Nat) (w : World) (dT sT ty elem : TypeId) (g o : Nat) (a : Option Addr) (sCap : Nat)
    (hu : P.underlying dT = some (.slice elem)) (hs : (P.info? elem).map (·.size) = some sz) :
    (Builtin.copy_ #[dT, sT] ty #[.slice (some ⟨g, o, none⟩) 0 0, .slice a 0 sCap]).run P w = .ok (goInt 0) w := by
  cases hq : P.info? elem with
  | none => simp [hq] at hs
  | some i =>
    have hl := run_loadCells_list (P := P) w
    cases a with
    | none => simp [Builtin.copy_, run_underlying hu, Builtin.lenOf, Builtin.firstCells, sizeOf, typeInfo, hq, storeCells]
    | some a =>
      have hl := run_loadCells_list (P := P) w a [] (by simp)
      simp at hl
      simp [Builtin.copy_, run_underlying hu, Builtin.lenOf, Builtin.firstCells, sizeOf, typeInfo, hq, storeCells, hl]
end Go.Proofs.Ytalgbihpidpblaa.Print
