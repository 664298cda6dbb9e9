/- The ends' function values, and an end of a flow in all truths (bound). -/
import Derived.Test.YtalgbihpidpblaaH5
import Derived.Laws.EntriesVeiled
import Derived.Test.YtalgbihpidpblaaRR
import Derived.Test.YtalgbihpidpblaaRR
import Derived.Test.YtalgbihpidpblaaRR
import Derived.Test.YtalgbihpidpblaaRR
namespace Go.Proofs.Ytalgbihpidpblaa.Print
open Go.RowKit Go.Shelf Go.Proofs.YtalgbihpidpblaaW.PrintWords Go.Proofs.YtalgbihpidpblaaW.PrintLast Go.Proofs.YtalgbihpidpblaaW.PrintMore
set_option linter.unusedVariables false
set_option linter.unusedSimpArgs false
attribute [local go_sem] Oper.semAt_some

set_option maxHeartbeats 400000 in
theorem of43 (lo hi : Int) (w : World) : Calls Try.prog 43 #[.agg #[.int .i64 lo, .int .i64 hi]] w fun e w' => e = .returned (.int .i64 lo) ∧ w' = w.alloc (.cells #[.int .i64 lo, .int .i64 hi] 45) := by
  go_enter Try.func43, Try.ntmps43
  go_wp2
  go_ret
  exact ⟨rfl, rfl⟩
set_option maxHeartbeats 400000 in
theorem of46 (lo hi : Int) (w : World) : Calls Try.prog 46 #[.agg #[.int .i64 lo, .int .i64 hi]] w fun e w' => e = .returned (.int .i64 hi) ∧ w' = w.alloc (.cells #[.int .i64 lo, .int .i64 hi] 45) := by
  go_enter Try.func46, Try.ntmps46
  go_wp2
  go_ret
  exact ⟨rfl, rfl⟩
set_option maxHeartbeats 400000 in
theorem rest44 (a b c d : Int) (w : World) (hb : 0 ≤ b ∧ b ≤ 17179869184) (hc : 0 ≤ c ∧ c ≤ 17179869184) : Calls Try.prog 44 #[.agg #[.int .i64 a, .int .i64 b, .int .i64 c, .int .i64 d]] w fun e w' => e = .returned (.int .i64 (c - b)) ∧ w' = w.alloc (.cells #[.int .i64 a, .int .i64 b, .int .i64 c, .int .i64 d] 83) := by
  go_enter Try.func44, Try.ntmps44
  go_wp2
  go_ret
  exact ⟨rfl, rfl⟩
set_option maxHeartbeats 400000 in
theorem rest47 (a b c d : Int) (w : World) (ha : 0 ≤ a ∧ a ≤ 17179869184) (hd : 0 ≤ d ∧ d ≤ 17179869184) : Calls Try.prog 47 #[.agg #[.int .i64 a, .int .i64 b, .int .i64 c, .int .i64 d]] w fun e w' => e = .returned (.int .i64 (d - a)) ∧ w' = w.alloc (.cells #[.int .i64 a, .int .i64 b, .int .i64 c, .int .i64 d] 83) := by
  go_enter Try.func47, Try.ntmps47
  go_wp2
  go_ret
  exact ⟨rfl, rfl⟩
set_option maxHeartbeats 400000 in
theorem better45 (a b : Int) (w : World) : Calls Try.prog 45 #[.int .i64 a, .int .i64 b] w fun e w' => e = .returned (.bool (decide (a > b))) ∧ w' = w := by
  go_enter Try.func45, Try.ntmps45
  go_wp2
  go_ret
  exact ⟨rfl, rfl⟩
set_option maxHeartbeats 400000 in
theorem better48 (a b : Int) (w : World) : Calls Try.prog 48 #[.int .i64 a, .int .i64 b] w fun e w' => e = .returned (.bool (decide (a < b))) ∧ w' = w := by
  go_enter Try.func48, Try.ntmps48
  go_wp2
  go_ret
  exact ⟨rfl, rfl⟩
set_option maxHeartbeats 400000 in
theorem ends32 (w : World) : Calls Try.prog 32 #[] w fun e w' => e = .returned (.agg #[.func (.func 43) #[] #[], .func (.func 44) #[] #[], .func (.func 45) #[] #[], .func (.func 46) #[] #[], .func (.func 47) #[] #[], .func (.func 48) #[] #[]]) ∧ Below w.heap.size w w' := by
  go_enter Try.func32, Try.ntmps32
  go_wp2
  refine bodyPost_ret (results_cell_row rfl _ _ w.heap.size 66 #[.func (.func 43) #[] #[], .func (.func 44) #[] #[], .func (.func 45) #[] #[], .func (.func 46) #[] #[], .func (.func 47) #[] #[], .func (.func 48) #[] #[]] (0, 0) _ rfl (blk_alloc (blk_alloc (blk_new _ _) _) _) Try.underlying66 rfl (by kernel_rfl)) rfl ?_
  exact ⟨rfl, by repeat (first | exact Below.refl _ _ | apply below_alloc)⟩

/-- The least end, or the greatest, as a value. -/
def endV (m : Bool) : Value := if m then .agg #[.func (.func 46) #[] #[], .func (.func 47) #[] #[], .func (.func 48) #[] #[]] else .agg #[.func (.func 43) #[] #[], .func (.func 44) #[] #[], .func (.func 45) #[] #[]]

/-- What a set says of a flow. -/
def says (m : Bool) (l : List S47) (k s : Int) : Int := if m then total s k true true l - total s k false false l else total s k true false l - total s k false true l
def step (m : Bool) (l : List S47) (k : Int) (st : Int × Int × Bool) (s : Int) : Int × Int × Bool :=
  if hasB s (rd_T47 l k).f1 = true ∧ hasB s (rd_T47 l k).f0 = false ∧ (if m then says m l k s < st.1 else says m l k s > st.1) then (says m l k s, s, true) else st
def first (m : Bool) (l : List S47) (k : Int) : Int × Int × Bool := (if m then (rd_T47 l k).f2.f1 else (rd_T47 l k).f2.f0, 0, false)
def boundS (m : Bool) (pl : Int) (l : List S47) (k : Int) : Int × Int × Bool := (setsL pl).foldl (step m l k) (first m l k)

theorem cell_two {W : World} {g : Nat} {t : TypeId} {cs : Array Value} (h : W.heap[g]? = some (.cells cs t (0, 0))) (i : Nat) {v : Value} (e : cs[i]? = some v) : W.cell? ⟨g, i, none⟩ = some v := (blk_cell h i).trans e

def stOf (m : Bool) (l : List S47) (k : Int) (pre : List Int) : Int × Int × Bool := pre.foldl (step m l k) (first m l k)
theorem stOf_snoc (m : Bool) (l : List S47) (k : Int) (pre : List Int) (x : Int) : stOf m l k (pre ++ [x]) = step m l k (stOf m l k pre) x := by
  simp [stOf]

theorem cell_alloc_any (W : World) (o : Obj) {a : Addr} (h : a.block < W.heap.size) : (W.alloc o).cell? a = W.cell? a :=
  ((Below.refl _ W).alloc (Nat.le_refl _) o).cell h
theorem frozen_alloc_o {W : World} (o : Obj) {a : Addr} {v : Value} (h : W.cell? a = some v) : (W.alloc o).frozen? a = W.frozen? a :=
  ((Below.refl _ W).alloc (Nat.le_refl _) o).frozen (World.block_lt_of_cell? _ _ h)

set_option maxRecDepth 100000 in
set_option maxHeartbeats 4000000 in
theorem bound_least (pl : Int) (A : Option Addr) (c : Nat) (l : List S47) (k : Int) (w : World) (hr : Kd.C k47 w A l.length l) (hp : isPlantB pl l = true) (hk0 : 0 ≤ k) (hk : k < l.length) :
    Calls Try.prog 33 #[.agg #[.int .i64 pl, .slice A l.length c], .int .i64 k, .agg #[.func (.func 43) #[] #[], .func (.func 44) #[] #[], .func (.func 45) #[] #[]]] w fun e w' =>
      e = .returned (.tuple #[.int .i64 (boundS false pl l k).1, .int .u64 (boundS false pl l k).2.1, .bool (boundS false pl l k).2.2]) ∧ Below w.heap.size w w' := by
  obtain ⟨h2, h8, hl, hg⟩ := plant_of pl l hp
  have hgx := hg (rd_T47 l k) (by obtain ⟨n, rfl⟩ := Int.eq_ofNat_of_zero_le hk0; rw [rd_T45_eq _ _ (by omega)]; exact List.getElem_mem _)
  have HG := Aside0.mk hg
  clear hg hp
  have b0 : 0 ≤ (rd_T47 l k).f0 := by unfold goodF at hgx; omega
  have b1 : 0 ≤ (rd_T47 l k).f1 := by unfold goodF at hgx; omega
  clear hgx
  obtain ⟨ad, e, g0, g1, g2, g3⟩ := at_T47 hr k hk0 hk
  cases e
  have HR := Aside0.mk hr
  clear hr
  have hb6 : Below w.heap.size w ((((((w.alloc (.cells #[.int .i64 pl, .slice (some ad) l.length c] 24)).alloc (.cells #[.int .i64 k] 3)).alloc (.cells #[.func (.func 43) #[] #[], .func (.func 44) #[] #[], .func (.func 45) #[] #[]] 65)).alloc (.cells #[.int .i64 0] 3)).alloc (.cells #[.int .u64 0] 69)).alloc (.cells #[.bool false] 4)) := by
    repeat (first | exact Below.refl _ _ | apply below_alloc)
  have f0 := (hb6.cell (World.block_lt_of_cell? _ _ g0)).trans g0
  have f1 := (hb6.cell (World.block_lt_of_cell? _ _ g1)).trans g1
  have f2 := (hb6.cell (World.block_lt_of_cell? _ _ g2)).trans g2
  have f3 := (hb6.cell (World.block_lt_of_cell? _ _ g3)).trans g3
  clear hb6 g0 g1 g2 g3
  refine (callsIn_wide (n := 8)).1 ?_
  refine callsIn_of_wp_marks Try.func33 rfl trivial ?_ rfl
  simp only [Try.ntmps33, List.size_toArray, List.length_cons, List.length_nil, Nat.reduceAdd, Nat.reduceSub, Array.replicate_succ, Array.replicate_zero, List.push_toArray, List.append_toArray, List.nil_append, List.cons_append]
  gi_wp2_with (first | (refine ⟨trivial, ?_⟩; gi_at_call 43; refine (callsIn_wide.2 (of43 _ _ _)).mono ?_; rintro e w' ⟨rfl, rfl⟩) | (refine ⟨trivial, ?_⟩; gi_at_call 49; refine (callsIn_wide.2 (sets_any _ _ _)).mono ?_; rintro e w' ⟨rfl, rfl⟩))
  clear f0 f1 f2 f3
  have x0 := (blk_alloc (blk_alloc (blk_alloc (blk_alloc (blk_alloc (blk_alloc (blk_alloc (blk_alloc (blk_new w (.cells #[.int .i64 pl, .slice (some ad) l.length c] 24)) (.cells #[.int .i64 k] 3)) (.cells #[.func (.func 43) #[] #[], .func (.func 44) #[] #[], .func (.func 45) #[] #[]] 65)) (.cells #[.int .i64 (rd_T47 l k).f2.f0] 3)) (.cells #[.int .u64 0] 69)) (.cells #[.bool false] 4)) (.cells #[.int .i64 (rd_T47 l k).f0, .int .i64 (rd_T47 l k).f1, .int .i64 (rd_T47 l k).f2.f0, .int .i64 (rd_T47 l k).f2.f1] 47)) (.cells #[.int .i64 (rd_T47 l k).f2.f0, .int .i64 (rd_T47 l k).f2.f1] 45)) (.cells #[.int .i64 pl, .slice (some ad) l.length c] 24))
  have x1 := (blk_alloc (blk_alloc (blk_alloc (blk_alloc (blk_alloc (blk_alloc (blk_alloc (blk_new (w.alloc (.cells #[.int .i64 pl, .slice (some ad) l.length c] 24)) (.cells #[.int .i64 k] 3)) (.cells #[.func (.func 43) #[] #[], .func (.func 44) #[] #[], .func (.func 45) #[] #[]] 65)) (.cells #[.int .i64 (rd_T47 l k).f2.f0] 3)) (.cells #[.int .u64 0] 69)) (.cells #[.bool false] 4)) (.cells #[.int .i64 (rd_T47 l k).f0, .int .i64 (rd_T47 l k).f1, .int .i64 (rd_T47 l k).f2.f0, .int .i64 (rd_T47 l k).f2.f1] 47)) (.cells #[.int .i64 (rd_T47 l k).f2.f0, .int .i64 (rd_T47 l k).f2.f1] 45)) (.cells #[.int .i64 pl, .slice (some ad) l.length c] 24))
  have x2 := (blk_alloc (blk_alloc (blk_alloc (blk_alloc (blk_alloc (blk_alloc (blk_new ((w.alloc (.cells #[.int .i64 pl, .slice (some ad) l.length c] 24)).alloc (.cells #[.int .i64 k] 3)) (.cells #[.func (.func 43) #[] #[], .func (.func 44) #[] #[], .func (.func 45) #[] #[]] 65)) (.cells #[.int .i64 (rd_T47 l k).f2.f0] 3)) (.cells #[.int .u64 0] 69)) (.cells #[.bool false] 4)) (.cells #[.int .i64 (rd_T47 l k).f0, .int .i64 (rd_T47 l k).f1, .int .i64 (rd_T47 l k).f2.f0, .int .i64 (rd_T47 l k).f2.f1] 47)) (.cells #[.int .i64 (rd_T47 l k).f2.f0, .int .i64 (rd_T47 l k).f2.f1] 45)) (.cells #[.int .i64 pl, .slice (some ad) l.length c] 24))
  have x3 := (blk_alloc (blk_alloc (blk_alloc (blk_alloc (blk_alloc (blk_new (((w.alloc (.cells #[.int .i64 pl, .slice (some ad) l.length c] 24)).alloc (.cells #[.int .i64 k] 3)).alloc (.cells #[.func (.func 43) #[] #[], .func (.func 44) #[] #[], .func (.func 45) #[] #[]] 65)) (.cells #[.int .i64 (rd_T47 l k).f2.f0] 3)) (.cells #[.int .u64 0] 69)) (.cells #[.bool false] 4)) (.cells #[.int .i64 (rd_T47 l k).f0, .int .i64 (rd_T47 l k).f1, .int .i64 (rd_T47 l k).f2.f0, .int .i64 (rd_T47 l k).f2.f1] 47)) (.cells #[.int .i64 (rd_T47 l k).f2.f0, .int .i64 (rd_T47 l k).f2.f1] 45)) (.cells #[.int .i64 pl, .slice (some ad) l.length c] 24))
  have x4 := (blk_alloc (blk_alloc (blk_alloc (blk_alloc (blk_new ((((w.alloc (.cells #[.int .i64 pl, .slice (some ad) l.length c] 24)).alloc (.cells #[.int .i64 k] 3)).alloc (.cells #[.func (.func 43) #[] #[], .func (.func 44) #[] #[], .func (.func 45) #[] #[]] 65)).alloc (.cells #[.int .i64 (rd_T47 l k).f2.f0] 3)) (.cells #[.int .u64 0] 69)) (.cells #[.bool false] 4)) (.cells #[.int .i64 (rd_T47 l k).f0, .int .i64 (rd_T47 l k).f1, .int .i64 (rd_T47 l k).f2.f0, .int .i64 (rd_T47 l k).f2.f1] 47)) (.cells #[.int .i64 (rd_T47 l k).f2.f0, .int .i64 (rd_T47 l k).f2.f1] 45)) (.cells #[.int .i64 pl, .slice (some ad) l.length c] 24))
  have x5 := (blk_alloc (blk_alloc (blk_alloc (blk_new (((((w.alloc (.cells #[.int .i64 pl, .slice (some ad) l.length c] 24)).alloc (.cells #[.int .i64 k] 3)).alloc (.cells #[.func (.func 43) #[] #[], .func (.func 44) #[] #[], .func (.func 45) #[] #[]] 65)).alloc (.cells #[.int .i64 (rd_T47 l k).f2.f0] 3)).alloc (.cells #[.int .u64 0] 69)) (.cells #[.bool false] 4)) (.cells #[.int .i64 (rd_T47 l k).f0, .int .i64 (rd_T47 l k).f1, .int .i64 (rd_T47 l k).f2.f0, .int .i64 (rd_T47 l k).f2.f1] 47)) (.cells #[.int .i64 (rd_T47 l k).f2.f0, .int .i64 (rd_T47 l k).f2.f1] 45)) (.cells #[.int .i64 pl, .slice (some ad) l.length c] 24))
  have x6 := (blk_alloc (blk_alloc (blk_new ((((((w.alloc (.cells #[.int .i64 pl, .slice (some ad) l.length c] 24)).alloc (.cells #[.int .i64 k] 3)).alloc (.cells #[.func (.func 43) #[] #[], .func (.func 44) #[] #[], .func (.func 45) #[] #[]] 65)).alloc (.cells #[.int .i64 (rd_T47 l k).f2.f0] 3)).alloc (.cells #[.int .u64 0] 69)).alloc (.cells #[.bool false] 4)) (.cells #[.int .i64 (rd_T47 l k).f0, .int .i64 (rd_T47 l k).f1, .int .i64 (rd_T47 l k).f2.f0, .int .i64 (rd_T47 l k).f2.f1] 47)) (.cells #[.int .i64 (rd_T47 l k).f2.f0, .int .i64 (rd_T47 l k).f2.f1] 45)) (.cells #[.int .i64 pl, .slice (some ad) l.length c] 24))
  have x7 := (blk_alloc (blk_new (((((((w.alloc (.cells #[.int .i64 pl, .slice (some ad) l.length c] 24)).alloc (.cells #[.int .i64 k] 3)).alloc (.cells #[.func (.func 43) #[] #[], .func (.func 44) #[] #[], .func (.func 45) #[] #[]] 65)).alloc (.cells #[.int .i64 (rd_T47 l k).f2.f0] 3)).alloc (.cells #[.int .u64 0] 69)).alloc (.cells #[.bool false] 4)).alloc (.cells #[.int .i64 (rd_T47 l k).f0, .int .i64 (rd_T47 l k).f1, .int .i64 (rd_T47 l k).f2.f0, .int .i64 (rd_T47 l k).f2.f1] 47)) (.cells #[.int .i64 (rd_T47 l k).f2.f0, .int .i64 (rd_T47 l k).f2.f1] 45)) (.cells #[.int .i64 pl, .slice (some ad) l.length c] 24))
  have x8 := (blk_new ((((((((w.alloc (.cells #[.int .i64 pl, .slice (some ad) l.length c] 24)).alloc (.cells #[.int .i64 k] 3)).alloc (.cells #[.func (.func 43) #[] #[], .func (.func 44) #[] #[], .func (.func 45) #[] #[]] 65)).alloc (.cells #[.int .i64 (rd_T47 l k).f2.f0] 3)).alloc (.cells #[.int .u64 0] 69)).alloc (.cells #[.bool false] 4)).alloc (.cells #[.int .i64 (rd_T47 l k).f0, .int .i64 (rd_T47 l k).f1, .int .i64 (rd_T47 l k).f2.f0, .int .i64 (rd_T47 l k).f2.f1] 47)).alloc (.cells #[.int .i64 (rd_T47 l k).f2.f0, .int .i64 (rd_T47 l k).f2.f1] 45)) (.cells #[.int .i64 pl, .slice (some ad) l.length c] 24))
  simp only [World.size_alloc] at x1 x2 x3 x4 x5 x6 x7 x8
  have hS0 : (((((((((w.alloc (.cells #[.int .i64 pl, .slice (some ad) l.length c] 24)).alloc (.cells #[.int .i64 k] 3)).alloc (.cells #[.func (.func 43) #[] #[], .func (.func 44) #[] #[], .func (.func 45) #[] #[]] 65)).alloc (.cells #[.int .i64 (rd_T47 l k).f2.f0] 3)).alloc (.cells #[.int .u64 0] 69)).alloc (.cells #[.bool false] 4)).alloc (.cells #[.int .i64 (rd_T47 l k).f0, .int .i64 (rd_T47 l k).f1, .int .i64 (rd_T47 l k).f2.f0, .int .i64 (rd_T47 l k).f2.f1] 47)).alloc (.cells #[.int .i64 (rd_T47 l k).f2.f0, .int .i64 (rd_T47 l k).f2.f1] 45)).alloc (.cells #[.int .i64 pl, .slice (some ad) l.length c] 24)).heap.size = w.heap.size + 1 + 1 + 1 + 1 + 1 + 1 + 1 + 1 + 1 := by simp
  have hB0 : Below w.heap.size w (((((((((w.alloc (.cells #[.int .i64 pl, .slice (some ad) l.length c] 24)).alloc (.cells #[.int .i64 k] 3)).alloc (.cells #[.func (.func 43) #[] #[], .func (.func 44) #[] #[], .func (.func 45) #[] #[]] 65)).alloc (.cells #[.int .i64 (rd_T47 l k).f2.f0] 3)).alloc (.cells #[.int .u64 0] 69)).alloc (.cells #[.bool false] 4)).alloc (.cells #[.int .i64 (rd_T47 l k).f0, .int .i64 (rd_T47 l k).f1, .int .i64 (rd_T47 l k).f2.f0, .int .i64 (rd_T47 l k).f2.f1] 47)).alloc (.cells #[.int .i64 (rd_T47 l k).f2.f0, .int .i64 (rd_T47 l k).f2.f1] 45)).alloc (.cells #[.int .i64 pl, .slice (some ad) l.length c] 24)) := by
    repeat (first | exact Below.refl _ _ | apply below_alloc)
  have HA : Aside0 (∀ W : World, W = (((((((((w.alloc (.cells #[.int .i64 pl, .slice (some ad) l.length c] 24)).alloc (.cells #[.int .i64 k] 3)).alloc (.cells #[.func (.func 43) #[] #[], .func (.func 44) #[] #[], .func (.func 45) #[] #[]] 65)).alloc (.cells #[.int .i64 (rd_T47 l k).f2.f0] 3)).alloc (.cells #[.int .u64 0] 69)).alloc (.cells #[.bool false] 4)).alloc (.cells #[.int .i64 (rd_T47 l k).f0, .int .i64 (rd_T47 l k).f1, .int .i64 (rd_T47 l k).f2.f0, .int .i64 (rd_T47 l k).f2.f1] 47)).alloc (.cells #[.int .i64 (rd_T47 l k).f2.f0, .int .i64 (rd_T47 l k).f2.f1] 45)).alloc (.cells #[.int .i64 pl, .slice (some ad) l.length c] 24)) → (fun pre W => (W.cell? ⟨w.heap.size, 0, none⟩ = some (.int .i64 pl) ∧ W.cell? ⟨w.heap.size, 1, none⟩ = some (.slice (some ad) l.length c) ∧ W.cell? ⟨w.heap.size + 1, 0, none⟩ = some (.int .i64 k) ∧ W.cell? ⟨w.heap.size + 1 + 1, 0, none⟩ = some (.func (.func 43) #[] #[]) ∧ W.cell? ⟨w.heap.size + 1 + 1, 1, none⟩ = some (.func (.func 44) #[] #[]) ∧ W.cell? ⟨w.heap.size + 1 + 1, 2, none⟩ = some (.func (.func 45) #[] #[]) ∧ W.cell? ⟨w.heap.size + 1 + 1 + 1, 0, none⟩ = some (.int .i64 (stOf false l k pre).1) ∧ W.cell? ⟨w.heap.size + 1 + 1 + 1 + 1, 0, none⟩ = some (.int .u64 (stOf false l k pre).2.1) ∧ W.cell? ⟨w.heap.size + 1 + 1 + 1 + 1 + 1, 0, none⟩ = some (.bool (stOf false l k pre).2.2) ∧ W.cell? ⟨w.heap.size + 1 + 1 + 1 + 1 + 1 + 1, 0, none⟩ = some (.int .i64 (rd_T47 l k).f0) ∧ W.cell? ⟨w.heap.size + 1 + 1 + 1 + 1 + 1 + 1, 1, none⟩ = some (.int .i64 (rd_T47 l k).f1) ∧ W.cell? ⟨w.heap.size + 1 + 1 + 1 + 1 + 1 + 1, 2, none⟩ = some (.int .i64 (rd_T47 l k).f2.f0) ∧ W.cell? ⟨w.heap.size + 1 + 1 + 1 + 1 + 1 + 1, 3, none⟩ = some (.int .i64 (rd_T47 l k).f2.f1) ∧ W.cell? ⟨w.heap.size + 1 + 1 + 1 + 1 + 1 + 1 + 1 + 1, 0, none⟩ = some (.int .i64 pl) ∧ W.frozen? ⟨w.heap.size + 1 + 1 + 1, 0, none⟩ = false ∧ W.frozen? ⟨w.heap.size + 1 + 1 + 1 + 1, 0, none⟩ = false ∧ W.frozen? ⟨w.heap.size + 1 + 1 + 1 + 1 + 1, 0, none⟩ = false) ∧ Below w.heap.size w W) ([] : List Int) W) := by
    refine ⟨fun W e => ?_⟩
    subst e
    exact ⟨⟨cell_two x0 0 rfl, cell_two x0 1 rfl, cell_two x1 0 rfl, cell_two x2 0 rfl, cell_two x2 1 rfl, cell_two x2 2 rfl, cell_two x3 0 rfl, cell_two x4 0 rfl, cell_two x5 0 rfl, cell_two x6 0 rfl, cell_two x6 1 rfl, cell_two x6 2 rfl, cell_two x6 3 rfl, cell_two x8 0 rfl, blk_frozen x3 0, blk_frozen x4 0, blk_frozen x5 0⟩, hB0⟩
  have y8 := cell_two x8 0 rfl
  clear x0 x1 x2 x3 x4 x5 x6 x7 x8
  refine wpIn_rangeFunc_ownF rfl (by omega) (gf := 56) (lb := #[.pointer (some ⟨w.heap.size + 1 + 1 + 1 + 1 + 1 + 1 + 1 + 1, 0, none⟩)]) rfl trivial (enters_of Try.func56 (by kernel_rfl) rfl)
    (sets_stops Fence.wide 7 trivial rfl (by omega) (w.heap.size + 1 + 1 + 1 + 1 + 1 + 1 + 1 + 1) pl _ h2 h8 (by rw [hS0]; omega) y8)
    (fun h k o => (k o).trans (h o)) (fun W lp o o' hlp ho ho1 ho2 q => ?kp) (Below.refl _ _) (fun _ => rfl)
    (fun pre W => (W.cell? ⟨w.heap.size, 0, none⟩ = some (.int .i64 pl) ∧ W.cell? ⟨w.heap.size, 1, none⟩ = some (.slice (some ad) l.length c) ∧ W.cell? ⟨w.heap.size + 1, 0, none⟩ = some (.int .i64 k) ∧ W.cell? ⟨w.heap.size + 1 + 1, 0, none⟩ = some (.func (.func 43) #[] #[]) ∧ W.cell? ⟨w.heap.size + 1 + 1, 1, none⟩ = some (.func (.func 44) #[] #[]) ∧ W.cell? ⟨w.heap.size + 1 + 1, 2, none⟩ = some (.func (.func 45) #[] #[]) ∧ W.cell? ⟨w.heap.size + 1 + 1 + 1, 0, none⟩ = some (.int .i64 (stOf false l k pre).1) ∧ W.cell? ⟨w.heap.size + 1 + 1 + 1 + 1, 0, none⟩ = some (.int .u64 (stOf false l k pre).2.1) ∧ W.cell? ⟨w.heap.size + 1 + 1 + 1 + 1 + 1, 0, none⟩ = some (.bool (stOf false l k pre).2.2) ∧ W.cell? ⟨w.heap.size + 1 + 1 + 1 + 1 + 1 + 1, 0, none⟩ = some (.int .i64 (rd_T47 l k).f0) ∧ W.cell? ⟨w.heap.size + 1 + 1 + 1 + 1 + 1 + 1, 1, none⟩ = some (.int .i64 (rd_T47 l k).f1) ∧ W.cell? ⟨w.heap.size + 1 + 1 + 1 + 1 + 1 + 1, 2, none⟩ = some (.int .i64 (rd_T47 l k).f2.f0) ∧ W.cell? ⟨w.heap.size + 1 + 1 + 1 + 1 + 1 + 1, 3, none⟩ = some (.int .i64 (rd_T47 l k).f2.f1) ∧ W.cell? ⟨w.heap.size + 1 + 1 + 1 + 1 + 1 + 1 + 1 + 1, 0, none⟩ = some (.int .i64 pl) ∧ W.frozen? ⟨w.heap.size + 1 + 1 + 1, 0, none⟩ = false ∧ W.frozen? ⟨w.heap.size + 1 + 1 + 1 + 1, 0, none⟩ = false ∧ W.frozen? ⟨w.heap.size + 1 + 1 + 1 + 1 + 1, 0, none⟩ = false) ∧ Below w.heap.size w W)
    (fun _ _ _ => False)
    (OwnFrom.and (Own.from (fun s A B row hs hg hr => ⟨cell_kept hs.1 hg hr, cell_kept hs.2.1 hg hr, cell_kept hs.2.2.1 hg hr, cell_kept hs.2.2.2.1 hg hr, cell_kept hs.2.2.2.2.1 hg hr, cell_kept hs.2.2.2.2.2.1 hg hr, cell_kept hs.2.2.2.2.2.2.1 hg hr, cell_kept hs.2.2.2.2.2.2.2.1 hg hr, cell_kept hs.2.2.2.2.2.2.2.2.1 hg hr, cell_kept hs.2.2.2.2.2.2.2.2.2.1 hg hr, cell_kept hs.2.2.2.2.2.2.2.2.2.2.1 hg hr, cell_kept hs.2.2.2.2.2.2.2.2.2.2.2.1 hg hr, cell_kept hs.2.2.2.2.2.2.2.2.2.2.2.2.1 hg hr, cell_kept hs.2.2.2.2.2.2.2.2.2.2.2.2.2.1 hg hr, (frozen_kept hs.2.2.2.2.2.2.1 hg hr).trans hs.2.2.2.2.2.2.2.2.2.2.2.2.2.2.1, (frozen_kept hs.2.2.2.2.2.2.2.1 hg hr).trans hs.2.2.2.2.2.2.2.2.2.2.2.2.2.2.2.1, (frozen_kept hs.2.2.2.2.2.2.2.2.1 hg hr).trans hs.2.2.2.2.2.2.2.2.2.2.2.2.2.2.2.2⟩) _) (ownFrom_below (Nat.le_refl _) (by rw [hS0]; omega)))
    (fun _ _ _ _ _ hs _ _ => hs)
    (HA.out _ rfl)
    (fun x => { tmps := #[.agg #[.int .i64 pl, .slice (some ad) l.length c], .int .i64 k, .agg #[.func (.func 43) #[] #[], .func (.func 44) #[] #[], .func (.func 45) #[] #[]], .pointer (some ⟨w.heap.size, 0, none⟩), .pointer (some ⟨w.heap.size + 1, 0, none⟩), .pointer (some ⟨w.heap.size + 1 + 1, 0, none⟩), .pointer (some ⟨w.heap.size + 1 + 1 + 1, 0, none⟩), .pointer (some ⟨w.heap.size + 1 + 1 + 1 + 1, 0, none⟩), .pointer (some ⟨w.heap.size + 1 + 1 + 1 + 1 + 1, 0, none⟩), .pointer (some ⟨w.heap.size + 1 + 1 + 1 + 1 + 1 + 1, 0, none⟩), .int .u64 x, undef, .pointer (some ⟨w.heap.size, 1, none⟩), .slice (some ad) l.length c, .int .i64 k, .pointer (some (ad.add (k.toNat * 4))), .agg #[.int .i64 (rd_T47 l k).f0, .int .i64 (rd_T47 l k).f1, .int .i64 (rd_T47 l k).f2.f0, .int .i64 (rd_T47 l k).f2.f1], .pointer (some ⟨w.heap.size + 1 + 1, 0, none⟩), .func (.func 43) #[] #[], .pointer (some ⟨w.heap.size + 1 + 1 + 1 + 1 + 1 + 1, 2, none⟩), .agg #[.int .i64 (rd_T47 l k).f2.f0, .int .i64 (rd_T47 l k).f2.f1], .int .i64 (rd_T47 l k).f2.f0, .agg #[.int .i64 pl, .slice (some ad) l.length c], .func (.func 56) #[] #[.pointer (some ⟨w.heap.size + 1 + 1 + 1 + 1 + 1 + 1 + 1 + 1, 0, none⟩)], .int .u64 x, undef, undef, undef, undef, undef, undef, undef, undef, undef, undef, undef, undef, undef, undef, undef, undef, undef, undef, undef, undef, undef, undef, undef, undef, undef, undef, undef, undef], defers := [] }) ?assign ?body ?done ?stop
  case kp =>
    have hne : w.heap.size + 1 + 1 + 1 + 1 + 1 + 1 + 1 + 1 ≠ lp := by rw [hS0] at hlp; omega
    exact cell_putObj_other W o' q hne
  case assign =>
    intro lp x W K hK
    gi_wp2
    exact hK
  case stop =>
    rintro D cd pre W _ _ h _
    exact h.elim
  case body =>
    clear hS0 hB0 HA y8
    rintro lp pre x W ⟨⟨c00, c01, c1, c20, c21, c22, c3, c4, c5, c60, c61, c62, c63, c8, z3, z4, z5⟩, hB⟩ _
    have HB := Aside0.mk hB
    clear hB
    by_cases ht : hasB x (rd_T47 l k).f1 = true
    · by_cases hf : hasB x (rd_T47 l k).f0 = true
      · gi_wp2_with (refine ⟨trivial, ?_⟩; gi_at_call 50; refine (CallsIn.inRound lp (callsIn_wide.2 (has_any _ _ _ (by assumption)))).mono ?_; rintro e W' ⟨rfl, hq⟩; obtain rfl := hq.symm)
        have hst : stOf false l k (pre ++ [x]) = stOf false l k pre := by rw [stOf_snoc]; unfold step; rw [if_neg]; rintro ⟨h1, h2, h3⟩; rw [hf] at h2; cases h2
        exact ⟨KeepsOthers.refl _, fun _ => rfl, by rw [hst]; exact ⟨c00, c01, c1, c20, c21, c22, c3, c4, c5, c60, c61, c62, c63, c8, z3, z4, z5⟩, HB.out⟩
      · have hf' : hasB x (rd_T47 l k).f0 = false := by simpa using hf
        clear hf
        have ta : 0 ≤ total x k false true l ∧ total x k false true l ≤ 17179869184 := by have := tot_bound x k false true pl l l.length hl HG.out; rw [tot_all _ _ _ _ _ _ rfl] at this; exact this
        have tb : 0 ≤ total x k true false l ∧ total x k true false l ≤ 17179869184 := by have := tot_bound x k true false pl l l.length hl HG.out; rw [tot_all _ _ _ _ _ _ rfl] at this; exact this
        by_cases hbt : (stOf false l k pre).1 < total x k true false l - total x k false true l
        · have hd : decide ((stOf false l k pre).1 < total x k true false l - total x k false true l) = true := decide_eq_true hbt
          have HBT := Aside0.mk hbt
          clear hbt
          gi_wp2_with (refine ⟨trivial, ?_⟩; gi_at_call 50; refine (CallsIn.inRound lp (callsIn_wide.2 (has_any _ _ _ (by assumption)))).mono ?_; rintro e W' ⟨rfl, hq⟩; obtain rfl := hq.symm)
          refine round_region (fun W' => W'.cell? ⟨w.heap.size, 0, none⟩ = some (.int .i64 pl) ∧ W'.cell? ⟨w.heap.size, 1, none⟩ = some (.slice (some ad) l.length c) ∧ W'.cell? ⟨w.heap.size + 1, 0, none⟩ = some (.int .i64 k) ∧ W'.cell? ⟨w.heap.size + 1 + 1, 1, none⟩ = some (.func (.func 44) #[] #[])) (by kernel_rfl) (by kernel_rfl) (fun ⟨_, _, h⟩ => h) ⟨c00, c01, c1, c21⟩ (fun hHeld => ?_)
          refine wpAnyH_take (i := 0) (v := ?va0) rfl (by kernel_rfl) (by kernel_rfl) (by kernel_rfl) (fun _ _ _ h => h) (Or.inl ⟨by rfl, ?hya0⟩) (by assumption) ?_
          case hya0 => (intro wq hSw; (try dsimp only at hSw); go_simp; try (with_reducible rfl))
          try simp only [Act.put, List.setIfInBounds_toArray, List.set_cons_zero, List.set_cons_succ]
          refine wpAnyH_take (i := 1) (v := ?va1) rfl (by kernel_rfl) (by kernel_rfl) (by kernel_rfl) (fun _ _ _ h => h) (Or.inl ⟨by rfl, ?hya1⟩) (by assumption) ?_
          case hya1 => (intro wq hSw; (try dsimp only at hSw); go_simp; try (with_reducible rfl))
          try simp only [Act.put, List.setIfInBounds_toArray, List.set_cons_zero, List.set_cons_succ]
          refine wpAnyH_take (i := 2) (v := ?va2) rfl (by kernel_rfl) (by kernel_rfl) (by kernel_rfl) (fun _ _ _ h => h) (Or.inl ⟨by rfl, ?hya2⟩) (by assumption) ?_
          case hya2 => (intro wq hSw; (try dsimp only at hSw); go_simp; try (with_reducible rfl))
          try simp only [Act.put, List.setIfInBounds_toArray, List.set_cons_zero, List.set_cons_succ]
          refine wpAnyH_take (i := 3) (v := ?va3) rfl (by kernel_rfl) (by kernel_rfl) (by kernel_rfl) (fun _ _ _ h => h) (Or.inl ⟨by rfl, ?hya3⟩) (by assumption) ?_
          case hya3 => (intro wq hSw; (try dsimp only at hSw); go_simp; try (with_reducible rfl))
          try simp only [Act.put, List.setIfInBounds_toArray, List.set_cons_zero, List.set_cons_succ]
          refine wpAnyH_take (i := 4) (v := ?va4) rfl (by kernel_rfl) (by kernel_rfl) (by kernel_rfl) (fun _ _ _ h => h) (Or.inl ⟨by rfl, ?hya4⟩) (by assumption) ?_
          case hya4 => (intro wq hSw; (try dsimp only at hSw); go_simp; try (with_reducible rfl))
          try simp only [Act.put, List.setIfInBounds_toArray, List.set_cons_zero, List.set_cons_succ]
          refine wpAnyH_ready (rs := [5]) (by kernel_rfl) (by simp) ?_
          refine AllReadyH.cons (o := { dst := some 41, op := Op.call { callee := Callee.value (Operand.func 51), args := #[Operand.tmp 38, Operand.tmp 39, Operand.tmp 40], argTypes := #[24, 69, 3] }, type := 83, pos := "balance.go:105", after := #[{ on := 2, ground := Ground.data }, { on := 3, ground := Ground.data }, { on := 4, ground := Ground.data }], guard := none }) rfl (fun K hK => ?_) AllReadyH.nil
          go_simp
          refine (sides_any _ _ _ _ _ _ _ (Kd.C_below HR.out HB.out.drew) hl HG.out).mono ?_
          rintro e W2 ⟨rfl, hb0⟩
          have hb := (Below.drew (Below.refl W.heap.size W)).trans hb0
          clear hb0
          have s00 := (hb.cell (World.block_lt_of_cell? _ _ c00)).trans c00
          have s01 := (hb.cell (World.block_lt_of_cell? _ _ c01)).trans c01
          have s1 := (hb.cell (World.block_lt_of_cell? _ _ c1)).trans c1
          have d21 := (hb.cell (World.block_lt_of_cell? _ _ c21)).trans c21
          have d22 := (hb.cell (World.block_lt_of_cell? _ _ c22)).trans c22
          have d3 := (hb.cell (World.block_lt_of_cell? _ _ c3)).trans c3
          have d4 := (hb.cell (World.block_lt_of_cell? _ _ c4)).trans c4
          have d5 := (hb.cell (World.block_lt_of_cell? _ _ c5)).trans c5
          have e3 := (hb.frozen (World.block_lt_of_cell? _ _ c3)).trans z3
          have e4 := (hb.frozen (World.block_lt_of_cell? _ _ c4)).trans z4
          have e5 := (hb.frozen (World.block_lt_of_cell? _ _ c5)).trans z5
          have sz := World.block_lt_of_cell? _ _ d5
          have sz4 := World.block_lt_of_cell? _ _ d4
          have sz3 := World.block_lt_of_cell? _ _ d3
          have sz2 := World.block_lt_of_cell? _ _ d22
          have HBB := Aside0.mk hb
          clear hb
          refine hK.out _ _ ⟨s00, s01, s1, d21⟩ (fun hHeld => ?_)
          clear hK K hHeld
          try simp only [Act.put, List.setIfInBounds_toArray, List.set_cons_zero, List.set_cons_succ]
          refine wpAnyH_ready (rs := [6]) (by kernel_rfl) (by simp) ?_
          refine AllReadyH.cons (o := { dst := some 42, op := Op.call { callee := Callee.value (Operand.tmp 37), args := #[Operand.tmp 41], argTypes := #[83] }, type := 3, pos := "balance.go:105", after := #[{ on := 1, ground := Ground.data }, { on := 5, ground := Ground.data }, { on := 5, ground := Ground.chain }], guard := none }) rfl (fun K hK => ?_) AllReadyH.nil
          go_simp
          refine (rest44 _ _ _ _ _ ta tb).mono ?_
          rintro e W3 ⟨rfl, rfl⟩
          refine hK.out _ _ ⟨cell_alloc_o _ s00, cell_alloc_o _ s01, cell_alloc_o _ s1, cell_alloc_o _ d21⟩ (fun hHeld => ?_)
          clear hK K s00 s01 s1
          try simp only [Act.put, List.setIfInBounds_toArray, List.set_cons_zero, List.set_cons_succ]
          refine wpAnyH_take (i := 7) (v := ?va7) rfl (by kernel_rfl) (by kernel_rfl) (by kernel_rfl) (fun _ _ _ h => h) (Or.inl ⟨by rfl, ?hya7⟩) (by assumption) ?_
          case hya7 => (intro wq hSw; (try dsimp only at hSw); go_simp; try (with_reducible rfl))
          try simp only [Act.put, List.setIfInBounds_toArray, List.set_cons_zero, List.set_cons_succ]
          refine wpAnyH_done (by kernel_rfl) ?_ _
          gi_wp2_with (refine ⟨trivial, ?_⟩; gi_at_call 45; refine (CallsIn.inRound lp (callsIn_wide.2 (better45 _ _ _))).mono ?_; rintro e W4 ⟨rfl, hq⟩; obtain rfl := hq.symm)
          have hst : stOf false l k (pre ++ [x]) = (total x k true false l - total x k false true l, x, true) := by rw [stOf_snoc]; unfold step; rw [if_pos ⟨ht, hf', by have hh := HBT.out; simp only [says, Bool.false_eq_true, if_false, if_true]; omega⟩]; simp only [says, Bool.false_eq_true, if_false, if_true]
          have k00 : (((W2.setCell ⟨w.heap.size + 1 + 1 + 1, 0, none⟩ (.int .i64 (total x k true false l - total x k false true l))).setCell ⟨w.heap.size + 1 + 1 + 1 + 1, 0, none⟩ (.int .u64 x)).setCell ⟨w.heap.size + 1 + 1 + 1 + 1 + 1, 0, none⟩ (.bool true)).cell? ⟨w.heap.size, 0, none⟩ = some (.int .i64 pl) := by rw [cell_set_other' _ _ _ (by omega), cell_set_other' _ _ _ (by omega), cell_set_other' _ _ _ (by omega)]; exact (HBB.out.cell (World.block_lt_of_cell? _ _ c00)).trans c00
          have k01 : (((W2.setCell ⟨w.heap.size + 1 + 1 + 1, 0, none⟩ (.int .i64 (total x k true false l - total x k false true l))).setCell ⟨w.heap.size + 1 + 1 + 1 + 1, 0, none⟩ (.int .u64 x)).setCell ⟨w.heap.size + 1 + 1 + 1 + 1 + 1, 0, none⟩ (.bool true)).cell? ⟨w.heap.size, 1, none⟩ = some (.slice (some ad) l.length c) := by rw [cell_set_other' _ _ _ (by omega), cell_set_other' _ _ _ (by omega), cell_set_other' _ _ _ (by omega)]; exact (HBB.out.cell (World.block_lt_of_cell? _ _ c01)).trans c01
          have k1 : (((W2.setCell ⟨w.heap.size + 1 + 1 + 1, 0, none⟩ (.int .i64 (total x k true false l - total x k false true l))).setCell ⟨w.heap.size + 1 + 1 + 1 + 1, 0, none⟩ (.int .u64 x)).setCell ⟨w.heap.size + 1 + 1 + 1 + 1 + 1, 0, none⟩ (.bool true)).cell? ⟨w.heap.size + 1, 0, none⟩ = some (.int .i64 k) := by rw [cell_set_other' _ _ _ (by omega), cell_set_other' _ _ _ (by omega), cell_set_other' _ _ _ (by omega)]; exact (HBB.out.cell (World.block_lt_of_cell? _ _ c1)).trans c1
          have k20 : (((W2.setCell ⟨w.heap.size + 1 + 1 + 1, 0, none⟩ (.int .i64 (total x k true false l - total x k false true l))).setCell ⟨w.heap.size + 1 + 1 + 1 + 1, 0, none⟩ (.int .u64 x)).setCell ⟨w.heap.size + 1 + 1 + 1 + 1 + 1, 0, none⟩ (.bool true)).cell? ⟨w.heap.size + 1 + 1, 0, none⟩ = some (.func (.func 43) #[] #[]) := by rw [cell_set_other' _ _ _ (by omega), cell_set_other' _ _ _ (by omega), cell_set_other' _ _ _ (by omega)]; exact (HBB.out.cell (World.block_lt_of_cell? _ _ c20)).trans c20
          have k21 : (((W2.setCell ⟨w.heap.size + 1 + 1 + 1, 0, none⟩ (.int .i64 (total x k true false l - total x k false true l))).setCell ⟨w.heap.size + 1 + 1 + 1 + 1, 0, none⟩ (.int .u64 x)).setCell ⟨w.heap.size + 1 + 1 + 1 + 1 + 1, 0, none⟩ (.bool true)).cell? ⟨w.heap.size + 1 + 1, 1, none⟩ = some (.func (.func 44) #[] #[]) := by rw [cell_set_other' _ _ _ (by omega), cell_set_other' _ _ _ (by omega), cell_set_other' _ _ _ (by omega)]; exact (HBB.out.cell (World.block_lt_of_cell? _ _ c21)).trans c21
          have k22 : (((W2.setCell ⟨w.heap.size + 1 + 1 + 1, 0, none⟩ (.int .i64 (total x k true false l - total x k false true l))).setCell ⟨w.heap.size + 1 + 1 + 1 + 1, 0, none⟩ (.int .u64 x)).setCell ⟨w.heap.size + 1 + 1 + 1 + 1 + 1, 0, none⟩ (.bool true)).cell? ⟨w.heap.size + 1 + 1, 2, none⟩ = some (.func (.func 45) #[] #[]) := by rw [cell_set_other' _ _ _ (by omega), cell_set_other' _ _ _ (by omega), cell_set_other' _ _ _ (by omega)]; exact (HBB.out.cell (World.block_lt_of_cell? _ _ c22)).trans c22
          have k60 : (((W2.setCell ⟨w.heap.size + 1 + 1 + 1, 0, none⟩ (.int .i64 (total x k true false l - total x k false true l))).setCell ⟨w.heap.size + 1 + 1 + 1 + 1, 0, none⟩ (.int .u64 x)).setCell ⟨w.heap.size + 1 + 1 + 1 + 1 + 1, 0, none⟩ (.bool true)).cell? ⟨w.heap.size + 1 + 1 + 1 + 1 + 1 + 1, 0, none⟩ = some (.int .i64 (rd_T47 l k).f0) := by rw [cell_set_other' _ _ _ (by omega), cell_set_other' _ _ _ (by omega), cell_set_other' _ _ _ (by omega)]; exact (HBB.out.cell (World.block_lt_of_cell? _ _ c60)).trans c60
          have k61 : (((W2.setCell ⟨w.heap.size + 1 + 1 + 1, 0, none⟩ (.int .i64 (total x k true false l - total x k false true l))).setCell ⟨w.heap.size + 1 + 1 + 1 + 1, 0, none⟩ (.int .u64 x)).setCell ⟨w.heap.size + 1 + 1 + 1 + 1 + 1, 0, none⟩ (.bool true)).cell? ⟨w.heap.size + 1 + 1 + 1 + 1 + 1 + 1, 1, none⟩ = some (.int .i64 (rd_T47 l k).f1) := by rw [cell_set_other' _ _ _ (by omega), cell_set_other' _ _ _ (by omega), cell_set_other' _ _ _ (by omega)]; exact (HBB.out.cell (World.block_lt_of_cell? _ _ c61)).trans c61
          have k62 : (((W2.setCell ⟨w.heap.size + 1 + 1 + 1, 0, none⟩ (.int .i64 (total x k true false l - total x k false true l))).setCell ⟨w.heap.size + 1 + 1 + 1 + 1, 0, none⟩ (.int .u64 x)).setCell ⟨w.heap.size + 1 + 1 + 1 + 1 + 1, 0, none⟩ (.bool true)).cell? ⟨w.heap.size + 1 + 1 + 1 + 1 + 1 + 1, 2, none⟩ = some (.int .i64 (rd_T47 l k).f2.f0) := by rw [cell_set_other' _ _ _ (by omega), cell_set_other' _ _ _ (by omega), cell_set_other' _ _ _ (by omega)]; exact (HBB.out.cell (World.block_lt_of_cell? _ _ c62)).trans c62
          have k63 : (((W2.setCell ⟨w.heap.size + 1 + 1 + 1, 0, none⟩ (.int .i64 (total x k true false l - total x k false true l))).setCell ⟨w.heap.size + 1 + 1 + 1 + 1, 0, none⟩ (.int .u64 x)).setCell ⟨w.heap.size + 1 + 1 + 1 + 1 + 1, 0, none⟩ (.bool true)).cell? ⟨w.heap.size + 1 + 1 + 1 + 1 + 1 + 1, 3, none⟩ = some (.int .i64 (rd_T47 l k).f2.f1) := by rw [cell_set_other' _ _ _ (by omega), cell_set_other' _ _ _ (by omega), cell_set_other' _ _ _ (by omega)]; exact (HBB.out.cell (World.block_lt_of_cell? _ _ c63)).trans c63
          have k8 : (((W2.setCell ⟨w.heap.size + 1 + 1 + 1, 0, none⟩ (.int .i64 (total x k true false l - total x k false true l))).setCell ⟨w.heap.size + 1 + 1 + 1 + 1, 0, none⟩ (.int .u64 x)).setCell ⟨w.heap.size + 1 + 1 + 1 + 1 + 1, 0, none⟩ (.bool true)).cell? ⟨w.heap.size + 1 + 1 + 1 + 1 + 1 + 1 + 1 + 1, 0, none⟩ = some (.int .i64 pl) := by rw [cell_set_other' _ _ _ (by omega), cell_set_other' _ _ _ (by omega), cell_set_other' _ _ _ (by omega)]; exact (HBB.out.cell (World.block_lt_of_cell? _ _ c8)).trans c8
          have k3 : (((W2.setCell ⟨w.heap.size + 1 + 1 + 1, 0, none⟩ (.int .i64 (total x k true false l - total x k false true l))).setCell ⟨w.heap.size + 1 + 1 + 1 + 1, 0, none⟩ (.int .u64 x)).setCell ⟨w.heap.size + 1 + 1 + 1 + 1 + 1, 0, none⟩ (.bool true)).cell? ⟨w.heap.size + 1 + 1 + 1, 0, none⟩ = some (.int .i64 (total x k true false l - total x k false true l)) := by rw [cell_set_other' _ _ _ (by omega), cell_set_other' _ _ _ (by omega)]; exact World.cell?_setCell_same' _ _ _ (by rw [d3]; rfl)
          have k4 : (((W2.setCell ⟨w.heap.size + 1 + 1 + 1, 0, none⟩ (.int .i64 (total x k true false l - total x k false true l))).setCell ⟨w.heap.size + 1 + 1 + 1 + 1, 0, none⟩ (.int .u64 x)).setCell ⟨w.heap.size + 1 + 1 + 1 + 1 + 1, 0, none⟩ (.bool true)).cell? ⟨w.heap.size + 1 + 1 + 1 + 1, 0, none⟩ = some (.int .u64 x) := by rw [cell_set_other' _ _ _ (by omega)]; exact World.cell?_setCell_same' _ _ _ (by rw [cell_set_other' _ _ _ (by omega), d4]; rfl)
          have k5 : (((W2.setCell ⟨w.heap.size + 1 + 1 + 1, 0, none⟩ (.int .i64 (total x k true false l - total x k false true l))).setCell ⟨w.heap.size + 1 + 1 + 1 + 1, 0, none⟩ (.int .u64 x)).setCell ⟨w.heap.size + 1 + 1 + 1 + 1 + 1, 0, none⟩ (.bool true)).cell? ⟨w.heap.size + 1 + 1 + 1 + 1 + 1, 0, none⟩ = some (.bool true) := World.cell?_setCell_same' _ _ _ (by rw [cell_set_other' _ _ _ (by omega), cell_set_other' _ _ _ (by omega), d5]; rfl)
          have hk3 : w.heap.size ≤ w.heap.size + 1 + 1 + 1 := by omega
          have hk4 : w.heap.size ≤ w.heap.size + 1 + 1 + 1 + 1 := by omega
          have hk5 : w.heap.size ≤ w.heap.size + 1 + 1 + 1 + 1 + 1 := by omega
          have hbw : Below w.heap.size w W2 := HB.out.trans (HBB.out.mono HB.out.size)
          refine ⟨((((keeps_of_below HBB.out).trans (KeepsOthers.setCell _ _ _)).trans (KeepsOthers.setCell _ _ _)).trans (KeepsOthers.setCell _ _ _)).trans (KeepsOthers.alloc _ _), fun o => ?_, ?_, ?_⟩
          · refine (cell_alloc_any _ _ ?_).trans ?_
            · have := World.block_lt_of_cell? _ _ k8
              exact this
            · rw [cell_set_other' _ _ _ (by omega), cell_set_other' _ _ _ (by omega), cell_set_other' _ _ _ (by omega)]
              exact HBB.out.cell (p := ⟨w.heap.size + 1 + 1 + 1 + 1 + 1 + 1 + 1 + 1, o, none⟩) (World.block_lt_of_cell? W ⟨w.heap.size + 1 + 1 + 1 + 1 + 1 + 1 + 1 + 1, 0, none⟩ c8)
          · rw [hst]
            exact ⟨cell_alloc_o _ k00, cell_alloc_o _ k01, cell_alloc_o _ k1, cell_alloc_o _ k20, cell_alloc_o _ k21, cell_alloc_o _ k22, cell_alloc_o _ k3, cell_alloc_o _ k4, cell_alloc_o _ k5, cell_alloc_o _ k60, cell_alloc_o _ k61, cell_alloc_o _ k62, cell_alloc_o _ k63, cell_alloc_o _ k8, (frozen_alloc_o _ k3).trans (by rw [World.frozen?_setCell, World.frozen?_setCell, World.frozen?_setCell]; exact e3), (frozen_alloc_o _ k4).trans (by rw [World.frozen?_setCell, World.frozen?_setCell, World.frozen?_setCell]; exact e4), (frozen_alloc_o _ k5).trans (by rw [World.frozen?_setCell, World.frozen?_setCell, World.frozen?_setCell]; exact e5)⟩
          · repeat (first | exact hbw | apply below_alloc | refine below_set ?_ hk3 | refine below_set ?_ hk4 | refine below_set ?_ hk5)
        · have hd : decide ((stOf false l k pre).1 < total x k true false l - total x k false true l) = false := decide_eq_false hbt
          have HBT := Aside0.mk hbt
          clear hbt
          gi_wp2_with (refine ⟨trivial, ?_⟩; gi_at_call 50; refine (CallsIn.inRound lp (callsIn_wide.2 (has_any _ _ _ (by assumption)))).mono ?_; rintro e W' ⟨rfl, hq⟩; obtain rfl := hq.symm)
          refine round_region (fun W' => W'.cell? ⟨w.heap.size, 0, none⟩ = some (.int .i64 pl) ∧ W'.cell? ⟨w.heap.size, 1, none⟩ = some (.slice (some ad) l.length c) ∧ W'.cell? ⟨w.heap.size + 1, 0, none⟩ = some (.int .i64 k) ∧ W'.cell? ⟨w.heap.size + 1 + 1, 1, none⟩ = some (.func (.func 44) #[] #[])) (by kernel_rfl) (by kernel_rfl) (fun ⟨_, _, h⟩ => h) ⟨c00, c01, c1, c21⟩ (fun hHeld => ?_)
          refine wpAnyH_take (i := 0) (v := ?vb0) rfl (by kernel_rfl) (by kernel_rfl) (by kernel_rfl) (fun _ _ _ h => h) (Or.inl ⟨by rfl, ?hyb0⟩) (by assumption) ?_
          case hyb0 => (intro wq hSw; (try dsimp only at hSw); go_simp; try (with_reducible rfl))
          try simp only [Act.put, List.setIfInBounds_toArray, List.set_cons_zero, List.set_cons_succ]
          refine wpAnyH_take (i := 1) (v := ?vb1) rfl (by kernel_rfl) (by kernel_rfl) (by kernel_rfl) (fun _ _ _ h => h) (Or.inl ⟨by rfl, ?hyb1⟩) (by assumption) ?_
          case hyb1 => (intro wq hSw; (try dsimp only at hSw); go_simp; try (with_reducible rfl))
          try simp only [Act.put, List.setIfInBounds_toArray, List.set_cons_zero, List.set_cons_succ]
          refine wpAnyH_take (i := 2) (v := ?vb2) rfl (by kernel_rfl) (by kernel_rfl) (by kernel_rfl) (fun _ _ _ h => h) (Or.inl ⟨by rfl, ?hyb2⟩) (by assumption) ?_
          case hyb2 => (intro wq hSw; (try dsimp only at hSw); go_simp; try (with_reducible rfl))
          try simp only [Act.put, List.setIfInBounds_toArray, List.set_cons_zero, List.set_cons_succ]
          refine wpAnyH_take (i := 3) (v := ?vb3) rfl (by kernel_rfl) (by kernel_rfl) (by kernel_rfl) (fun _ _ _ h => h) (Or.inl ⟨by rfl, ?hyb3⟩) (by assumption) ?_
          case hyb3 => (intro wq hSw; (try dsimp only at hSw); go_simp; try (with_reducible rfl))
          try simp only [Act.put, List.setIfInBounds_toArray, List.set_cons_zero, List.set_cons_succ]
          refine wpAnyH_take (i := 4) (v := ?vb4) rfl (by kernel_rfl) (by kernel_rfl) (by kernel_rfl) (fun _ _ _ h => h) (Or.inl ⟨by rfl, ?hyb4⟩) (by assumption) ?_
          case hyb4 => (intro wq hSw; (try dsimp only at hSw); go_simp; try (with_reducible rfl))
          try simp only [Act.put, List.setIfInBounds_toArray, List.set_cons_zero, List.set_cons_succ]
          refine wpAnyH_ready (rs := [5]) (by kernel_rfl) (by simp) ?_
          refine AllReadyH.cons (o := { dst := some 41, op := Op.call { callee := Callee.value (Operand.func 51), args := #[Operand.tmp 38, Operand.tmp 39, Operand.tmp 40], argTypes := #[24, 69, 3] }, type := 83, pos := "balance.go:105", after := #[{ on := 2, ground := Ground.data }, { on := 3, ground := Ground.data }, { on := 4, ground := Ground.data }], guard := none }) rfl (fun K hK => ?_) AllReadyH.nil
          go_simp
          refine (sides_any _ _ _ _ _ _ _ (Kd.C_below HR.out HB.out.drew) hl HG.out).mono ?_
          rintro e W2 ⟨rfl, hb0⟩
          have hb := (Below.drew (Below.refl W.heap.size W)).trans hb0
          clear hb0
          have s00 := (hb.cell (World.block_lt_of_cell? _ _ c00)).trans c00
          have s01 := (hb.cell (World.block_lt_of_cell? _ _ c01)).trans c01
          have s1 := (hb.cell (World.block_lt_of_cell? _ _ c1)).trans c1
          have d21 := (hb.cell (World.block_lt_of_cell? _ _ c21)).trans c21
          have d22 := (hb.cell (World.block_lt_of_cell? _ _ c22)).trans c22
          have d3 := (hb.cell (World.block_lt_of_cell? _ _ c3)).trans c3
          have d4 := (hb.cell (World.block_lt_of_cell? _ _ c4)).trans c4
          have d5 := (hb.cell (World.block_lt_of_cell? _ _ c5)).trans c5
          have e3 := (hb.frozen (World.block_lt_of_cell? _ _ c3)).trans z3
          have e4 := (hb.frozen (World.block_lt_of_cell? _ _ c4)).trans z4
          have e5 := (hb.frozen (World.block_lt_of_cell? _ _ c5)).trans z5
          have sz := World.block_lt_of_cell? _ _ d5
          have sz4 := World.block_lt_of_cell? _ _ d4
          have sz3 := World.block_lt_of_cell? _ _ d3
          have sz2 := World.block_lt_of_cell? _ _ d22
          have HBB := Aside0.mk hb
          clear hb
          refine hK.out _ _ ⟨s00, s01, s1, d21⟩ (fun hHeld => ?_)
          clear hK K hHeld
          try simp only [Act.put, List.setIfInBounds_toArray, List.set_cons_zero, List.set_cons_succ]
          refine wpAnyH_ready (rs := [6]) (by kernel_rfl) (by simp) ?_
          refine AllReadyH.cons (o := { dst := some 42, op := Op.call { callee := Callee.value (Operand.tmp 37), args := #[Operand.tmp 41], argTypes := #[83] }, type := 3, pos := "balance.go:105", after := #[{ on := 1, ground := Ground.data }, { on := 5, ground := Ground.data }, { on := 5, ground := Ground.chain }], guard := none }) rfl (fun K hK => ?_) AllReadyH.nil
          go_simp
          refine (rest44 _ _ _ _ _ ta tb).mono ?_
          rintro e W3 ⟨rfl, rfl⟩
          refine hK.out _ _ ⟨cell_alloc_o _ s00, cell_alloc_o _ s01, cell_alloc_o _ s1, cell_alloc_o _ d21⟩ (fun hHeld => ?_)
          clear hK K s00 s01 s1
          try simp only [Act.put, List.setIfInBounds_toArray, List.set_cons_zero, List.set_cons_succ]
          refine wpAnyH_take (i := 7) (v := ?vb7) rfl (by kernel_rfl) (by kernel_rfl) (by kernel_rfl) (fun _ _ _ h => h) (Or.inl ⟨by rfl, ?hyb7⟩) (by assumption) ?_
          case hyb7 => (intro wq hSw; (try dsimp only at hSw); go_simp; try (with_reducible rfl))
          try simp only [Act.put, List.setIfInBounds_toArray, List.set_cons_zero, List.set_cons_succ]
          refine wpAnyH_done (by kernel_rfl) ?_ _
          gi_wp2_with (refine ⟨trivial, ?_⟩; gi_at_call 45; refine (CallsIn.inRound lp (callsIn_wide.2 (better45 _ _ _))).mono ?_; rintro e W4 ⟨rfl, hq⟩; obtain rfl := hq.symm)
          have hb2 : Below W.heap.size W (W2.alloc (.cells #[.int .i64 (total x k false false l), .int .i64 (total x k false true l), .int .i64 (total x k true false l), .int .i64 (total x k true true l)] 83)) := by
            repeat (first | exact HBB.out | apply below_alloc)
          have hst : stOf false l k (pre ++ [x]) = stOf false l k pre := by rw [stOf_snoc]; unfold step; rw [if_neg]; rintro ⟨_, _, h3⟩; simp only [says, Bool.false_eq_true, if_false, if_true] at h3; have hh := HBT.out; omega
          refine ⟨keeps_of_below hb2, fun o => hb2.cell (p := ⟨w.heap.size + 1 + 1 + 1 + 1 + 1 + 1 + 1 + 1, o, none⟩) (World.block_lt_of_cell? W ⟨w.heap.size + 1 + 1 + 1 + 1 + 1 + 1 + 1 + 1, 0, none⟩ c8), ?_, HB.out.trans (hb2.mono HB.out.size)⟩
          rw [hst]
          exact ⟨(hb2.cell (World.block_lt_of_cell? _ _ c00)).trans c00, (hb2.cell (World.block_lt_of_cell? _ _ c01)).trans c01, (hb2.cell (World.block_lt_of_cell? _ _ c1)).trans c1, (hb2.cell (World.block_lt_of_cell? _ _ c20)).trans c20, (hb2.cell (World.block_lt_of_cell? _ _ c21)).trans c21, (hb2.cell (World.block_lt_of_cell? _ _ c22)).trans c22, (hb2.cell (World.block_lt_of_cell? _ _ c3)).trans c3, (hb2.cell (World.block_lt_of_cell? _ _ c4)).trans c4, (hb2.cell (World.block_lt_of_cell? _ _ c5)).trans c5, (hb2.cell (World.block_lt_of_cell? _ _ c60)).trans c60, (hb2.cell (World.block_lt_of_cell? _ _ c61)).trans c61, (hb2.cell (World.block_lt_of_cell? _ _ c62)).trans c62, (hb2.cell (World.block_lt_of_cell? _ _ c63)).trans c63, (hb2.cell (World.block_lt_of_cell? _ _ c8)).trans c8, (hb2.frozen (World.block_lt_of_cell? _ _ c3)).trans z3, (hb2.frozen (World.block_lt_of_cell? _ _ c4)).trans z4, (hb2.frozen (World.block_lt_of_cell? _ _ c5)).trans z5⟩
    · have ht' : hasB x (rd_T47 l k).f1 = false := by simpa using ht
      clear ht
      gi_wp2_with (refine ⟨trivial, ?_⟩; gi_at_call 50; refine (CallsIn.inRound lp (callsIn_wide.2 (has_any _ _ _ (by assumption)))).mono ?_; rintro e W' ⟨rfl, hq⟩; obtain rfl := hq.symm)
      refine ⟨trivial, ?_⟩
      gi_wp2_with (refine ⟨trivial, ?_⟩; gi_at_call 50; refine (CallsIn.inRound lp (callsIn_wide.2 (has_any _ _ _ (by assumption)))).mono ?_; rintro e W' ⟨rfl, hq⟩; obtain rfl := hq.symm)
      have hst : stOf false l k (pre ++ [x]) = stOf false l k pre := by rw [stOf_snoc]; unfold step; rw [if_neg]; rintro ⟨h1, h2, h3⟩; rw [ht'] at h1; cases h1
      exact ⟨KeepsOthers.refl _, fun _ => rfl, by rw [hst]; exact ⟨c00, c01, c1, c20, c21, c22, c3, c4, c5, c60, c61, c62, c63, c8, z3, z4, z5⟩, HB.out⟩
  case done =>
    rintro D ys W hD rfl ⟨⟨c00, c01, c1, c20, c21, c22, c3, c4, c5, c60, c61, c62, c63, c8, z3, z4, z5⟩, hB⟩ hK
    have HST : Aside0 (stOf false l k (setsL pl) = boundS false pl l k) := ⟨rfl⟩
    rw [HST.out] at c3 c4 c5
    have HBW := Aside0.mk hB
    have HKW := Aside0.mk hK
    clear hB hK hB0 HA y8 HST
    gi_wp2
    refine wpIn_wide.2 ?_
    go_region
    all_goals
      gi_wp2
      have hKd : ((((W.setCell ⟨w.heap.size + 1 + 1 + 1, 0, none⟩ (.int .i64 (boundS false pl l k).1)).setCell ⟨w.heap.size + 1 + 1 + 1 + 1, 0, none⟩ (.int .u64 (boundS false pl l k).2.1)).setCell ⟨w.heap.size + 1 + 1 + 1 + 1 + 1, 0, none⟩ (.bool (boundS false pl l k).2.2)).drew).heap[D]? = some (.deferred (some [])) := (((KeepsOthers.setCell W ⟨w.heap.size + 1 + 1 + 1, 0, none⟩ (.int .i64 (boundS false pl l k).1)).trans (KeepsOthers.setCell _ ⟨w.heap.size + 1 + 1 + 1 + 1, 0, none⟩ (.int .u64 (boundS false pl l k).2.1))).trans (KeepsOthers.setCell _ ⟨w.heap.size + 1 + 1 + 1 + 1 + 1, 0, none⟩ (.bool (boundS false pl l k).2.2))).same D _ HKW.out rfl
      have k3 : ((((W.setCell ⟨w.heap.size + 1 + 1 + 1, 0, none⟩ (.int .i64 (boundS false pl l k).1)).setCell ⟨w.heap.size + 1 + 1 + 1 + 1, 0, none⟩ (.int .u64 (boundS false pl l k).2.1)).setCell ⟨w.heap.size + 1 + 1 + 1 + 1 + 1, 0, none⟩ (.bool (boundS false pl l k).2.2)).drew).cell? ⟨w.heap.size + 1 + 1 + 1, 0, none⟩ = some (.int .i64 (boundS false pl l k).1) := by show ((((W.setCell ⟨w.heap.size + 1 + 1 + 1, 0, none⟩ (.int .i64 (boundS false pl l k).1)).setCell ⟨w.heap.size + 1 + 1 + 1 + 1, 0, none⟩ (.int .u64 (boundS false pl l k).2.1)).setCell ⟨w.heap.size + 1 + 1 + 1 + 1 + 1, 0, none⟩ (.bool (boundS false pl l k).2.2))).cell? _ = _; rw [cell_set_other' _ _ _ (by omega), cell_set_other' _ _ _ (by omega)]; exact World.cell?_setCell_same' _ _ _ (by rw [c3]; rfl)
      have k4 : ((((W.setCell ⟨w.heap.size + 1 + 1 + 1, 0, none⟩ (.int .i64 (boundS false pl l k).1)).setCell ⟨w.heap.size + 1 + 1 + 1 + 1, 0, none⟩ (.int .u64 (boundS false pl l k).2.1)).setCell ⟨w.heap.size + 1 + 1 + 1 + 1 + 1, 0, none⟩ (.bool (boundS false pl l k).2.2)).drew).cell? ⟨w.heap.size + 1 + 1 + 1 + 1, 0, none⟩ = some (.int .u64 (boundS false pl l k).2.1) := by show ((((W.setCell ⟨w.heap.size + 1 + 1 + 1, 0, none⟩ (.int .i64 (boundS false pl l k).1)).setCell ⟨w.heap.size + 1 + 1 + 1 + 1, 0, none⟩ (.int .u64 (boundS false pl l k).2.1)).setCell ⟨w.heap.size + 1 + 1 + 1 + 1 + 1, 0, none⟩ (.bool (boundS false pl l k).2.2))).cell? _ = _; rw [cell_set_other' _ _ _ (by omega)]; exact World.cell?_setCell_same' _ _ _ (by rw [cell_set_other' _ _ _ (by omega), c4]; rfl)
      have k5 : ((((W.setCell ⟨w.heap.size + 1 + 1 + 1, 0, none⟩ (.int .i64 (boundS false pl l k).1)).setCell ⟨w.heap.size + 1 + 1 + 1 + 1, 0, none⟩ (.int .u64 (boundS false pl l k).2.1)).setCell ⟨w.heap.size + 1 + 1 + 1 + 1 + 1, 0, none⟩ (.bool (boundS false pl l k).2.2)).drew).cell? ⟨w.heap.size + 1 + 1 + 1 + 1 + 1, 0, none⟩ = some (.bool (boundS false pl l k).2.2) := World.cell?_setCell_same' _ _ _ (by rw [cell_set_other' _ _ _ (by omega), cell_set_other' _ _ _ (by omega), c5]; rfl)
      refine ⟨by simp, .inl ⟨_, _, rfl, run_takeDeferred hKd, ?_⟩⟩
      have m3 := cell_kept k3 (grownBy_putObj' _ D (.deferred none)) (fun r e => by cases e; exact ⟨_, hKd, rfl⟩)
      have m4 := cell_kept k4 (grownBy_putObj' _ D (.deferred none)) (fun r e => by cases e; exact ⟨_, hKd, rfl⟩)
      have m5 := cell_kept k5 (grownBy_putObj' _ D (.deferred none)) (fun r e => by cases e; exact ⟨_, hKd, rfl⟩)
      refine ⟨.tuple #[.int .i64 (boundS false pl l k).1, .int .u64 (boundS false pl l k).2.1, .bool (boundS false pl l k).2.2], ?_, rfl, ?_⟩
      · simp [results, Try.f33, go_sem, m3, m4, m5]
      · have hk3 : w.heap.size ≤ w.heap.size + 1 + 1 + 1 := by omega
        have hk4 : w.heap.size ≤ w.heap.size + 1 + 1 + 1 + 1 := by omega
        have hk5 : w.heap.size ≤ w.heap.size + 1 + 1 + 1 + 1 + 1 := by omega
        refine Below.trans (?_ : Below w.heap.size w ((((W.setCell ⟨w.heap.size + 1 + 1 + 1, 0, none⟩ (.int .i64 (boundS false pl l k).1)).setCell ⟨w.heap.size + 1 + 1 + 1 + 1, 0, none⟩ (.int .u64 (boundS false pl l k).2.1)).setCell ⟨w.heap.size + 1 + 1 + 1 + 1 + 1, 0, none⟩ (.bool (boundS false pl l k).2.2)).drew)) (belowK_b (w := w) (Nat.le_refl _) _ D _ _ ?_ hKd rfl rfl)
        · exact Below.drew (below_set (below_set (below_set HBW.out hk3) hk4) hk5)
        · rw [hS0] at hD
          omega
end Go.Proofs.Ytalgbihpidpblaa.Print
