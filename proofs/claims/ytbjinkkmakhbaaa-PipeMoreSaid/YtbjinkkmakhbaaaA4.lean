/- The way from a junction back to the works: its iterator. -/
import Derived.Test.YtbjinkkmakhbaaaA3
import Derived.Test.YtbjinkkmakhbaaaRG
import Derived.RangeFuncNested
import Derived.RangeFuncBound
import Derived.RangeFuncCalls
import Derived.RangeFuncLeaves
import Derived.RangeFuncFrom
import Derived.Shelf.Abstract
import Derived.Shelf.RegionOpen
import Derived.OwnWalkIn
import Derived.TacticsInMore
import Derived.LoopNIn
import Derived.LoopIn
namespace Go.Proofs.Ytbjinkkmakhbaaa.Print
open Go.RowKit Go.Shelf Go.Proofs.YtbjinkkmakhbaaaW.PrintWords Go.Proofs.YtbjinkkmakhbaaaW.PrintLast Go.Proofs.YtbjinkkmakhbaaaW.PrintMore
set_option linter.unusedVariables false
set_option linter.unusedSimpArgs false
attribute [local go_sem] Oper.semAt_some

/-- A net, as it is read. -/
structure NetR (W : World) (P : Nat) (lo hi : Int) (A : Option Addr) (c : Nat) (js : List S50) (A' : Option Addr) (c' : Nat) (ms : List S54) (vs : List Value) : Prop where
  len : vs.length = 9
  blk : W.heap[P]? = some (.cells (netC lo hi A js.length c A' ms.length c' ++ vs.toArray) 95 (0, 0))
  row : ∀ (i : Nat) (v : Value), vs[i]? = some v → ∃ Av cv, v = .slice Av (kidsN ms i).length cv ∧ Kd.C (Kd.int .i64) W Av (kidsN ms i).length (kidsN ms i)
  jr : Kd.C k50 W A js.length js
  mr : Kd.C k54 W A' ms.length ms
theorem NetR.next {W W' : World} {P : Nat} {lo hi : Int} {A : Option Addr} {c : Nat} {js : List S50} {A' : Option Addr} {c' : Nat} {ms : List S54} {vs : List Value} (h : NetR W P lo hi A c js A' c' ms vs) (hb : Below W.heap.size W W') : NetR W' P lo hi A c js A' c' ms vs where
  len := h.len
  blk := blk_below h.blk hb
  row := fun i v hv => by
    obtain ⟨Av, cv, e, hC⟩ := h.row i v hv
    exact ⟨Av, cv, e, Kd.C_below hC hb⟩
  jr := Kd.C_below h.jr hb
  mr := Kd.C_below h.mr hb
theorem Made.reads {w W : World} {P : Nat} {lo hi : Int} {A : Option Addr} {c : Nat} {js : List S50} {A' : Option Addr} {c' : Nat} {ms : List S54} {vs : List Value} (h : Made w W P lo hi A c js A' c' ms vs (kidsN ms)) : NetR W P lo hi A c js A' c' ms vs where
  len := h.len
  blk := h.blk
  row := fun i v hv => by
    obtain ⟨Av, cv, e, hl, hC⟩ := Kd.R_reads (h.own i v hv)
    exact ⟨Av, cv, e, hC⟩
  jr := h.jr
  mr := h.mr
/-- The mains of the way from a junction back to the works. -/
def wayL (ms : List S54) : Nat → List Int
  | 0 => []
  | k + 1 => (k : Int) :: wayL ms (min (rd_T54 ms k).f0.toNat k)
termination_by j => j
decreasing_by omega
abbrev encK (k : Int) : Array Value := #[.int .i64 k]
/-- Some blocks are as they were. -/
def KpS (Q : Nat → Prop) (W W' : World) : Prop := ∀ b, Q b → W'.heap[b]? = W.heap[b]?
theorem KpS.cell {Q : Nat → Prop} {W W' : World} (h : KpS Q W W') {a : Addr} (ha : Q a.block) : W'.cell? a = W.cell? a := by
  unfold World.cell?
  rw [h a.block ha]
theorem kps_trans {Q : Nat → Prop} {A B C : World} (h : KpS Q A B) (k : KpS Q B C) : KpS Q A C := fun b hb => (k b hb).trans (h b hb)
theorem kps_put {Q : Nat → Prop} {w : World} (h : ∀ b, Q b → b < w.heap.size) (W : World) (l : Nat) (o o' : Obj) (hl : w.heap.size ≤ l) : KpS Q W (W.putObj l o') := fun b hb => World.putObj_heap_other (by have := h b hb; omega)
theorem add_block (ad : Addr) (m : Nat) : (ad.add m).block = ad.block := by unfold Addr.add; split <;> rfl
set_option maxHeartbeats 2000000 in
set_option maxRecDepth 100000 in
theorem way_seq (F : Fence) (n : Nat) (h70 : F.fn 70) (hro : F.round = none) (hn : 1 ≤ n) (ms : List S54) (A' : Option Addr) (c' : Nat) (P BX BJ j0 : Nat) (W : World) (hx : W.cell? ⟨BX, 0, none⟩ = some (.pointer (some ⟨P, 0, none⟩))) (jc : W.cell? ⟨BJ, 0, none⟩ = some (.int .i64 (j0 : Int)))
    (hm : W.cell? ⟨P, 3, none⟩ = some (.slice A' ms.length c')) (hr : Kd.C k54 W A' ms.length ms) (hok : anyM 0 ms = false) (hj0 : j0 ≤ ms.length) (h8 : ms.length ≤ 8)
    (Q : Nat → Prop) (q1 : Q BX) (q2 : Q P) (q3 : ∀ ad, A' = some ad → 0 < ms.length → Q ad.block) :
    SeqEf F n Try.prog 70 #[.pointer (some ⟨BJ, 0, none⟩), .pointer (some ⟨BX, 0, none⟩)] encK (KpS Q) (fun A B => A = B) (fun pre x => ∃ (k : Nat) (r : List Int), x = (k : Int) ∧ k < ms.length ∧ pre ++ x :: r = wayL ms j0) (fun xs _ => xs = wayL ms j0) (fun _ => True) W := fun l J Jx hJ hJx hY h0 => by
  refine callsIn_of_wp Try.func70 rfl h70 ?_ hro
  simp only [Try.ntmps70, List.size_toArray, List.length_cons, List.length_nil, Nat.reduceAdd, Nat.reduceSub, Array.replicate_succ, Array.replicate_zero, List.push_toArray, List.append_toArray, List.nil_append, List.cons_append]
  have HK := Aside0.mk hY
  have HX := Aside0.mk hx
  have HM := Aside0.mk hm
  have HR := Aside0.mk hr
  have HOK := Aside0.mk hok
  clear hY hJ hJx hx hm hr hok
  gi_wp2
  gi_loopw [4] (fun p wr => ∃ (j : Nat) (pre : List Int), p = .int .i64 (j : Int) ∧ pre.length + j ≤ j0 ∧ Aside0 (pre ++ wayL ms j = wayL ms j0) ∧ Aside0 (KpS Q W wr) ∧ Aside0 (J pre wr)) (fun p _ => (intOf p).toNat)
  case atStart => exact ⟨j0, [], rfl, by simp, ⟨rfl⟩, ⟨fun _ _ => rfl⟩, ⟨h0⟩⟩
  case round =>
    obtain ⟨j, pre, rfl, hle, HP, HKr, HJ⟩ := hrel
    by_cases hz : 0 < j
    · obtain ⟨k, rfl⟩ : ∃ k, j = k + 1 := ⟨j - 1, by omega⟩
      have hd : decide (((k + 1 : Nat) : Int) > 0) = true := decide_eq_true (by omega)
      have hwk : wrap64 (((k + 1 : Nat) : Int) - 1) = (k : Int) := by unfold wrap64; omega
      have hPre : ∃ (k' : Nat) (r : List Int), (k : Int) = (k' : Int) ∧ k' < ms.length ∧ pre ++ (k : Int) :: r = wayL ms j0 := ⟨k, wayL ms (min (rd_T54 ms k).f0.toNat k), rfl, by omega, by have := HP.out; rwa [wayL] at this⟩
      obtain ⟨fn, tmps, assign, body, hy, hR⟩ := HK.out pre (k : Int) wr HJ.out hPre
      clear hPre
      try unfold encK at hy
      have HRR := Aside0.mk hR
      clear hR
      have HKM := Aside0.mk (mains_ok HOK.out k (by omega))
      have HC : Aside0 (∀ W', KpS Q wr W' → W'.cell? ⟨BX, 0, none⟩ = some (.pointer (some ⟨P, 0, none⟩)) ∧ W'.cell? ⟨P, 3, none⟩ = some (.slice A' ms.length c') ∧ ∃ ad, A' = some ad ∧ W'.cell? (ad.add (k * 4)) = some (.int .i64 (rd_T54 ms k).f0)) := ⟨fun W' h => by
        have h2 := kps_trans HKr.out h
        refine ⟨(h2.cell q1).trans HX.out, (h2.cell q2).trans HM.out, ?_⟩
        obtain ⟨ad, e, g0, _⟩ := at_T54 HR.out k (by omega) (by omega)
        simp only [Int.toNat_natCast] at g0
        exact ⟨ad, e, (h2.cell (by rw [add_block]; exact q3 ad e (by omega))).trans g0⟩⟩
      gi_wp2
      refine HRR.out.mono ?_
      rintro e W' (⟨rfl, hJ', hk⟩ | ⟨rfl, hJx'⟩)
      · obtain ⟨c1, c2, ad, e, c3⟩ := HC.out W' hk
        cases e
        have k0 : (0 : Int) ≤ (k : Int) := Int.natCast_nonneg k
        have k1 : (k : Int) < (ms.length : Int) := by omega
        obtain ⟨i, hi⟩ : ∃ i : Nat, (rd_T54 ms k).f0 = (i : Int) := ⟨(rd_T54 ms k).f0.toNat, by have := HKM.out; omega⟩
        have hik : i ≤ k := by have := HKM.out; omega
        have hP2 := HP.out
        rw [wayL, hi, Int.toNat_natCast, Nat.min_eq_left hik] at hP2
        rw [hi] at c3
        have HP2 : Aside0 ((pre ++ [(k : Int)]) ++ wayL ms i = wayL ms j0) := ⟨by rw [← hP2]; simp⟩
        have HJ2 := Aside0.mk hJ'
        have HK2 := Aside0.mk (kps_trans HKr.out hk)
        clear hJ' hk hi hP2
        gi_wp2
        go_roundw
        case rel => exact ⟨i, pre ++ [(k : Int)], rfl, by simp; omega, HP2, HK2, HJ2⟩
        case measure => simp [intOf]; omega
      · have HJ2 := Aside0.mk hJx'
        clear hJx'
        have hP2 := HP.out
        rw [wayL] at hP2
        have HP2 : Aside0 ((pre ++ [(k : Int)]) ++ wayL ms (min (rd_T54 ms k).f0.toNat k) = wayL ms j0) := ⟨by rw [← hP2]; simp⟩
        clear hP2
        gi_wp2
        go_end0
        exact ⟨⟨_, rfl⟩, .inr ⟨_, trivial, HJ2.out⟩⟩
    · obtain rfl : j = 0 := by omega
      have hp := HP.out
      rw [wayL, List.append_nil] at hp
      have HP2 := Aside0.mk hp
      clear hp
      gi_wp2
      all_goals
        refine ⟨(fun _ h => by cases h), ?_⟩
        gi_wp2
        go_end0
        exact ⟨⟨_, rfl⟩, .inl ⟨_, HP2.out, HJ.out⟩⟩
end Go.Proofs.Ytbjinkkmakhbaaa.Print
