/- The ends (ends and its two functions). -/
import Derived.Test.YtbjinkkmakhbaaaA7
namespace Go.Proofs.Ytbjinkkmakhbaaa.Print
open Go.RowKit Go.Shelf Go.Proofs.YtbjinkkmakhbaaaW.PrintWords Go.Proofs.YtbjinkkmakhbaaaW.PrintLast Go.Proofs.YtbjinkkmakhbaaaW.PrintMore
set_option linter.unusedVariables false
set_option linter.unusedSimpArgs false
attribute [local go_sem] Oper.semAt_some
/-- The functions of the ends. -/
def fn71 : Value := .func (.func 71) #[] #[]
def fn72 : Value := .func (.func 72) #[] #[]
theorem lo_any (a b : Int) (w : World) :
    Calls Try.prog 71 #[.agg #[.int .i64 a, .int .i64 b]] w fun e w' => e = .returned (.int .i64 a) ∧ w' = w.alloc (.cells #[.int .i64 a, .int .i64 b] 23) := by
  go_enter Try.func71, Try.ntmps71
  go_wp2
  go_ret
  exact ⟨rfl, rfl⟩
theorem hi_any (a b : Int) (w : World) :
    Calls Try.prog 72 #[.agg #[.int .i64 a, .int .i64 b]] w fun e w' => e = .returned (.int .i64 b) ∧ w' = w.alloc (.cells #[.int .i64 a, .int .i64 b] 23) := by
  go_enter Try.func72, Try.ntmps72
  go_wp2
  go_ret
  exact ⟨rfl, rfl⟩
set_option maxHeartbeats 2000000 in
set_option maxRecDepth 100000 in
theorem ends_any (w : World) :
    Calls Try.prog 57 #[] w fun e w' => e = .returned (.agg #[fn72, .bool true, fn71, .bool false, fn71, .bool false, fn72, .bool true]) ∧ Below w.heap.size w w' := by
  go_enter Try.func57, Try.ntmps57
  go_wp2
  refine bodyPost_ret (v := .agg #[fn72, .bool true, fn71, .bool false, fn71, .bool false, fn72, .bool true]) ?_ rfl ?_
  · have hb : ((((w.alloc (Obj.cells #[fn72, .bool true, fn71, .bool false, fn71, .bool false, fn72, .bool true] 102)).alloc (Obj.cells #[fn71, .bool false] 100)).alloc (Obj.cells #[fn72, .bool true] 100))).heap[w.heap.size]? = some (.cells #[fn72, .bool true, fn71, .bool false, fn71, .bool false, fn72, .bool true] 102 (0, 0)) := blk_alloc (blk_alloc (blk_new w _) _) _
    have g0 := cell_two hb 0 rfl
    have g1 := cell_two hb 1 rfl
    have g2 := cell_two hb 2 rfl
    have g3 := cell_two hb 3 rfl
    have g4 := cell_two hb 4 rfl
    have g5 := cell_two hb 5 rfl
    have g6 := cell_two hb 6 rfl
    have g7 := cell_two hb 7 rfl
    simp only [fn71, fn72] at g0 g1 g2 g3 g4 g5 g6 g7 ⊢
    simp [results, Try.f57, go_sem, g0, g1, g2, g3, g4, g5, g6, g7]
  · exact ⟨rfl, below_alloc (below_alloc (below_alloc (Below.refl _ _) _) _) _⟩
end Go.Proofs.Ytbjinkkmakhbaaa.Print

namespace Go.Proofs.Ytbjinkkmakhbaaa.Print
open Go.RowKit Go.Shelf Go.Proofs.YtbjinkkmakhbaaaW.PrintWords Go.Proofs.YtbjinkkmakhbaaaW.PrintLast Go.Proofs.YtbjinkkmakhbaaaW.PrintMore
set_option linter.unusedVariables false
set_option linter.unusedSimpArgs false
attribute [local go_sem] Oper.semAt_some
theorem below_any (P F : Nat) (j : Int) (w : World) :
    Calls Try.prog 60 #[.pointer (some ⟨P, 0, none⟩), .pointer (some ⟨F, 0, none⟩), .int .i64 j] w fun e w' => e = .returned (.func (.func 73) #[] #[.pointer (some ⟨w.heap.size + 1, 0, none⟩), .pointer (some ⟨w.heap.size, 0, none⟩), .pointer (some ⟨w.heap.size + 1 + 1, 0, none⟩)]) ∧ w' = ((w.alloc (.cells #[.pointer (some ⟨P, 0, none⟩)] 69)).alloc (.cells #[.pointer (some ⟨F, 0, none⟩)] 108)).alloc (.cells #[.int .i64 j] 3) := by
  go_enter Try.func60, Try.ntmps60
  go_wp2
  go_ret
  exact ⟨rfl, rfl⟩
end Go.Proofs.Ytbjinkkmakhbaaa.Print

namespace Go.Proofs.Ytbjinkkmakhbaaa.Print
open Go.RowKit Go.Shelf Go.Proofs.YtbjinkkmakhbaaaW.PrintWords Go.Proofs.YtbjinkkmakhbaaaW.PrintLast Go.Proofs.YtbjinkkmakhbaaaW.PrintMore
set_option linter.unusedVariables false
set_option linter.unusedSimpArgs false
attribute [local go_sem] Oper.semAt_some
/-- The closure that goes below a junction. -/
def fn74 (BX BY BN BF : Nat) : Value := .func (.func 74) #[] #[.pointer (some ⟨BX, 0, none⟩), .pointer (some ⟨BY, 0, none⟩), .pointer (some ⟨BN, 0, none⟩), .pointer (some ⟨BF, 0, none⟩)]
/-- The negated one (76), given the call that it makes. -/
theorem neg_any (F : Fence) (n : Nat) (h76 : F.fn 76) (hro : F.round = none) (h74 : F.fn 74) (hn : 1 ≤ n) (x : Int) (BX BY BN BF : Nat) (W : World) (hf : W.cell? ⟨BF, 0, none⟩ = some (fn74 BX BY BN BF)) (R : Bool → World → Prop)
    (hc : CallsIn F (n - 1) Try.prog 74 #[.int .i64 x, .pointer (some ⟨BX, 0, none⟩), .pointer (some ⟨BY, 0, none⟩), .pointer (some ⟨BN, 0, none⟩), .pointer (some ⟨BF, 0, none⟩)] W fun e W' => ∃ b, e = .returned (.bool b) ∧ R b W') :
    CallsIn F n Try.prog 76 #[.int .i64 x, .pointer (some ⟨BF, 0, none⟩)] W fun e W' => ∃ b, e = .returned (.bool (!b)) ∧ R b W' := by
  refine callsIn_of_wp Try.func76 rfl h76 ?_ hro
  simp only [Try.ntmps76, List.size_toArray, List.length_cons, List.length_nil, Nat.reduceAdd, Nat.reduceSub, Array.replicate_succ, Array.replicate_zero, List.push_toArray, List.append_toArray, List.nil_append, List.cons_append]
  have HC := Aside0.mk hc
  clear hc
  simp only [fn74] at hf
  gi_wp2
  refine HC.out.mono ?_
  rintro e W' ⟨b, rfl, hR⟩
  have HR := Aside0.mk hR
  clear hR HC hf
  gi_wp2
  go_ret
  exact ⟨b, rfl, HR.out⟩
set_option maxHeartbeats 2000000 in
set_option maxRecDepth 100000 in
/-- The search through the kids (88), given its rounds. -/
theorem index_any (F : Fence) (n : Nat) (h88 : F.fn 88) (h76 : F.fn 76) (hro : F.round = none) (hn : 1 ≤ n) (kids : List Int) (A : Option Addr) (c BF : Nat) (hl : kids.length < 4611686018427387904) (J : Nat → World → Prop) (Jx : World → Prop)
    (hread : ∀ (k : Nat) W, J k W → (hk : k < kids.length) → ∃ ad, A = some ad ∧ W.cell? (ad.add k) = some (.int .i64 kids[k]))
    (hc : ∀ (k : Nat) W, J k W → (hk : k < kids.length) → CallsIn F (n - 1) Try.prog 76 #[.int .i64 kids[k], .pointer (some ⟨BF, 0, none⟩)] W fun e W' => ∃ b, e = .returned (.bool b) ∧ (b = false → J (k + 1) W') ∧ (b = true → Jx W'))
    (W : World) (h0 : J 0 W) :
    CallsIn F n Try.prog 88 #[.slice A kids.length c, .func (.func 76) #[] #[.pointer (some ⟨BF, 0, none⟩)]] W fun e W' => ∃ i : Int, e = .returned (.int .i64 i) ∧ ((i < 0 ∧ J kids.length W') ∨ (0 ≤ i ∧ Jx W')) := by
  refine callsIn_of_wp Try.func88 rfl h88 ?_ hro
  simp only [Try.ntmps88, List.size_toArray, List.length_cons, List.length_nil, Nat.reduceAdd, Nat.reduceSub, Array.replicate_succ, Array.replicate_zero, List.push_toArray, List.append_toArray, List.nil_append, List.cons_append]
  have HC := Aside0.mk hc
  have HRD := Aside0.mk hread
  clear hc hread
  gi_wp2
  gi_loopw [8] (fun p wr => ∃ k : Nat, p = .int .i64 (k : Int) ∧ k ≤ kids.length ∧ Aside0 (J k wr)) (fun p _ => kids.length - (intOf p).toNat)
  case atStart => exact ⟨0, rfl, by omega, ⟨h0⟩⟩
  case round =>
    clear h0
    obtain ⟨k, rfl, hk, HJ⟩ := hrel
    by_cases hlt : k < kids.length
    · have hlt' : decide ((k : Int) < (kids.length : Int)) = true := decide_eq_true (by omega)
      have k0 : (0 : Int) ≤ (k : Int) := Int.natCast_nonneg k
      have k1 : (k : Int) < (kids.length : Int) := by omega
      obtain ⟨ad, e, g0⟩ := HRD.out k wr HJ.out hlt
      cases e
      have HCC := Aside0.mk (HC.out k wr HJ.out hlt)
      generalize kids[k] = x at g0 HCC
      gi_wp2
      refine HCC.out.mono ?_
      rintro e W' ⟨b, rfl, hA, hB⟩
      have HA := Aside0.mk hA
      have HB := Aside0.mk hB
      clear hA hB HCC HC HRD g0
      cases b
      · gi_wp2
        go_roundw
        case rel => exact ⟨k + 1, by go_num, by omega, ⟨HA.out trivial⟩⟩
        case measure => simp [intOf]; omega
      · gi_wp2
        go_ret
        exact ⟨(k : Int), rfl, .inr ⟨k0, HB.out trivial⟩⟩
    · have hlt' : decide ((k : Int) < (kids.length : Int)) = false := decide_eq_false (by omega)
      obtain rfl : k = kids.length := by omega
      gi_wp2
      go_ret
      exact ⟨-1, rfl, .inl ⟨by omega, HJ.out⟩⟩
end Go.Proofs.Ytbjinkkmakhbaaa.Print

namespace Go.Proofs.Ytbjinkkmakhbaaa.Print
open Go.RowKit Go.Shelf Go.Proofs.YtbjinkkmakhbaaaW.PrintWords Go.Proofs.YtbjinkkmakhbaaaW.PrintLast Go.Proofs.YtbjinkkmakhbaaaW.PrintMore
set_option linter.unusedVariables false
set_option linter.unusedSimpArgs false
attribute [local go_sem] Oper.semAt_some
set_option maxHeartbeats 2000000 in
set_option maxRecDepth 100000 in
/-- ContainsFunc over the kids (75). -/
theorem contains_any (F : Fence) (n : Nat) (h75 : F.fn 75) (h88 : F.fn 88) (h76 : F.fn 76) (hro : F.round = none) (hn : 2 ≤ n) (kids : List Int) (A : Option Addr) (c BF : Nat) (hl : kids.length < 4611686018427387904) (J : Nat → World → Prop) (Jx : World → Prop)
    (hread : ∀ (k : Nat) W, J k W → (hk : k < kids.length) → ∃ ad, A = some ad ∧ W.cell? (ad.add k) = some (.int .i64 kids[k]))
    (hc : ∀ (k : Nat) W, J k W → (hk : k < kids.length) → CallsIn F (n - 1 - 1) Try.prog 76 #[.int .i64 kids[k], .pointer (some ⟨BF, 0, none⟩)] W fun e W' => ∃ b, e = .returned (.bool b) ∧ (b = false → J (k + 1) W') ∧ (b = true → Jx W'))
    (W : World) (h0 : J 0 W) :
    CallsIn F n Try.prog 75 #[.slice A kids.length c, .func (.func 76) #[] #[.pointer (some ⟨BF, 0, none⟩)]] W fun e W' => ∃ b, e = .returned (.bool b) ∧ (b = false → J kids.length W') ∧ (b = true → Jx W') := by
  have HI := Aside0.mk (index_any F (n - 1) h88 h76 hro (by omega) kids A c BF hl J Jx hread hc W h0)
  clear hc hread h0
  have hn1 : 1 ≤ n := by omega
  refine callsIn_of_wp Try.func75 rfl h75 ?_ hro
  simp only [Try.ntmps75, List.size_toArray, List.length_cons, List.length_nil, Nat.reduceAdd, Nat.reduceSub, Array.replicate_succ, Array.replicate_zero, List.push_toArray, List.append_toArray, List.nil_append, List.cons_append]
  gi_wp2
  refine HI.out.mono ?_
  rintro e W' ⟨i, rfl, hi⟩
  have HX := Aside0.mk hi
  clear hi HI
  by_cases hd0 : i ≥ 0
  · have hd : decide (i ≥ 0) = true := decide_eq_true hd0
    gi_wp2
    go_ret
    exact ⟨true, rfl, (fun h => by cases h), fun _ => (HX.out.resolve_left (fun h => by omega)).2⟩
  · have hd : decide (i ≥ 0) = false := decide_eq_false hd0
    gi_wp2
    go_ret
    exact ⟨false, rfl, fun _ => (HX.out.resolve_right (fun h => by omega)).2, (fun h => by cases h)⟩
end Go.Proofs.Ytbjinkkmakhbaaa.Print

namespace Go.Proofs.Ytbjinkkmakhbaaa.Print
open Go.RowKit Go.Shelf Go.Proofs.YtbjinkkmakhbaaaW.PrintWords Go.Proofs.YtbjinkkmakhbaaaW.PrintLast Go.Proofs.YtbjinkkmakhbaaaW.PrintMore
set_option linter.unusedVariables false
set_option linter.unusedSimpArgs false
attribute [local go_sem] Oper.semAt_some
theorem room_none {F : Fence} (hd : F.depth = none) (k : Nat) : F.room k := fun d h => by rw [hd] at h; cases h
theorem CallsIn.anyDepth {F : Fence} (hd : F.depth = none) {m : Nat} (m' : Nat) {P : Program} {f : FuncId} {args : Array Value} {w : World} {R : Ending → World → Prop} (h : CallsIn F m P f args w R) : CallsIn F m' P f args w R := ⟨h.1, fun cs _ => h.2 cs (room_none hd _)⟩
theorem YieldAt.anyDepth {F : Fence} (hd : F.depth = none) {m : Nat} (m' : Nat) {P : Program} {l : Nat} {args : Array Value} {W : World} {R : Ending → World → Prop} (h : YieldAt F m P l args W R) : YieldAt F m' P l args W R := by
  obtain ⟨fn, tmps, assign, body, hy, hR⟩ := h
  exact ⟨fn, tmps, assign, body, hy, hR.1, fun c cs _ => hR.2 c cs (room_none hd _)⟩
/-- The junctions below one, itself first, where they are fed. -/
def belowL (ms : List S54) (f : Nat → Bool) : Nat → Nat → List Int
  | 0, _ => []
  | d + 1, j => if f j then (j : Int) :: (kidsN ms j).flatMap (fun i => belowL ms f d i.toNat) else []
theorem kidsL_mem : ∀ (l : List S54) (k : Nat) (j i : Int), i ∈ kidsL k l j → ∃ t, t < l.length ∧ i = ((k + t : Nat) : Int) + 1 ∧ (rd_T54 l t).f0 = j := by
  intro l
  induction l with
  | nil => intro k j i h; simp [kidsL] at h
  | cons m r ih =>
    intro k j i h
    rw [kidsL] at h
    by_cases hm : m.f0 = j
    · rw [if_pos hm] at h
      rcases List.mem_cons.1 h with h | h
      · exact ⟨0, by simp, by simpa using h, by simpa [rd_T54] using hm⟩
      · obtain ⟨t, h1, h2, h3⟩ := ih (k + 1) j i h
        exact ⟨t + 1, by simp; omega, by rw [h2]; congr 2; omega, by simpa [rd_T54] using h3⟩
    · rw [if_neg hm] at h
      obtain ⟨t, h1, h2, h3⟩ := ih (k + 1) j i h
      exact ⟨t + 1, by simp; omega, by rw [h2]; congr 2; omega, by simpa [rd_T54] using h3⟩
theorem kid_more {ms : List S54} (hok : anyM 0 ms = false) {j : Nat} {i : Int} (h : i ∈ kidsN ms j) : ∃ c : Nat, i = (c : Int) ∧ j < c ∧ c ≤ ms.length := by
  obtain ⟨t, h1, h2, h3⟩ := kidsL_mem ms 0 j i h
  have := mains_ok hok t h1
  exact ⟨t + 1, by rw [h2]; simp, by omega, by omega⟩
theorem flat_split {l : List Int} (g : Int → List Int) {k : Nat} (hk : k < l.length) : l.flatMap g = (l.take k).flatMap g ++ (g l[k] ++ (l.drop (k + 1)).flatMap g) := by
  rw [← List.flatMap_cons, ← List.drop_eq_getElem_cons hk, ← List.flatMap_append, List.take_append_drop]
/-- What the closure reads. -/
structure BEnv (AV : Nat → Option Addr) (CV : Nat → Nat) (ms : List S54) (f : Nat → Bool) (l FB P BX BY BN BF : Nat) (W : World) : Prop where
  cx : W.cell? ⟨BX, 0, none⟩ = some (.pointer (some ⟨FB, 0, none⟩))
  cf : ∀ i, i < 9 → W.cell? ⟨FB, i, none⟩ = some (.bool (f i))
  cy : W.cell? ⟨BY, 0, none⟩ = some (.func (.yield l) #[] #[])
  cn : W.cell? ⟨BN, 0, none⟩ = some (.pointer (some ⟨P, 0, none⟩))
  cb : W.cell? ⟨BF, 0, none⟩ = some (fn74 BX BY BN BF)
  row : ∀ i, i < 9 → W.cell? ⟨P, 4 + i, none⟩ = some (.slice (AV i) (kidsN ms i).length (CV i))
  kid : ∀ i, i < 9 → ∀ (k : Nat) (hk : k < (kidsN ms i).length), ∃ ad, AV i = some ad ∧ W.cell? (ad.add k) = some (.int .i64 (kidsN ms i)[k])
set_option maxHeartbeats 2000000 in
set_option maxRecDepth 100000 in
theorem below_in (F : Fence) (hd : F.depth = none) (h74 : F.fn 74) (h75 : F.fn 75) (h76 : F.fn 76) (h88 : F.fn 88) (hro : F.round = none) (ms : List S54) (h8 : ms.length ≤ 8) (hok : anyM 0 ms = false) (AV : Nat → Option Addr) (CV : Nat → Nat) (f : Nat → Bool) (l FB P BX BY BN BF : Nat) (J Jx : List Int → World → Prop) (whole : List Int)
    (hJE : ∀ pre W, J pre W → BEnv AV CV ms f l FB P BX BY BN BF W)
    (hY : ∀ m pre (x : Nat) W, J pre W → x ≤ ms.length → (∃ r, pre ++ (x : Int) :: r = whole) → YieldAt F m Try.prog l #[.int .i64 (x : Int)] W fun e W' => (e = .returned (.bool true) ∧ J (pre ++ [(x : Int)]) W') ∨ (e = .returned (.bool false) ∧ Jx (pre ++ [(x : Int)]) W')) :
    ∀ (d n j : Nat) (pre : List Int) (W : World), j ≤ ms.length → ms.length < j + d → (∃ r, pre ++ (belowL ms f d j ++ r) = whole) → J pre W →
      CallsIn F n Try.prog 74 #[.int .i64 (j : Int), .pointer (some ⟨BX, 0, none⟩), .pointer (some ⟨BY, 0, none⟩), .pointer (some ⟨BN, 0, none⟩), .pointer (some ⟨BF, 0, none⟩)] W fun e W' => ∃ b, e = .returned (.bool b) ∧ ((b = true → J (pre ++ belowL ms f d j) W') ∧ (b = false → ∃ q, Jx q W')) := by
  intro d
  induction d with
  | zero => intro n j pre W h1 h2 _; omega
  | succ d ih =>
    intro n j pre W hj hjd ⟨rw0, hwh⟩ hJ
    refine CallsIn.anyDepth hd (m := 9) n ?_
    have HE := Aside0.mk (hJE pre W hJ)
    have c0 := HE.out.cx
    have c1 := HE.out.cf j (by omega)
    have c2 := HE.out.cy
    have j0 : (0 : Int) ≤ (j : Int) := Int.natCast_nonneg j
    have j9 : (j : Int) < 9 := by omega
    obtain ⟨fj, hfj⟩ : ∃ b, f j = b := ⟨_, rfl⟩
    rw [hfj] at c1
    cases fj
    · refine callsIn_of_wp Try.func74 rfl h74 ?_ hro
      simp only [Try.ntmps74, List.size_toArray, List.length_cons, List.length_nil, Nat.reduceAdd, Nat.reduceSub, Array.replicate_succ, Array.replicate_zero, List.push_toArray, List.append_toArray, List.nil_append, List.cons_append]
      have HJ := Aside0.mk hJ
      clear hJ hJE hY ih hwh
      gi_wp2
      go_ret
      refine ⟨true, rfl, fun _ => ?_, fun h => by cases h⟩
      rw [belowL, hfj]
      simpa using HJ.out
    · obtain ⟨fn, tmps, assign, body, hy, hR⟩ := hY (9 - 1) pre j W hJ hj ⟨(kidsN ms j).flatMap (fun i => belowL ms f d i.toNat) ++ rw0, by rw [← hwh, belowL, if_pos hfj, List.cons_append]⟩
      have HW : Aside0 (pre ++ ((j : Int) :: (kidsN ms j).flatMap (fun i => belowL ms f d i.toNat) ++ rw0) = whole) := ⟨by rw [← hwh, belowL, if_pos hfj]⟩
      have HR := Aside0.mk hR
      clear hR
      refine callsIn_of_wp Try.func74 rfl h74 ?_ hro
      simp only [Try.ntmps74, List.size_toArray, List.length_cons, List.length_nil, Nat.reduceAdd, Nat.reduceSub, Array.replicate_succ, Array.replicate_zero, List.push_toArray, List.append_toArray, List.nil_append, List.cons_append]
      have HJE := Aside0.mk hJE
      have IH := Aside0.mk ih
      clear hJ hJE hY ih hwh
      have RW : Aside0 (∀ W', J (pre ++ [(j : Int)]) W' → BEnv AV CV ms f l FB P BX BY BN BF W') := ⟨fun W' h => HJE.out _ W' h⟩
      gi_wp2
      refine HR.out.mono ?_
      rintro e W1 (⟨rfl, hJ1⟩ | ⟨rfl, hJx⟩)
      · have HE1 := Aside0.mk (HJE.out _ W1 hJ1)
        have d3 := HE1.out.cn
        have d4 := HE1.out.row j (by omega)
        have HKL : Aside0 ((kidsN ms j).length ≤ 8) := ⟨Nat.le_trans (kidsL_len ms 0 j) h8⟩
        have HC : Aside0 (CallsIn F (9 - 1) Try.prog 75 #[.slice (AV j) (kidsN ms j).length (CV j), .func (.func 76) #[] #[.pointer (some ⟨BF, 0, none⟩)]] W1 fun e W' => ∃ b, e = .returned (.bool b) ∧ (b = false → J (pre ++ ((j : Int) :: (kidsN ms j).flatMap (fun i => belowL ms f d i.toNat))) W') ∧ (b = true → ∃ q, Jx q W')) := ⟨by
          have hk0 := contains_any F (9 - 1) h75 h88 h76 hro (by omega) (kidsN ms j) (AV j) (CV j) BF (by have := HKL.out; omega) (fun k W' => J (pre ++ ((j : Int) :: ((kidsN ms j).take k).flatMap (fun i => belowL ms f d i.toNat))) W') (fun W' => ∃ q, Jx q W')
            (fun k W' hJ' hk => (HJE.out _ W' hJ').kid j (by omega) k hk)
            (fun k W' hJ' hk => by
              obtain ⟨c, hc, h1, h2⟩ := kid_more hok (List.getElem_mem hk)
              refine (neg_any F (9 - 1 - 1 - 1) h76 hro h74 (by omega) _ BX BY BN BF W' (HJE.out _ W' hJ').cb (fun b W2 => (b = true → J (pre ++ ((j : Int) :: ((kidsN ms j).take (k + 1)).flatMap (fun i => belowL ms f d i.toNat))) W2) ∧ (b = false → ∃ q, Jx q W2)) ?_).mono ?_
              · rw [hc]
                have hsp : ∃ r, pre ++ ((j : Int) :: ((kidsN ms j).take k).flatMap (fun i => belowL ms f d i.toNat)) ++ (belowL ms f d c ++ r) = whole := by
                  refine ⟨((kidsN ms j).drop (k + 1)).flatMap (fun i => belowL ms f d i.toNat) ++ rw0, ?_⟩
                  rw [← HW.out, flat_split (fun i => belowL ms f d i.toNat) hk, hc, Int.toNat_natCast]
                  simp
                refine (IH.out _ c _ W' h2 (by omega) hsp hJ').mono ?_
                rintro e W2 ⟨b, rfl, hA, hB⟩
                refine ⟨b, rfl, fun hb => ?_, hB⟩
                have := hA hb
                rw [List.take_succ_eq_append_getElem hk, List.flatMap_append]
                simp only [List.flatMap_cons, List.flatMap_nil, List.append_nil, hc, Int.toNat_natCast]
                simpa using this
              · rintro e W2 ⟨b, rfl, hA, hB⟩
                exact ⟨!b, rfl, fun h => hA (by simpa using h), fun h => hB (by simpa using h)⟩)
            W1 (by simpa using hJ1)
          refine hk0.mono ?_
          rintro e W' ⟨b, rfl, hA, hB⟩
          exact ⟨b, rfl, fun h => by simpa using hA h, hB⟩⟩
        clear hJ1 HJE IH HR RW HE1 HW
        gi_wp2
        refine HC.out.mono ?_
        rintro e W2 ⟨b, rfl, hA, hB⟩
        have HA := Aside0.mk hA
        have HB := Aside0.mk hB
        clear hA hB HC d3 d4 c0 c1 c2
        cases b
        · gi_wp2
          go_ret
          refine ⟨true, rfl, fun _ => ?_, fun h => by cases h⟩
          rw [belowL, if_pos hfj]
          exact HA.out trivial
        · gi_wp2
          go_ret
          exact ⟨false, rfl, (fun h => by cases h), fun _ => HB.out trivial⟩
      · have HX := Aside0.mk hJx
        clear hJx HR RW HJE IH
        gi_wp2
        go_ret
        exact ⟨false, rfl, (fun h => by cases h), fun _ => ⟨_, HX.out⟩⟩
end Go.Proofs.Ytbjinkkmakhbaaa.Print

namespace Go.Proofs.Ytbjinkkmakhbaaa.Print
open Go.RowKit Go.Shelf Go.Proofs.YtbjinkkmakhbaaaW.PrintWords Go.Proofs.YtbjinkkmakhbaaaW.PrintLast Go.Proofs.YtbjinkkmakhbaaaW.PrintMore
set_option linter.unusedVariables false
set_option linter.unusedSimpArgs false
attribute [local go_sem] Oper.semAt_some
/-- All blocks of cells but one are as they were. -/
def KpC (S : Nat) (W W' : World) : Prop := ∀ b cs t m, b ≠ S → W.heap[b]? = some (.cells cs t m) → W'.heap[b]? = some (.cells cs t m)
theorem kpc_refl (S : Nat) (W : World) : KpC S W W := fun _ _ _ _ _ h => h
theorem kpc_trans {S : Nat} {A B C : World} (h : KpC S A B) (k : KpC S B C) : KpC S A C := fun b cs t m hb e => k b cs t m hb (h b cs t m hb e)
theorem kpc_putObj {S : Nat} {W : World} {l : Nat} {o o' : Obj} (hl : W.heap[l]? = some o) (ho : o.isCells = false) : KpC S W (W.putObj l o') := fun b cs t m _ e => by
  by_cases hb : l = b
  · subst hb
    rw [hl] at e
    obtain rfl := Option.some.inj e
    cases ho
  · rw [World.putObj_heap_other (by omega)]; exact e
theorem cell_blk {W : World} {a : Addr} {v : Value} (h : W.cell? a = some v) : ∃ cs t m, W.heap[a.block]? = some (.cells cs t m) := by
  unfold World.cell? at h
  split at h
  · exact ⟨_, _, _, by assumption⟩
  · cases h
theorem KpC.cell {S : Nat} {W W' : World} (k : KpC S W W') {a : Addr} {v : Value} (h : W.cell? a = some v) (ha : a.block ≠ S) : W'.cell? a = some v := by
  obtain ⟨cs, t, m, e⟩ := cell_blk h
  rw [← h]
  unfold World.cell?
  rw [k _ _ _ _ ha e, e]
theorem kpc_below {S : Nat} {W W' : World} (h : Below W.heap.size W W') : KpC S W W' := fun b cs t m _ e => blk_below e h
theorem kpc_set (S : Nat) (W : World) (j : Nat) (u : Value) : KpC S W (W.setCell ⟨S, j, none⟩ u) := fun b cs t m hb e => (Below.heap_setCell W ⟨S, j, none⟩ u b hb).trans e
/-- What the closure reads stays. -/
theorem BEnv.kept {AV : Nat → Option Addr} {CV : Nat → Nat} {ms : List S54} {f : Nat → Bool} {l FB P BX BY BN BF : Nat} {W W' : World} {S : Nat} (h : BEnv AV CV ms f l FB P BX BY BN BF W) (k : KpC S W W') (h1 : BX ≠ S) (h2 : FB ≠ S) (h3 : BY ≠ S) (h4 : BN ≠ S) (h5 : BF ≠ S) (h6 : P ≠ S) (h7 : ∀ i, i < 9 → ∀ ad, AV i = some ad → 0 < (kidsN ms i).length → ad.block ≠ S) : BEnv AV CV ms f l FB P BX BY BN BF W' where
  cx := k.cell h.cx h1
  cf := fun i hi => k.cell (h.cf i hi) h2
  cy := k.cell h.cy h3
  cn := k.cell h.cn h4
  cb := k.cell h.cb h5
  row := fun i hi => k.cell (h.row i hi) h6
  kid := fun i hi t ht => by
    obtain ⟨ad, e, hc⟩ := h.kid i hi t ht
    exact ⟨ad, e, k.cell hc (by rw [add_block]; exact h7 i hi ad e (by omega))⟩
/-- All that is fed by way of a junction. -/
def belowJ (ms : List S54) (f : Nat → Bool) (j : Nat) : List Int := belowL ms f (ms.length + 1) j
set_option maxHeartbeats 2000000 in
set_option maxRecDepth 100000 in
theorem below_seq (F : Fence) (n : Nat) (h73 : F.fn 73) (h74 : F.fn 74) (h75 : F.fn 75) (h76 : F.fn 76) (h88 : F.fn 88) (hro : F.round = none) (hd : F.depth = none) (hn : 1 ≤ n) (ms : List S54) (h8 : ms.length ≤ 8) (hok : anyM 0 ms = false) (AV : Nat → Option Addr) (CV : Nat → Nat) (f : Nat → Bool) (FB P BX BN BJ S j0 : Nat) (W : World) (hj0 : j0 ≤ ms.length)
    (cx : W.cell? ⟨BX, 0, none⟩ = some (.pointer (some ⟨FB, 0, none⟩))) (cn : W.cell? ⟨BN, 0, none⟩ = some (.pointer (some ⟨P, 0, none⟩))) (cj : W.cell? ⟨BJ, 0, none⟩ = some (.int .i64 (j0 : Int)))
    (cf : ∀ i, i < 9 → W.cell? ⟨FB, i, none⟩ = some (.bool (f i))) (crow : ∀ i, i < 9 → W.cell? ⟨P, 4 + i, none⟩ = some (.slice (AV i) (kidsN ms i).length (CV i)))
    (ckid : ∀ i, i < 9 → ∀ (k : Nat) (hk : k < (kidsN ms i).length), ∃ ad, AV i = some ad ∧ W.cell? (ad.add k) = some (.int .i64 (kidsN ms i)[k]))
    (hS : S < W.heap.size) (h1 : BX ≠ S) (h2 : FB ≠ S) (h4 : BN ≠ S) (h6 : P ≠ S) (h7 : ∀ i, i < 9 → ∀ ad, AV i = some ad → 0 < (kidsN ms i).length → ad.block ≠ S) :
    SeqEf F n Try.prog 73 #[.pointer (some ⟨BX, 0, none⟩), .pointer (some ⟨BN, 0, none⟩), .pointer (some ⟨BJ, 0, none⟩)] encK (KpC S) (fun A B => Below A.heap.size A B) (fun pre x => ∃ (i : Nat) (r : List Int), x = (i : Int) ∧ i ≤ ms.length ∧ pre ++ x :: r = belowJ ms f j0) (fun xs _ => xs = belowJ ms f j0) (fun _ => True) W := fun l J Jx hJ hJx hY h0 => by
  refine callsIn_of_wp Try.func73 rfl h73 ?_ hro
  simp only [Try.ntmps73, List.size_toArray, List.length_cons, List.length_nil, Nat.reduceAdd, Nat.reduceSub, Array.replicate_succ, Array.replicate_zero, List.push_toArray, List.append_toArray, List.nil_append, List.cons_append]
  obtain ⟨W1, hW1⟩ : ∃ W1, W1 = (W.alloc (.cells #[.func (.yield l) #[] #[]] 125)).alloc (.cells #[fn74 BX W.heap.size BN (W.heap.size + 1)] 125) := ⟨_, rfl⟩
  have hB : Below W.heap.size W W1 := by
    rw [hW1]
    exact below_alloc (below_alloc (Below.refl _ _) _) _
  have hy1 : W1.cell? ⟨W.heap.size, 0, none⟩ = some (.func (.yield l) #[] #[]) := by
    rw [hW1]
    exact cell_two (blk_alloc (blk_new W _) _) 0 rfl
  have hb1 : W1.cell? ⟨W.heap.size + 1, 0, none⟩ = some (fn74 BX W.heap.size BN (W.heap.size + 1)) := by
    rw [hW1]
    have := blk_new (W.alloc (.cells #[.func (.yield l) #[] #[]] 125)) (.cells #[fn74 BX W.heap.size BN (W.heap.size + 1)] 125)
    simp only [World.size_alloc] at this
    exact cell_two this 0 rfl
  have HE : Aside0 (BEnv AV CV ms f l FB P BX W.heap.size BN (W.heap.size + 1) W1) := ⟨⟨(hB.cell (World.block_lt_of_cell? _ _ cx)).trans cx, fun i hi => (hB.cell (World.block_lt_of_cell? _ _ (cf i hi))).trans (cf i hi), hy1, (hB.cell (World.block_lt_of_cell? _ _ cn)).trans cn, hb1, fun i hi => (hB.cell (World.block_lt_of_cell? _ _ (crow i hi))).trans (crow i hi), fun i hi k hk => by
    obtain ⟨ad, e, hc⟩ := ckid i hi k hk
    exact ⟨ad, e, (hB.cell (World.block_lt_of_cell? _ _ hc)).trans hc⟩⟩⟩
  have HC : Aside0 (CallsIn F 8 Try.prog 74 #[.int .i64 (j0 : Int), .pointer (some ⟨BX, 0, none⟩), .pointer (some ⟨W.heap.size, 0, none⟩), .pointer (some ⟨BN, 0, none⟩), .pointer (some ⟨W.heap.size + 1, 0, none⟩)] W1 fun e W' => ∃ b, e = .returned (.bool b) ∧ ((b = true → J (belowJ ms f j0) W') ∧ (b = false → ∃ q, Jx q W'))) := ⟨by
    refine (below_in F hd h74 h75 h76 h88 hro ms h8 hok AV CV f l FB P BX W.heap.size BN (W.heap.size + 1) (fun pre W' => J pre W' ∧ BEnv AV CV ms f l FB P BX W.heap.size BN (W.heap.size + 1) W') Jx (belowJ ms f j0) (fun pre W' h => h.2)
      (fun m pre x W' h hx hr => ?_) (ms.length + 1) 8 j0 [] W1 hj0 (by omega) ⟨[], by simp [belowJ]⟩ ⟨hJ _ _ _ h0 hB, HE.out⟩).mono ?_
    · obtain ⟨r, hr⟩ := hr
      refine YieldAt.anyDepth hd m ((hY pre (x : Int) W' h.1 ⟨x, r, rfl, hx, hr⟩).mono ?_)
      rintro e W'' (⟨rfl, hj, hk⟩ | ⟨rfl, hj⟩)
      · exact .inl ⟨rfl, hj, h.2.kept hk h1 h2 (by omega) h4 (by omega) h6 h7⟩
      · exact .inr ⟨rfl, hj⟩
    · rintro e W' ⟨b, rfl, hA, hB⟩
      exact ⟨b, rfl, fun h => by simpa [belowJ] using (hA h).1, hB⟩⟩
  have c1 : W1.cell? ⟨BJ, 0, none⟩ = some (.int .i64 (j0 : Int)) := (hB.cell (World.block_lt_of_cell? _ _ cj)).trans cj
  have HJ := Aside0.mk hJ
  clear hY hJ hJx h0 cx cn cj cf crow ckid h7 hB hy1 HE
  simp only [fn74] at hb1 hW1
  subst hW1
  gi_wp2
  refine (CallsIn.anyDepth hd _ HC.out).mono ?_
  rintro e W' ⟨b, rfl, hA, hB⟩
  have HA := Aside0.mk hA
  have HB := Aside0.mk hB
  clear hA hB HC HJ hb1 c1
  cases b
  · gi_wp2
    go_end0
    obtain ⟨q, hq⟩ := HB.out trivial
    exact ⟨⟨_, rfl⟩, .inr ⟨q, trivial, hq⟩⟩
  · gi_wp2
    go_end0
    exact ⟨⟨_, rfl⟩, .inl ⟨_, rfl, HA.out trivial⟩⟩
end Go.Proofs.Ytbjinkkmakhbaaa.Print
