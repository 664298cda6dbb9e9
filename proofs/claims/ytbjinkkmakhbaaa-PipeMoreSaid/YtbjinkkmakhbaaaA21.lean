/- The sets of mains that are enough (enough and its iterator). -/
import Derived.Test.YtbjinkkmakhbaaaA19
namespace Go.Proofs.Ytbjinkkmakhbaaa.Print
open Go.RowKit Go.Shelf Go.Proofs.YtbjinkkmakhbaaaW.PrintWords Go.Proofs.YtbjinkkmakhbaaaW.PrintLast Go.Proofs.YtbjinkkmakhbaaaW.PrintMore
set_option linter.unusedVariables false
set_option linter.unusedSimpArgs false
attribute [local go_sem] Oper.semAt_some
theorem badM_half (k : Nat) (m : S54) (h : badM k m = false) : badM k (halfM m) = false := by
  simp only [badM, withinB, Bool.or_eq_false_iff, Bool.not_eq_false', Bool.and_eq_true, decide_eq_true_eq] at h
  have h1 := h.1.1.2
  have e : halfM m = ⟨m.f0, (m.f1 + 1) / 2, m.f2, m.f3⟩ := by
    unfold halfM
    rw [Int.tdiv_eq_ediv_of_nonneg (by omega)]
  rw [e]
  simp only [badM, withinB, Bool.or_eq_false_iff, Bool.not_eq_false', Bool.and_eq_true, decide_eq_true_eq]
  omega
theorem anyM_with (set : Nat) : ∀ (l : List S54) (i : Nat), anyM i l = false → anyM i (withN set i l) = false
  | [], _, _ => rfl
  | m :: l, i, h => by
    rw [anyM, Bool.or_eq_false_iff] at h
    rw [withN, anyM, Bool.or_eq_false_iff]
    refine ⟨?_, anyM_with set l (i + 1) h.2⟩
    split
    · exact badM_half i m h.1
    · exact h.1
theorem NetOk.with {lo hi : Int} {js : List S50} {ms : List S54} (h : NetOk lo hi js ms) (set : Nat) : NetOk lo hi js (withN set 0 ms) := ⟨h.src, h.jl, by rw [withN_len]; exact h.ml, h.jok, anyM_with set ms 0 h.mok⟩
/-- Is a set enough? -/
def isEn (lo hi : Int) (js : List S50) (ms : List S54) (s : Nat) : Bool := !(faultS lo hi js (withN s 0 ms)).2.2
def enL (lo hi : Int) (js : List S50) (ms : List S54) : Nat → List (Int × Int)
  | 0 => []
  | k + 1 => enL lo hi js ms k ++ (if isEn lo hi js ms k then [((k : Int), costN k 0 ms)] else [])
abbrev encS (x : Int × Int) : Array Value := #[.int .i64 x.1, .int .i64 x.2]
/-- All below B, and a block of cells, are as they were. -/
def KpX (B BX : Nat) (W W' : World) : Prop := Below B W W' ∧ ∀ cs t m, W.heap[BX]? = some (.cells cs t m) → W'.heap[BX]? = some (.cells cs t m)
theorem kpx_refl (B BX : Nat) (W : World) : KpX B BX W W := ⟨Below.refl _ _, fun _ _ _ h => h⟩
theorem kpx_trans {B BX : Nat} {a b c : World} (h : KpX B BX a b) (k : KpX B BX b c) : KpX B BX a c := ⟨h.1.trans k.1, fun cs t m e => k.2 cs t m (h.2 cs t m e)⟩
theorem kpx_putObj {B BX : Nat} {W : World} {l : Nat} {o o' : Obj} (hB : B ≤ l) (hl : W.heap[l]? = some o) (ho : o.isCells = false) : KpX B BX W (W.putObj l o') := by
  refine ⟨?_, fun cs t m e => ?_⟩
  · refine ⟨rfl, rfl, rfl, by simp [World.putObj], fun k hk => World.putObj_heap_other (by omega)⟩
  · by_cases hb : l = BX
    · subst hb
      rw [hl] at e
      obtain rfl := Option.some.inj e
      cases ho
    · rw [World.putObj_heap_other (by omega)]
      exact e
/-- What the iterator reads. -/
structure EnEnv (w0 W : World) (BX : Nat) (lo hi : Int) (A : Option Addr) (n c : Nat) (A' : Option Addr) (n' c' : Nat) : Prop where
  bel : Below w0.heap.size w0 W
  blk : W.heap[BX]? = some (.cells (netC lo hi A n c A' n' c') 27 (0, 0))
theorem EnEnv.next {w0 W W' : World} {BX : Nat} {lo hi : Int} {A : Option Addr} {n c : Nat} {A' : Option Addr} {n' c' : Nat} (h : EnEnv w0 W BX lo hi A n c A' n' c') (hb : Below W.heap.size W W') : EnEnv w0 W' BX lo hi A n c A' n' c' := ⟨bl_next' h.bel hb, blk_below h.blk hb⟩
theorem EnEnv.kept {w0 W W' : World} {BX : Nat} {lo hi : Int} {A : Option Addr} {n c : Nat} {A' : Option Addr} {n' c' : Nat} (h : EnEnv w0 W BX lo hi A n c A' n' c') (hb : KpX w0.heap.size BX W W') : EnEnv w0 W' BX lo hi A n c A' n' c' := ⟨h.bel.trans hb.1, hb.2 _ _ _ h.blk⟩
/-- The network that is laid, while it is. -/
structure LayAt (wr W : World) (lo hi : Int) (A : Option Addr) (nj c nm : Nat) (xs : List S54) : Prop where
  bl : W.heap[wr.heap.size]? = some (.cells (netC lo hi A nj c (some ⟨wr.heap.size + 1, 0, none⟩) nm nm) 27 (0, 0))
  bg : W.heap[wr.heap.size + 1]? = some (.cells (msC xs).toArray 54 (0, 0))
  bel : Below wr.heap.size wr W
theorem cost_bd (set : Nat) {ms : List S54} (hm : anyM 0 ms = false) : ∀ k, k < ms.length → 0 ≤ costN set 0 (ms.take k) ∧ costN set 0 (ms.take k) ≤ 1000000 * k
  | 0, _ => by simp [costN]
  | k + 1, h => by
    have ih := cost_bd set hm k (by omega)
    rw [cost_succ set ms k (by omega)]
    have := mains_ok hm k (by omega)
    split <;> omega
theorem info54sz : (Try.prog.info? 54).map (·.size) = some 4 := by kernel_rfl
theorem make_mains (n : Nat) (hn : n ≤ 8) : ∃ Z : List Value, Z.length = n * 4 ∧ ∀ W, (Instr.makeSlice 25 (.int .i64 (n : Int)) (.int .i64 (n : Int))).run Try.prog W = .ok (.slice (some ⟨W.heap.size, 0, none⟩) n n) (W.alloc (.cells Z.toArray 54)) := by
  obtain ⟨i, hi, hz, hs, hb⟩ := info_parts info54
  refine ⟨(madeCells (Value.agg #[.int .i64 0, .int .i64 0, .int .i64 0, .int .i64 0]).cells (n * 4)).toList, by simp [madeCells], fun W => ?_⟩
  have h := run_make (P := Try.prog) W 25 54 i _ Try.underlying25 hi hz .i64 .i64 n n (by omega) (by omega) (by rw [hb]; omega) (by omega)
  rw [hs] at h
  simpa using h
set_option maxHeartbeats 8000000 in
set_option maxRecDepth 100000 in
theorem enough_seq (n : Nat) (hn : 1 ≤ n) (lo hi : Int) (A : Option Addr) (c : Nat) (js : List S50) (A' : Option Addr) (c' : Nat) (ms : List S54) (hok : NetOk lo hi js ms) (hc : js.length ≤ c) (hc' : ms.length ≤ c') (w0 : World) (hr : Kd.C k50 w0 A js.length js) (hr' : Kd.C k54 w0 A' ms.length ms) (BX : Nat) (W : World) (henv : EnEnv w0 W BX lo hi A js.length c A' ms.length c') :
    SeqEf Fence.wide n Try.prog 61 #[.pointer (some ⟨BX, 0, none⟩)] encS (KpX w0.heap.size BX) (fun A B => Below A.heap.size A B) (fun pre x => ∃ s : Nat, x = ((s : Int), costN s 0 ms) ∧ s < 2 ^ ms.length ∧ isEn lo hi js ms s = true ∧ pre = enL lo hi js ms s) (fun xs _ => xs = enL lo hi js ms (2 ^ ms.length)) (fun _ => True) W := fun l J Jx hJ hJx hY h0 => by
  have HY := Aside0.mk hY
  have HJ := Aside0.mk hJ
  have HE := Aside0.mk henv
  have HOK := Aside0.mk hok
  have HR := Aside0.mk hr
  have HR' := Aside0.mk hr'
  have h8 : ms.length ≤ 8 := by have := hok.ml; have := hok.jl; omega
  have x3 : W.cell? ⟨BX, 3, none⟩ = some (.slice A' ms.length c') := cell_two henv.blk 3 rfl
  clear hY hJ hJx henv hok hr hr'
  have hN256 : 2 ^ ms.length ≤ 256 := Nat.le_trans (Nat.pow_le_pow_right (by decide) h8) (by decide)
  obtain ⟨N, hN⟩ : ∃ N, N = 2 ^ ms.length := ⟨_, rfl⟩
  have hwN : wrap64 ((2 : Int) ^ ms.length) = (N : Int) := by
    have e : (2 : Int) ^ ms.length = ((2 ^ ms.length : Nat) : Int) := by simp
    rw [e, hN]
    unfold wrap64
    omega
  rw [← hN] at hN256 ⊢
  have HN := Aside0.mk hN
  clear hN
  refine callsIn_wide.2 ?_
  simp only [List.append_toArray, List.cons_append, List.nil_append]
  go_enter Try.func61, Try.ntmps61
  go_wp2_with (fail)
  clear x3 hwN
  go_loopw [15] (fun i wr => ∃ k : Nat, i = .int .i64 (k : Int) ∧ k ≤ N ∧ Aside0 (J (enL lo hi js ms k) wr) ∧ Aside0 (EnEnv w0 wr BX lo hi A js.length c A' ms.length c')) (fun i _ => N - (intOf i).toNat)
  case atStart => exact ⟨0, rfl, by omega, ⟨h0⟩, HE⟩
  case round =>
    clear HE h0
    obtain ⟨s, rfl, hk, HJS, HE⟩ := hrel
    by_cases hlt : s < N
    · have hlt' : decide ((s : Int) < (N : Int)) = true := decide_eq_true (by omega)
      have b0 := cell_two HE.out.blk 0 rfl
      have b1 := cell_two HE.out.blk 1 rfl
      have b2 := cell_two HE.out.blk 2 rfl
      have b3 := cell_two HE.out.blk 3 rfl
      obtain ⟨Z, hZ, hmk⟩ := make_mains ms.length h8
      have HZ := Aside0.mk hZ
      have hL := blk_new wr (.cells (netC lo hi A js.length c A' ms.length c') 27)
      have hG := blk_new (wr.alloc (.cells (netC lo hi A js.length c A' ms.length c') 27)) (.cells Z.toArray 54)
      rw [World.size_alloc] at hG
      have hG3 := blk_new (wr.alloc (.cells #[.int .i64 lo, .int .i64 hi, .slice A js.length c, .slice (some ⟨wr.heap.size + 1, 0, none⟩) ms.length ms.length] 27)) (.cells Z.toArray 54)
      rw [World.size_alloc] at hG3
      have hBX : BX < wr.heap.size := blk_lt HE.out.blk
      have q1 : (wr.alloc (.cells (netC lo hi A js.length c A' ms.length c') 27)).cell? ⟨BX, 3, none⟩ = some (.slice A' ms.length c') := cell_two (blk_alloc HE.out.blk _) 3 rfl
      have q2 : ((wr.alloc (.cells (netC lo hi A js.length c A' ms.length c') 27)).alloc (.cells Z.toArray 54)).cell? ⟨wr.heap.size, 3, none⟩ = some (.slice A' ms.length c') := cell_two (blk_alloc hL _) 3 rfl
      have f2 : ((wr.alloc (.cells (netC lo hi A js.length c A' ms.length c') 27)).alloc (.cells Z.toArray 54)).frozen? ⟨wr.heap.size, 3, none⟩ = false := blk_frozen (blk_alloc hL _) 3
      have q3 : ((wr.alloc (.cells #[.int .i64 lo, .int .i64 hi, .slice A js.length c, .slice (some ⟨wr.heap.size + 1, 0, none⟩) ms.length ms.length] 27)).alloc (.cells Z.toArray 54)).cell? ⟨BX, 3, none⟩ = some (.slice A' ms.length c') := cell_two (blk_alloc (blk_alloc HE.out.blk _) _) 3 rfl
      have HL3 : Aside0 (((wr.alloc (.cells #[.int .i64 lo, .int .i64 hi, .slice A js.length c, .slice (some ⟨wr.heap.size + 1, 0, none⟩) ms.length ms.length] 27)).alloc (.cells Z.toArray 54)).heap[wr.heap.size]? = some (.cells (netC lo hi A js.length c (some ⟨wr.heap.size + 1, 0, none⟩) ms.length ms.length) 27 (0, 0)) ∧ ((wr.alloc (.cells #[.int .i64 lo, .int .i64 hi, .slice A js.length c, .slice (some ⟨wr.heap.size + 1, 0, none⟩) ms.length ms.length] 27)).alloc (.cells Z.toArray 54)).heap[wr.heap.size + 1]? = some (.cells Z.toArray 54 (0, 0)) ∧ Below wr.heap.size wr ((wr.alloc (.cells #[.int .i64 lo, .int .i64 hi, .slice A js.length c, .slice (some ⟨wr.heap.size + 1, 0, none⟩) ms.length ms.length] 27)).alloc (.cells Z.toArray 54))) := ⟨blk_alloc (blk_new wr _) _, hG3, below_alloc (below_alloc (Below.refl _ wr) _) _⟩
      have HM3 : Aside0 (0 < ms.length → ∃ ad, A' = some ad ∧ ∀ j v, (msC ms)[j]? = some v → ((wr.alloc (.cells #[.int .i64 lo, .int .i64 hi, .slice A js.length c, .slice (some ⟨wr.heap.size + 1, 0, none⟩) ms.length ms.length] 27)).alloc (.cells Z.toArray 54)).cell? (ad.add j) = some v) := ⟨cells_of_C (Kd.C_below HR'.out (HE.out.bel.trans (HL3.out.2.2.mono HE.out.bel.size)))⟩
      have HL4 : Aside0 (LayAt wr (((wr.alloc (.cells #[.int .i64 lo, .int .i64 hi, .slice A js.length c, .slice (some ⟨wr.heap.size + 1, 0, none⟩) ms.length ms.length] 27)).alloc (.cells Z.toArray 54)).setRow (wr.heap.size + 1) (msC ms).toArray) lo hi A js.length c ms.length (layK s ms 0)) := ⟨⟨by rw [setRow_other _ _ _ _ (by omega)]; exact HL3.out.1, by rw [layK_0]; exact setRow_heap _ _ _ _ _ _ HL3.out.2.1, below_setRow HL3.out.2.2 (by omega) _⟩⟩
      clear hZ hL hG hG3 b0 b1 b2 b3
      have b0 := cell_two HE.out.blk 0 rfl
      have b1 := cell_two HE.out.blk 1 rfl
      have b2 := cell_two HE.out.blk 2 rfl
      have b3 := cell_two HE.out.blk 3 rfl
      have hcp : (Builtin.copy_ #[25, 25] 3 #[.slice (some ⟨wr.heap.size + 1, 0, none⟩) ms.length ms.length, .slice A' ms.length c']).run Try.prog ((wr.alloc (.cells #[.int .i64 lo, .int .i64 hi, .slice A js.length c, .slice (some ⟨wr.heap.size + 1, 0, none⟩) ms.length ms.length] 27)).alloc (.cells Z.toArray 54)) = .ok (.int .i64 (ms.length : Int)) (((wr.alloc (.cells #[.int .i64 lo, .int .i64 hi, .slice A js.length c, .slice (some ⟨wr.heap.size + 1, 0, none⟩) ms.length ms.length] 27)).alloc (.cells Z.toArray 54)).setRow (wr.heap.size + 1) (msC ms).toArray) := run_copy_whole _ 25 25 3 54 4 (wr.heap.size + 1) ms.length ms.length A' c' Z (msC ms) 54 Try.underlying25 info54sz (msC_len ms) HZ.out (by decide) HL3.out.2.1 HM3.out (msC_one ms)
      have q4 : (((wr.alloc (.cells #[.int .i64 lo, .int .i64 hi, .slice A js.length c, .slice (some ⟨wr.heap.size + 1, 0, none⟩) ms.length ms.length] 27)).alloc (.cells Z.toArray 54)).setRow (wr.heap.size + 1) (msC ms).toArray).cell? ⟨wr.heap.size, 3, none⟩ = some (.slice (some ⟨wr.heap.size + 1, 0, none⟩) ms.length ms.length) := cell_two HL4.out.bl 3 rfl
      go_wp2_with (fail)
      clear q1 q2 q3 q4 f2 hcp hmk HM3 HL3 HZ b0 b1 b2 b3
      generalize ((wr.alloc (.cells #[.int .i64 lo, .int .i64 hi, .slice A js.length c, .slice (some ⟨wr.heap.size + 1, 0, none⟩) ms.length ms.length] 27)).alloc (.cells Z.toArray 54)).setRow (wr.heap.size + 1) (msC ms).toArray = W4 at HL4 ⊢
      obtain ⟨wo, rfl⟩ : ∃ wo : World, wo = wr := ⟨_, rfl⟩
      go_loopw [5, 32] (fun cst i w2 => ∃ t : Nat, i = .int .i64 (t : Int) ∧ t ≤ ms.length ∧ cst = .int .i64 (costN s 0 (ms.take t)) ∧ Aside0 (LayAt wo w2 lo hi A js.length c ms.length (layK s ms t))) (fun _ i _ => ms.length - (intOf i).toNat)
      case atStart => exact ⟨0, rfl, by omega, rfl, HL4⟩
      case round =>
        clear HL4
        obtain ⟨t, rfl, ht, rfl, HL⟩ := hrel
        by_cases htl : t < ms.length
        · have htl' : decide ((t : Int) < (ms.length : Int)) = true := decide_eq_true (by omega)
          have q3 := cell_two HL.out.bl 3 rfl
          have t0 : (0 : Int) ≤ (t : Int) := Int.natCast_nonneg t
          have t1 : (t : Int) < (ms.length : Int) := by omega
          obtain ⟨b, hb⟩ : ∃ b, s.testBit t = b := ⟨_, rfl⟩
          have hbt : (Go.bits .and .i64 ((s : Int) / 2 ^ t) 1 == 1) = b := by
            have h := bit_is s t (by omega) (by omega)
            unfold shr at h
            rw [Int.toNat_natCast, Nat.min_eq_left (by show t ≤ 64; omega), hb] at h
            exact h
          have HSU := Aside0.mk (layK_succ s ms t htl)
          have HCS := Aside0.mk (cost_succ s ms t htl)
          rw [hb] at HSU HCS
          clear hb
          have HMO := Aside0.mk (mains_ok HOK.out.mok t htl)
          have HCB : Aside0 (0 ≤ costN s 0 (ms.take t) ∧ costN s 0 (ms.take t) ≤ 8000000) := ⟨by have := cost_bd s HOK.out.mok t htl; omega⟩
          have HRD := Aside0.mk (layK_get s ms t htl)
          obtain ⟨cs, hcs⟩ : ∃ x, costN s 0 (ms.take t) = x := ⟨_, rfl⟩
          rw [hcs] at HCS HCB ⊢
          clear hcs
          cases b
          · go_wp2_with (fail)
            go_roundw
            case rel => exact ⟨t + 1, by go_num, by omega, by rw [HCS.out]; simp, by rw [HSU.out]; exact HL⟩
            case measure => simp [intOf]; omega
          · have hgl : ∀ i v, i < 4 → (mC (rd_T54 ms t))[i]? = some v → (msC (layK s ms t)).toArray[t * 4 + i]? = some v := fun i v hi hv => by
              rw [List.getElem?_toArray, msC_get _ t i (by rw [layK_len]; omega) hi, HRD.out]
              exact hv
            have c1 := cell_two HL.out.bg (t * 4 + 1) (hgl 1 _ (by decide) rfl)
            have c3 := cell_two HL.out.bg (t * 4 + 3) (hgl 3 _ (by decide) rfl)
            have f1 := blk_frozen HL.out.bg (t * 4 + 1)
            have HHF : Aside0 (halfM (rd_T54 ms t) = ⟨(rd_T54 ms t).f0, ((rd_T54 ms t).f1 + 1) / 2, (rd_T54 ms t).f2, (rd_T54 ms t).f3⟩) := ⟨by
              unfold halfM
              rw [Int.tdiv_eq_ediv_of_nonneg (by have := HMO.out; omega)]⟩
            clear hgl
            obtain ⟨m1, hm1⟩ : ∃ x, (rd_T54 ms t).f1 = x := ⟨_, rfl⟩
            obtain ⟨m3, hm3⟩ : ∃ x, (rd_T54 ms t).f3 = x := ⟨_, rfl⟩
            have HHM : Aside0 (LayAt wo (wr.setCell ⟨wo.heap.size + 1, t * 4 + 1, none⟩ (.int .i64 ((m1 + 1) / 2))) lo hi A js.length c ms.length ((layK s ms t).set t (halfM (rd_T54 ms t)))) := ⟨by
              refine ⟨blk_set_ne HL.out.bl (by omega) _ _, blk_put HL.out.bg (t * 4 + 1) _ ?_, HL.out.bel.setCell (by show wo.heap.size ≤ wo.heap.size + 1; omega) _⟩
              rw [List.setIfInBounds_toArray, msC_set _ t _ (by rw [layK_len]; omega), HRD.out, HHF.out, hm1]⟩
            rw [hm1] at HMO c1
            rw [hm3] at HMO c3 HCS
            clear hm1 hm3
            have m10 : 0 ≤ m1 := HMO.out.2.1.1
            have m11 : m1 ≤ 1000 := HMO.out.2.1.2
            have m30 : 0 ≤ m3 := by have := HMO.out; omega
            have m31 : m3 ≤ 1000000 := HMO.out.2.2.2.2
            have cs0 : 0 ≤ cs := HCB.out.1
            have cs1 : cs ≤ 8000000 := HCB.out.2
            go_wp2_with (fail)
            go_roundw
            case rel => exact ⟨t + 1, by go_num, by omega, by rw [HCS.out]; simp, by rw [HSU.out]; exact HHM⟩
            case measure => simp [intOf]; omega
        · have htl' : decide ((t : Int) < (ms.length : Int)) = false := decide_eq_false (by omega)
          have ett : t = ms.length := by omega
          have hL2 := HL.out
          rw [ett, layK_all] at hL2
          have HL2 := Aside0.mk hL2
          have hCE : costN s 0 (ms.take t) = costN s 0 ms := by rw [ett, List.take_length]
          rw [hCE]
          clear ett hL2 HL hCE
          obtain ⟨cs, hcs⟩ : ∃ x, costN s 0 ms = x := ⟨_, rfl⟩
          rw [hcs]
          have HCS := Aside0.mk hcs
          clear hcs
          have l0 := cell_two HL2.out.bl 0 rfl
          have l1 := cell_two HL2.out.bl 1 rfl
          have l2 := cell_two HL2.out.bl 2 rfl
          have l3 := cell_two HL2.out.bl 3 rfl
          have HNew : Aside0 (Calls Try.prog 35 #[.agg #[.int .i64 lo, .int .i64 hi, .slice A js.length c, .slice (some ⟨wo.heap.size + 1, 0, none⟩) ms.length ms.length]] wr fun e w' => ∃ vs, e = .returned (.pointer (some ⟨wr.heap.size + 1, 0, none⟩)) ∧ Made wr w' (wr.heap.size + 1) lo hi A c js (some ⟨wo.heap.size + 1, 0, none⟩) ms.length (withN s 0 ms) vs (kidsN (withN s 0 ms))) := ⟨by
            have h := newNet_any lo hi A c js (some ⟨wo.heap.size + 1, 0, none⟩) ms.length (withN s 0 ms) wr (Kd.C_below HR.out (HE.out.bel.trans (HL2.out.bel.mono HE.out.bel.size))) hc (C_of_blk HL2.out.bg (by rw [withN_len]; omega)) (by rw [withN_len]; exact Nat.le_refl _) (HOK.out.with s)
            rw [withN_len] at h
            exact h⟩
          have HFa : Aside0 (∀ W P vs, NetR W P lo hi A c js (some ⟨wo.heap.size + 1, 0, none⟩) ms.length (withN s 0 ms) vs → Calls Try.prog 42 #[.pointer (some ⟨P, 0, none⟩)] W fun e w' => e = .returned (.tuple #[.int .i64 (faultS lo hi js (withN s 0 ms)).1, .bool (faultS lo hi js (withN s 0 ms)).2.1, .bool (faultS lo hi js (withN s 0 ms)).2.2]) ∧ Below W.heap.size W w') := ⟨fun W P vs h => fault_any P lo hi A c js _ _ (withN s 0 ms) vs (HOK.out.with s) W h⟩
          have HIS : Aside0 (isEn lo hi js ms s = !(faultS lo hi js (withN s 0 ms)).2.2) := ⟨rfl⟩
          generalize faultS lo hi js (withN s 0 ms) = fs at HFa HIS
          obtain ⟨g1, g2, g3⟩ := fs
          cases g3
          · go_upto_region 16 with (first
              | (go_at_call 35; with_reducible refine HNew.out.mono ?_; rintro e W5 ⟨vs, rfl, hM⟩; have HM := Aside0.mk hM; clear hM)
              | (go_at_call 42; refine (HFa.out _ _ _ HM.out.reads).mono ?_; rintro e W6 ⟨rfl, hb⟩; have HB6 := Aside0.mk (bl_next' (bl_next' HL2.out.bel HM.out.bel) hb); clear hb))
            have HJ6 := Aside0.mk (HJ.out _ _ _ HJS.out HB6.out)
            have HE6 := Aside0.mk (HE.out.next HB6.out)
            have HEN : Aside0 (isEn lo hi js ms s = true) := ⟨by rw [HIS.out]; rfl⟩
            have hy0 := HY.out (enL lo hi js ms s) ((s : Int), cs) W6 HJ6.out ⟨s, by rw [HCS.out], by rw [← HN.out]; exact hlt, HEN.out, rfl⟩
            obtain ⟨fn, tmps, assign, body, hy, hR⟩ := hy0
            try unfold encS at hy
            simp only at hy
            have HRR := Aside0.mk hR
            clear hR HNew HFa l0 l1 l2 l3
            refine (wpIn_wide (n := n)).1 ?_
            gi_wp2
            refine HRR.out.mono ?_
            rintro e W7 (⟨rfl, hj, hk7⟩ | ⟨rfl, hj⟩)
            · have HJ7 := Aside0.mk hj
              have HE7 := Aside0.mk (HE6.out.kept hk7)
              clear hj hk7 HRR hy
              gi_wp2
              go_wp2_with (fail)
              go_roundw
              case rel =>
                refine ⟨s + 1, by go_num, by omega, ⟨?_⟩, HE7⟩
                rw [enL, if_pos HEN.out, HCS.out]
                exact HJ7.out
              case measure => simp [intOf]; omega
            · have HJ7 := Aside0.mk hj
              clear hj HRR hy
              gi_wp2
              go_wp2_with (fail)
              refine bodyPost_ret (v := .tuple #[]) (by simp [results, Try.f61, go_sem]) rfl ?_
              exact ⟨⟨_, rfl⟩, .inr ⟨_, trivial, HJ7.out⟩⟩
          · go_wp2_with (first
              | (go_at_call 35; with_reducible refine HNew.out.mono ?_; rintro e W5 ⟨vs, rfl, hM⟩; have HM := Aside0.mk hM; clear hM)
              | (go_at_call 42; refine (HFa.out _ _ _ HM.out.reads).mono ?_; rintro e W6 ⟨rfl, hb⟩; have HB6 := Aside0.mk (bl_next' (bl_next' HL2.out.bel HM.out.bel) hb); clear hb))
            go_roundw
            case rel =>
              refine ⟨s + 1, by go_num, by omega, ⟨?_⟩, ⟨HE.out.next HB6.out⟩⟩
              rw [enL, if_neg (by rw [HIS.out]; simp), List.append_nil]
              exact HJ.out _ _ _ HJS.out HB6.out
            case measure => simp [intOf]; omega
    · have hlt' : decide ((s : Int) < (N : Int)) = false := decide_eq_false (by omega)
      obtain rfl : s = N := by omega
      go_wp2_with (fail)
      go_end0
      exact ⟨⟨_, rfl⟩, .inl ⟨_, rfl, HJS.out⟩⟩
end Go.Proofs.Ytbjinkkmakhbaaa.Print

namespace Go.Proofs.Ytbjinkkmakhbaaa.Print
open Go.RowKit Go.Shelf Go.Proofs.YtbjinkkmakhbaaaW.PrintWords Go.Proofs.YtbjinkkmakhbaaaW.PrintLast Go.Proofs.YtbjinkkmakhbaaaW.PrintMore
set_option linter.unusedVariables false
set_option linter.unusedSimpArgs false
attribute [local go_sem] Oper.semAt_some
/-- Eight bools, as a block holds them. -/
def arr8 (g : Nat → Bool) : Array Value := #[.bool (g 0), .bool (g 1), .bool (g 2), .bool (g 3), .bool (g 4), .bool (g 5), .bool (g 6), .bool (g 7)]
theorem arr8_get (g : Nat → Bool) (k : Nat) (h : k < 8) : (arr8 g)[k]? = some (.bool (g k)) :=
  match k, h with
  | 0, _ => rfl
  | 1, _ => rfl
  | 2, _ => rfl
  | 3, _ => rfl
  | 4, _ => rfl
  | 5, _ => rfl
  | 6, _ => rfl
  | 7, _ => rfl
theorem arr8_set (g : Nat → Bool) (k : Nat) (b : Bool) (h : k < 8) : (arr8 g).setIfInBounds k (.bool b) = arr8 (fun i => if i = k then b else g i) :=
  match k, h with
  | 0, _ => rfl
  | 1, _ => rfl
  | 2, _ => rfl
  | 3, _ => rfl
  | 4, _ => rfl
  | 5, _ => rfl
  | 6, _ => rfl
  | 7, _ => rfl
theorem eq8 (b0 b1 b2 b3 b4 b5 b6 b7 : Bool) (w : World) : (Op.equalIn 10000 110 (.agg #[.bool b0, .bool b1, .bool b2, .bool b3, .bool b4, .bool b5, .bool b6, .bool b7]) (.agg #[.bool false, .bool false, .bool false, .bool false, .bool false, .bool false, .bool false, .bool false])).run Try.prog w = .ok (!b0 && !b1 && !b2 && !b3 && !b4 && !b5 && !b6 && !b7) w := by
  cases b0 <;> cases b1 <;> cases b2 <;> cases b3 <;> cases b4 <;> cases b5 <;> cases b6 <;> cases b7 <;> kernel_rfl
/-- The mains of a set, rising. -/
def listL (s : Nat) : Nat → List Int
  | 0 => []
  | k + 1 => listL s k ++ (if s.testBit k then [(k : Int)] else [])
theorem listL_len (s : Nat) : ∀ k, (listL s k).length ≤ k
  | 0 => by simp [listL]
  | k + 1 => by
    have := listL_len s k
    rw [listL, List.length_append]
    split <;> simp <;> omega
structure ListAt (w W : World) (s k : Nat) (v : Value) : Prop where
  ba : W.heap[w.heap.size]? = some (.cells (arr8 fun i => decide (i < k) && s.testBit i) 110 (0, 0))
  own : Kd.R (Kd.int .i64) 3 W w.heap.size (fun b => w.heap.size < b) v (listL s k)
  bel : Below w.heap.size w W
set_option maxHeartbeats 4000000 in
set_option maxRecDepth 100000 in
theorem list_any (s : Nat) (hs : s < 256) (w : World) :
    Calls Try.prog 44 #[.int .i64 (s : Int)] w fun e w' => ∃ v, e = .returned v ∧ Kd.R (Kd.int .i64) 3 w' w.heap.size (fun b => w.heap.size ≤ b) v (listL s 8) ∧ Below w.heap.size w w' := by
  go_enter Try.func44, Try.ntmps44
  go_wp2_with (fail)
  go_loopw [2, 5] (fun v i wr => ∃ (k : Nat) (Av : Option Addr) (cv : Nat), i = .int .i64 (k : Int) ∧ k ≤ 8 ∧ v = .slice Av (listL s k).length cv ∧ Aside0 (ListAt w wr s k (.slice Av (listL s k).length cv))) (fun _ i _ => 8 - (intOf i).toNat)
  case atStart => exact ⟨0, none, 0, rfl, by omega, rfl, ⟨blk_new w _, Kd.R_nil _ _ _ _ _, below_alloc (Below.refl _ _) _⟩⟩
  case round =>
    obtain ⟨k, Av, cv, rfl, hk, rfl, HL⟩ := hrel
    by_cases hlt : k < 8
    · have hlt' : decide ((k : Int) < 8) = true := decide_eq_true (by omega)
      have k0 : (0 : Int) ≤ (k : Int) := Int.natCast_nonneg k
      have k1 : (k : Int) < 8 := by omega
      obtain ⟨b, hb⟩ : ∃ b, s.testBit k = b := ⟨_, rfl⟩
      have hbt : (Go.bits .and .i64 ((s : Int) / 2 ^ k) 1 == 1) = b := by
        have h := bit_is s k (by omega) (by omega)
        unfold shr at h
        rw [Int.toNat_natCast, Nat.min_eq_left (by show k ≤ 64; omega), hb] at h
        exact h
      have HB := Aside0.mk hb
      clear hb
      have c1 := cell_two HL.out.ba k (arr8_get _ k hlt)
      have f1 := blk_frozen HL.out.ba k
      have HA1 : Aside0 ((wr.setCell ⟨w.heap.size, k, none⟩ (.bool b)).heap[w.heap.size]? = some (.cells (arr8 fun i => decide (i < k + 1) && s.testBit i) 110 (0, 0)) ∧ Kd.R (Kd.int .i64) 3 (wr.setCell ⟨w.heap.size, k, none⟩ (.bool b)) w.heap.size (fun b => w.heap.size < b) (.slice Av (listL s k).length cv) (listL s k) ∧ Below w.heap.size w (wr.setCell ⟨w.heap.size, k, none⟩ (.bool b))) := ⟨by
        refine ⟨?_, Kd.R_set HL.out.own HL.out.ba (by decide) k _, HL.out.bel.setCell (Nat.le_refl _) _⟩
        refine blk_put HL.out.ba k _ ?_
        rw [arr8_set _ k b hlt]
        congr 1
        funext i
        by_cases e : i = k
        · subst e
          rw [if_pos rfl, HB.out]
          simp
        · rw [if_neg e]
          congr 1
          exact decide_eq_decide.2 ⟨fun h => by omega, fun h => by omega⟩⟩
      cases b
      · go_wp2_with (fail)
        go_roundw
        case rel => exact ⟨k + 1, Av, cv, by go_num, by omega, by rw [listL, HB.out]; simp, ⟨HA1.out.1, by rw [listL, HB.out]; simpa using HA1.out.2.1, HA1.out.2.2⟩⟩
        case measure => simp [intOf]; omega
      · have hln : ((listL s k).length + 1) * 8 ≤ 140737488355328 := by have := listL_len s k; omega
        go_upto_region 7 with (fail)
        clear c1 f1 hbt
        generalize wr.setCell ⟨w.heap.size, k, none⟩ (.bool true) = W3 at HA1 ⊢
        have HFR : Aside0 (∀ b, W3.heap.size ≤ b → w.heap.size < b) := ⟨fun b h => by have := blk_lt HA1.out.1; omega⟩
        go_wp2_with ((with_reducible refine gate_builtin (b := .append) (xs := #[.tmp 18, .tmp 20]) rfl ?_); at_builtin; refine Kd.R_append (Kd.int .i64) (w0 := w) w.heap.size rfl (.tmp 18) (.tmp 20) 37 3 (.int .i64 0) 8 rfl Try.underlying37 info3 rfl (by decide) (by omega) (.slice Av (listL s k).length cv) (listL s k) (k : Int) [.int .i64 (k : Int)] (fun b => w.heap.size < b) (fun _ => False) rfl rfl rfl (fun _ hk => hk.elim) HFR.out HA1.out.2.1 HA1.out.2.2 HA1.out.2.2.size hln ?_; intro v2 w2 ho hb hg hat; obtain ⟨A2, c2, rfl⟩ := Kd.R_slice ho; have HA2 : Aside0 (w2.heap[w.heap.size]? = some (.cells (arr8 fun i => decide (i < k + 1) && s.testBit i) 110 (0, 0))) := ⟨blk_grown HA1.out.1 hg (Kd.R_ne HA1.out.2.1 HA1.out.1 (by decide))⟩; have HO2 := Aside0.mk ho; have HB2 := Aside0.mk hb; clear ho hb hg hat)
        go_roundw
        case rel => exact ⟨k + 1, A2, c2, by go_num, by omega, by rw [listL, HB.out]; simp, ⟨HA2.out, by rw [listL, HB.out]; simpa using HO2.out, HB2.out⟩⟩
        case measure => simp [intOf]; omega
    · have hlt' : decide ((k : Int) < 8) = false := decide_eq_false (by omega)
      have ek : k = 8 := by omega
      have h8 := HL.out
      rw [ek] at h8 ⊢
      have H8 := Aside0.mk h8
      clear h8 HL ek
      have hb0 : (fun i => decide (i < 8) && s.testBit i) = fun i => decide (i < 8) && s.testBit i := rfl
      obtain ⟨g, hg⟩ : ∃ g : Nat → Bool, g = fun i => decide (i < 8) && s.testBit i := ⟨_, rfl⟩
      have hba := H8.out.ba
      rw [← hg] at hba
      have HG := Aside0.mk hg
      clear hg hb0
      have c0 := cell_two hba 0 (arr8_get g 0 (by omega))
      have c1 := cell_two hba 1 (arr8_get g 1 (by omega))
      have c2 := cell_two hba 2 (arr8_get g 2 (by omega))
      have c3 := cell_two hba 3 (arr8_get g 3 (by omega))
      have c4 := cell_two hba 4 (arr8_get g 4 (by omega))
      have c5 := cell_two hba 5 (arr8_get g 5 (by omega))
      have c6 := cell_two hba 6 (arr8_get g 6 (by omega))
      have c7 := cell_two hba 7 (arr8_get g 7 (by omega))
      clear hba
      obtain ⟨e, he⟩ : ∃ e, (!g 0 && !g 1 && !g 2 && !g 3 && !g 4 && !g 5 && !g 6 && !g 7) = e := ⟨_, rfl⟩
      have heq : (Op.equalIn 10000 110 (.agg #[.bool (g 0), .bool (g 1), .bool (g 2), .bool (g 3), .bool (g 4), .bool (g 5), .bool (g 6), .bool (g 7)]) (.agg #[.bool false, .bool false, .bool false, .bool false, .bool false, .bool false, .bool false, .bool false])).run Try.prog wr = .ok e wr := by rw [← he]; exact eq8 _ _ _ _ _ _ _ _ wr
      have HE := Aside0.mk he
      clear he
      cases e
      · go_wp2_with (fail)
        go_ret
        exact ⟨_, rfl, Kd.R_mono H8.out.own (fun _ h => Nat.le_of_lt h), H8.out.bel⟩
      · have HN : Aside0 (listL s 8 = []) := ⟨by
          have h1 := HE.out
          rw [HG.out] at h1
          simp at h1
          simp [listL, h1]⟩
        go_wp2_with (fail)
        go_ret
        exact ⟨_, rfl, by rw [HN.out]; exact Kd.R_nil _ _ _ _ _, H8.out.bel⟩
end Go.Proofs.Ytbjinkkmakhbaaa.Print
