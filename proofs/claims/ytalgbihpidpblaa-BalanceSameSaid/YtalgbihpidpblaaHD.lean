/- The first truth (Truth). -/
import Derived.Test.YtalgbihpidpblaaHC
namespace Go.Proofs.Ytalgbihpidpblaa.Print
open Go.RowKit Go.Shelf Go.Proofs.YtalgbihpidpblaaW.PrintWords Go.Proofs.YtalgbihpidpblaaW.PrintLast Go.Proofs.YtalgbihpidpblaaW.PrintMore
set_option linter.unusedVariables false
set_option linter.unusedSimpArgs false

theorem C_cells {W : World} {ad : Addr} {l : List S47} (h : Kd.C k47 W (some ad) l.length l) : ∀ j v, (encF l)[j]? = some v → W.cell? (ad.add j) = some v := by
  intro j v hv
  have hj : j < (encF l).length := (List.getElem?_eq_some_iff.1 hv).1
  rw [encF_length] at hj
  obtain ⟨ad', e, hc⟩ := h.2.2 (by omega)
  cases e
  have hq : j / 4 < l.length := by omega
  obtain ⟨c, hlen, hK, hcell⟩ := hc (j / 4) _ (List.getElem?_eq_getElem hq)
  obtain rfl := k47_open hK
  have e : j = (j / 4) * 4 + j % 4 := by omega
  rw [e, encF_get l (j / 4) _ (j % 4) (List.getElem?_eq_getElem hq) (by omega)] at hv
  have := hcell (j % 4) v hv
  rw [e]
  exact this

theorem setRow_at (W : World) (g : Nat) (cs : Array Value) {cur : Array Value} {t : TypeId} (h : W.heap[g]? = some (.cells cur t (0, 0))) : (W.setRow g cs).heap[g]? = some (.cells cs t (0, 0)) :=
  setRow_heap W g cur cs t (0, 0) h

theorem wpList_copy_flows {P : Program} {w : World} {ops : Array Oper} {rest : List Oper} {o : Oper} {a : Act} {Q : Exit → Act → World → Prop} (hgd : o.guard = none) (d s : Operand) (dT sT : TypeId)
    (ho : o.op = .call { callee := .builtin .copy, args := #[d, s], argTypes := #[dT, sT] }) (hu : P.underlying dT = some (.slice 47)) (hsz : (P.info? 47).map (·.size) = some 4)
    (g : Nat) (l : List S47) (A : Option Addr) (c : Nat) (hd : a.eval d = .slice (some ⟨g, 0, none⟩) l.length l.length) (hs : a.eval s = .slice A l.length c) (hr : Kd.C k47 w A l.length l)
    (cur : Array Value) (hg : w.heap[g]? = some (.cells cur 47 (0, 0))) (hcur : cur.size = l.length * 4) (B : Nat) (w0 : World) (hb : Below B w0 w) (hBg : B ≤ g)
    (h : ∀ w', w'.heap[g]? = some (.cells (encF l).toArray 47 (0, 0)) → (∀ k, k ≠ g → w'.heap[k]? = w.heap[k]?) → w'.heap.size = w.heap.size → Below B w0 w' → wpList P ops Q rest (a.put o.dst (goInt l.length)) w') :
    wpList P ops Q (o :: rest) a w := by
  refine wpList_plain hgd fun K hK => ?_
  unfold Oper.wp
  have hl := encF_length l
  by_cases h0 : l = []
  · subst h0
    have hrun := run_copy_zero (P := P) 4 w dT sT o.type 47 g 0 A c hu hsz
    have hce : cur = #[] := by apply Array.eq_empty_of_size_eq_zero; simpa using hcur
    simp [execOp, ho, resolve, invoke, builtin, hd, hs, hrun, Result.andThen]
    refine hK _ _ (h w ?_ (fun _ _ => rfl) rfl hb)
    rw [hg, hce]
    rfl
  · have hp : 0 < l.length := List.length_pos_iff.2 h0
    obtain ⟨ad, rfl, _⟩ := hr.2.2 hp
    have hrun := run_copy_rowS (P := P) 4 w dT sT o.type 47 g 0 l.length l.length ad l.length c cur 47 (encF l) hu hsz hg (by rw [hl]; simp) (C_cells hr) (by rw [hl, hcur]; omega) (encF_one l)
    have e : cur.toList.take 0 ++ encF l ++ cur.toList.drop (0 + (encF l).length) = encF l := by
      rw [List.drop_of_length_le (by rw [hl]; simp [hcur])]
      simp
    rw [e, show Nat.min l.length l.length = l.length from Nat.min_self _] at hrun
    simp [execOp, ho, resolve, invoke, builtin, hd, hs, hrun, Result.andThen]
    refine hK _ _ (h _ (setRow_at w g _ hg) (fun k hk => setRow_other w g k _ hk) (by simp [World.setRow]) (below_setRow hb hBg _))

/-- One flow more is fixed, at its least. -/
def fixOne (pl : Int) (cur : List S47) (i : Nat) : List S47 := cur.set i { rd_T47 cur i with f2 := ⟨(boundS false pl cur i).1, (boundS false pl cur i).1⟩ }
def fixes (pl : Int) (l : List S47) : Nat → List S47
  | 0 => l
  | i + 1 => fixOne pl (fixes pl l i) i
def truthL (pl : Int) (l : List S47) : Nat → List Int
  | 0 => []
  | i + 1 => truthL pl l i ++ [(boundS false pl (fixes pl l i) i).1]
theorem fixes_length (pl : Int) (l : List S47) (i : Nat) : (fixes pl l i).length = l.length := by
  induction i with
  | zero => rfl
  | succ i ih => simp [fixes, fixOne, ih]
theorem truthL_length (pl : Int) (l : List S47) (i : Nat) : (truthL pl l i).length = i := by
  induction i with
  | zero => rfl
  | succ i ih => simp [truthL, ih]

theorem info47z : (Try.prog.info? 47).map (fun i => (i.zero, i.size, i.bytes)) = some (some (.agg #[(.int .i64 0), (.int .i64 0), (.int .i64 0), (.int .i64 0)]), 4, 32) := by kernel_rfl

theorem make_flows (n : Nat) (hn : n ≤ 16) (w : World) : (Instr.makeSlice 22 (.int .i64 (n : Int)) (.int .i64 (n : Int))).run Try.prog w = .ok (.slice (some ⟨w.heap.size, 0, none⟩) n n) (w.alloc (.cells (madeCells #[.int .i64 0, .int .i64 0, .int .i64 0, .int .i64 0] (n * 4)) 47)) := by
  obtain ⟨i, hi, h1, h2, h3⟩ := info_parts info47z
  have := run_make (P := Try.prog) w 22 47 i _ Try.underlying22 hi h1 .i64 .i64 (n : Int) (n : Int) (by omega) (by omega) (by rw [h3]; omega) (by omega)
  rw [Int.toNat_natCast, h2] at this
  exact this

set_option maxRecDepth 100000 in
set_option maxHeartbeats 2000000 in
theorem truth_early (pl : Int) (A : Option Addr) (c : Nat) (l : List S47) (w : World) (hr : Kd.C k47 w A l.length l) (hc : l.length ≤ c) (h : errS pl l ≠ 0) :
    Calls Try.prog 11 #[.agg #[.int .i64 pl, .slice A l.length c]] w (WhyPost ([], errS pl l) w) := by
  have HR := Aside0.mk hr
  clear hr
  have hb0 : Below w.heap.size w (w.alloc (.cells #[.int .i64 pl, .slice A l.length c] 24)) := (Below.refl _ _).alloc (Nat.le_refl _) _
  have HB0 := Aside0.mk hb0
  clear hb0
  rcases err_cases pl l with ⟨he, hp⟩ | ⟨he, hp⟩ | ⟨he, hp⟩
  · have HE := Aside0.mk he
    rw [he]
    clear h he hp
    go_enter Try.func11, Try.ntmps11
    go_wp2_with (go_at_call 28; refine (error_as 1 _ _ _ _ _ (Kd.C_below HR.out HB0.out) hc HE.out).mono ?_; rintro e W1 ⟨rfl, hb⟩; have HB1 := Aside0.mk (HB0.out.trans (hb.mono HB0.out.size)); clear hb)
    go_ret2
    exact ⟨_, rfl, Kd.R_nil _ _ _ _ _, HB1.out⟩
  · have HE := Aside0.mk he
    rw [he]
    clear h he hp
    go_enter Try.func11, Try.ntmps11
    go_wp2_with (go_at_call 28; refine (error_as 6 _ _ _ _ _ (Kd.C_below HR.out HB0.out) hc HE.out).mono ?_; rintro e W1 ⟨rfl, hb⟩; have HB1 := Aside0.mk (HB0.out.trans (hb.mono HB0.out.size)); clear hb)
    go_ret2
    exact ⟨_, rfl, Kd.R_nil _ _ _ _ _, HB1.out⟩
  · exact absurd he h

theorem field45_0 (a b : Int) (w : World) : (Instr.field 45 (.agg #[.int .i64 a, .int .i64 b]) 0).run Try.prog w = .ok (.int .i64 a) w := by kernel_rfl

set_option maxRecDepth 100000 in
set_option maxHeartbeats 2000000 in
theorem truth_main (pl : Int) (A : Option Addr) (c : Nat) (l : List S47) (w : World) (hr : Kd.C k47 w A l.length l) (hc : l.length ≤ c) (he : errS pl l = 0) (hl : l.length ≤ 16)
    (hv : ∀ i, i < l.length → isPlantB pl (fixes pl l i) = true) :
    Calls Try.prog 11 #[.agg #[.int .i64 pl, .slice A l.length c]] w (WhyPost (truthL pl l l.length, 0) w) := by
  have HR := Aside0.mk hr
  clear hr
  have HX0 := Aside0.mk (blk_new w (.cells #[.int .i64 pl, .slice A l.length c] 24))
  have hb0 : Below w.heap.size w (w.alloc (.cells #[.int .i64 pl, .slice A l.length c] 24)) := (Below.refl _ _).alloc (Nat.le_refl _) _
  have HB0 := Aside0.mk hb0
  clear hb0
  have HE := Aside0.mk he
  have HV := Aside0.mk hv
  clear he hv
  have hmk := make_flows l.length hl
  have hfd := field45_0
  go_enter Try.func11, Try.ntmps11
  go_wp2_with (first
    | (go_at_call 28; refine (error_as 0 _ _ _ _ _ (Kd.C_below HR.out HB0.out) hc HE.out).mono ?_; rintro e W1 ⟨rfl, hb⟩; have x1 := blk_below HX0.out hb; have s0 : W1.cell? ⟨w.heap.size, 0, none⟩ = some (.int .i64 pl) := cell_two x1 0 rfl; have s1 : W1.cell? ⟨w.heap.size, 1, none⟩ = some (.slice A l.length c) := cell_two x1 1 rfl; have HB1 := Aside0.mk (HB0.out.trans (hb.mono HB0.out.size)); have HX1 := Aside0.mk x1; have hz := World.block_lt_of_cell? _ _ s0; clear hb x1)
    | ((with_reducible refine gate_builtin (b := .copy) (xs := #[.tmp 18, .tmp 20]) rfl ?_); refine wpList_copy_flows rfl (.tmp 18) (.tmp 20) 22 22 rfl Try.underlying22 (by kernel_rfl) W1.heap.size l A c rfl rfl (Kd.C_below HR.out (by repeat (first | exact HB1.out | apply below_alloc))) _ (blk_new _ _) (size_madeCells _ _) w.heap.size w (by repeat (first | exact HB1.out | apply below_alloc)) HB1.out.size ?_; intro W2 hx2 hk2 hs2 hb2; have x0 := (hk2 w.heap.size (by omega)).trans (blk_alloc HX1.out _); have HX2 := Aside0.mk hx2; have HX3 := Aside0.mk x0; have HB2 := Aside0.mk hb2; have t0 : W2.cell? ⟨w.heap.size, 0, none⟩ = some (.int .i64 pl) := cell_two x0 0 rfl; have t1 : W2.cell? ⟨w.heap.size, 1, none⟩ = some (.slice A l.length c) := cell_two x0 1 rfl; have tf := blk_frozen x0 1; have hz2 := World.block_lt_of_cell? _ _ t0; clear hx2 hk2 hs2 hb2 x0 s0 s1))
  clear hmk hz
  obtain ⟨B1, hB1⟩ : ∃ B, B = W1.heap.size := ⟨_, rfl⟩
  have hne : B1 ≠ w.heap.size := by have := HB1.out.size; have := blk_lt HX1.out; omega
  have hle : w.heap.size ≤ B1 := by have := HB1.out.size; omega
  rw [← hB1] at HX2 ⊢
  clear hB1
  go_loopw [6, 26] (fun v i wr => ∃ k : Nat, i = .int .i64 k ∧ k ≤ l.length ∧ Aside0 (Kd.R (Kd.int .i64) 3 wr w.heap.size (fun q => q ≠ w.heap.size ∧ q ≠ B1) v (truthL pl l k)) ∧
    Aside0 (wr.heap[w.heap.size]? = some (.cells #[.int .i64 pl, .slice (some ⟨B1, 0, none⟩) l.length l.length] 24 (0, 0))) ∧ Aside0 (wr.heap[B1]? = some (.cells (encF (fixes pl l k)).toArray 47 (0, 0))) ∧ Aside0 (Below w.heap.size w wr)) (fun _ i _ => l.length - (intOf i).toNat)
  case atStart =>
    refine ⟨0, rfl, by omega, ⟨Kd.R_nil _ _ _ _ _⟩, ⟨blk_put HX3.out 1 _ rfl⟩, ⟨?_⟩, ⟨below_set HB2.out (Nat.le_refl _)⟩⟩
    exact (Below.heap_setCell W2 _ _ _ hne).trans HX2.out
  case round =>
    obtain ⟨k, rfl, hk, HO, HY0, HY1, HB⟩ := hrel
    by_cases hlt : k < l.length
    · have hlt' : decide (k < l.length) = true := decide_eq_true hlt
      have r0 : wr.cell? ⟨w.heap.size, 0, none⟩ = some (.int .i64 pl) := cell_two HY0.out 0 rfl
      have r1 : wr.cell? ⟨w.heap.size, 1, none⟩ = some (.slice (some ⟨B1, 0, none⟩) l.length l.length) := cell_two HY0.out 1 rfl
      have hfl := fixes_length pl l k
      have HC : Aside0 (Kd.C k47 wr (some ⟨B1, 0, none⟩) l.length (fixes pl l k)) := ⟨by have := C_of_blk HY1.out (by omega); rwa [hfl] at this⟩
      have HT : Aside0 (Calls Try.prog 29 #[.agg #[.int .i64 pl, .slice (some ⟨B1, 0, none⟩) l.length l.length], .int .i64 (k : Int)] wr fun e w' =>
          e = .returned (.agg #[.int .i64 (boundS false pl (fixes pl l k) k).1, .int .i64 (boundS true pl (fixes pl l k) k).1]) ∧ Below wr.heap.size wr w') := ⟨by
        have := tight_any pl (some ⟨B1, 0, none⟩) l.length (fixes pl l k) k wr (by rw [hfl]; exact HC.out) (HV.out k hlt) (by omega) (by omega)
        rw [hfl] at this
        exact this⟩
      clear hfl
      go_wp2_with (first | (go_at_call 29; refine HT.out.mono ?_; rintro e W4 ⟨rfl, hb⟩; have y1 := blk_below HY1.out hb; have HZ1 := Aside0.mk y1; have HB4 := Aside0.mk (HB.out.trans (hb.mono HB.out.size)); have HZ0 := Aside0.mk (blk_below HY0.out hb); have HO4 := Aside0.mk (Kd.R_below HO.out hb); have m2 := cell_two y1 (k * 4 + 2) (v := .int .i64 (rd_T47 (fixes pl l k) k).f2.f0) (by have := encF_get (fixes pl l k) k _ 2 (List.getElem?_eq_getElem (by rw [fixes_length]; exact hlt)) (by omega); simp only [List.getElem?_toArray]; rw [this, rd_T45_eq _ _ (by rw [fixes_length]; exact hlt)]; rfl); have m3 := cell_two y1 (k * 4 + 3) (v := .int .i64 (rd_T47 (fixes pl l k) k).f2.f1) (by have := encF_get (fixes pl l k) k _ 3 (List.getElem?_eq_getElem (by rw [fixes_length]; exact hlt)) (by omega); simp only [List.getElem?_toArray]; rw [this, rd_T45_eq _ _ (by rw [fixes_length]; exact hlt)]; rfl); have n2 := blk_frozen y1 (k * 4 + 2); have n3 := blk_frozen y1 (k * 4 + 3); have z0 := blk_lt HZ0.out; have z1 := blk_lt y1; clear hb y1) | ((with_reducible refine gate_builtin (b := .append) (xs := #[.tmp 40, .tmp 42]) rfl ?_); at_builtin; refine Kd.R_append (Kd.int .i64) (w0 := w) w.heap.size rfl (.tmp 40) (.tmp 42) 27 3 (.int .i64 0) 8 rfl Try.underlying27 info3 rfl (by decide) (by omega) u6 (truthL pl l k) (boundS false pl (fixes pl l k) k).1 [.int .i64 (boundS false pl (fixes pl l k) k).1] (fun q => q ≠ w.heap.size ∧ q ≠ B1) (fun _ => False) rfl ?aX ?aP (fun _ hk => hk.elim) ?aF ?aO ?aB ?aS ?aL ?_; (case aX => (simp only [World.size_setCell]; rfl)); (case aP => exact rfl); (case aF => exact (fun q hq => by simp at hq; exact ⟨by omega, by omega⟩)); (case aO => exact Kd.R_far (Kd.R_far HO4.out (fun q hq => hq.2) _) (fun q hq => hq.2) _); (case aB => exact below_set (below_set HB4.out hle) hle); (case aS => simp; omega); (case aL => rw [truthL_length]; omega); intro v5 w5 hO5 hb5 hg5 hat5; have HO5 := Aside0.mk hO5; have HB5 := Aside0.mk hb5; have HG5 := Aside0.mk hg5; clear hO5 hb5 hg5 hat5))
      have hq0 : some w.heap.size ≠ u6.ownBlock := fun e => (HO4.out.1 _ e.symm).1 rfl
      have hq1 : some B1 ≠ u6.ownBlock := fun e => (HO4.out.1 _ e.symm).2 rfl
      go_roundw
      case rel =>
        refine ⟨k + 1, by go_num, by omega, HO5, ⟨?_⟩, ⟨?_⟩, HB5⟩
        · refine (HG5.out.block _ (by simp; omega) hq0).trans ?_
          exact (Below.heap_setCell _ _ _ _ hne.symm).trans ((Below.heap_setCell _ _ _ _ hne.symm).trans HZ0.out)
        · refine (HG5.out.block _ (by simp; omega) hq1).trans ?_
          refine (blk_put (blk_put HZ1.out (k * 4 + 2) _ rfl) (k * 4 + 2 + 1) _ ?_)
          have hkl : k < (fixes pl l k).length := by rw [fixes_length]; exact hlt
          have e := encF_set (fixes pl l k) k _ ⟨(boundS false pl (fixes pl l k) k).1, (boundS false pl (fixes pl l k) k).1⟩ (List.getElem?_eq_getElem hkl)
          simp only [fixes, fixOne]
          rw [rd_T45_eq _ _ hkl, e]
          simp
      case measure => simp [intOf]; omega
    · have hlt' : decide (k < l.length) = false := decide_eq_false hlt
      have ek : k = l.length := by omega
      rw [ek] at HO
      clear ek
      go_wp2_with (fail)
      go_ret2
      exact ⟨_, rfl, Kd.R_mono HO.out (fun _ _ => trivial), HB.out⟩

def truthOk (pl : Int) (l : List S47) : Bool := (List.range l.length).all fun i => isPlantB pl (fixes pl l i)

def balance_Truth.f (a0_0 : Int) (l0_1 : List (S47)) : Option (List Int × Int) :=
  if errS a0_0 l0_1 = 0 then (if truthOk a0_0 l0_1 = true then some (truthL a0_0 l0_1 l0_1.length, 0) else none) else some ([], errS a0_0 l0_1)

theorem balance_Truth.calls (a0_0 : Int) (A0_1 : Option Addr) (c0_1 : Nat) (l0_1 : List (S47)) (r1 : List Int) (r2 : Int) (w : World) (hr0_1 : Kd.C k47 w A0_1 l0_1.length l0_1) (hc0_1 : l0_1.length ≤ c0_1) (h : balance_Truth.f a0_0 l0_1 = some (r1, r2)) :
    Calls Try.prog 11 #[.agg #[.int .i64 a0_0, .slice A0_1 l0_1.length c0_1]] w fun e w' => ∃ v0_ : Value, e = .returned (.tuple #[v0_, .int .i64 r2]) ∧ Kd.R (Kd.int .i64) 3 w' w.heap.size (fun _ => True) v0_ r1 ∧ Below w.heap.size w w' := by
  unfold balance_Truth.f at h
  split at h
  · rename_i he
    split at h
    · rename_i hv
      simp only [Option.some.injEq, Prod.mk.injEq] at h
      obtain ⟨rfl, rfl⟩ := h
      have hp : isPlantB a0_0 l0_1 = true := by rcases err_cases a0_0 l0_1 with ⟨h, hp⟩ | ⟨h, hp⟩ | ⟨h, hp⟩ <;> first | omega | exact hp
      refine truth_main a0_0 A0_1 c0_1 l0_1 w hr0_1 hc0_1 he (plant_of _ _ hp).2.2.1 (fun i hi => ?_)
      unfold truthOk at hv
      rw [List.all_eq_true] at hv
      exact hv i (List.mem_range.2 hi)
    · cases h
  · rename_i he
    simp only [Option.some.injEq, Prod.mk.injEq] at h
    obtain ⟨rfl, rfl⟩ := h
    exact truth_early a0_0 A0_1 c0_1 l0_1 w hr0_1 hc0_1 he
end Go.Proofs.Ytalgbihpidpblaa.Print
