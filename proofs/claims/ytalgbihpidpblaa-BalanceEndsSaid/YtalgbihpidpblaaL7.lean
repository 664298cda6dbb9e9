/- BalanceEnds: the law's function, walked: its answer is true. -/
import Derived.Test.YtalgbihpidpblaaG4
namespace Go.Proofs.Ytalgbihpidpblaa.Print
open Go.RowKit Go.Shelf Go.Proofs.YtalgbihpidpblaaW.PrintWords Go.Proofs.YtalgbihpidpblaaW.PrintLast Go.Proofs.YtalgbihpidpblaaW.PrintMore
set_option linter.unusedVariables false
set_option linter.unusedSimpArgs false

def BackEnds (w : World) (e : Ending) (w' : World) : Prop := e = .returned (.bool true) ∧ Below w.heap.size w w'

/-! ### What the closure answers -/
theorem ends_yes (pl : Int) (l : List S47) (hp : isPlantB pl l = true) (hc : Cut l) (i : Nat) (hi : i < l.length) (n : Int) (h1 : (boundS false pl l i).1 ≤ n) (h2 : n ≤ (boundS true pl l i).1) :
    ∃ r, balance_Truth.f pl (fixL l i n) = some (r, 0) ∧ isPlantB pl (fixL l i n) = true ∧ isB (fixL l i n) r = true ∧ isB l r = true := by
  have h8 := (plant_of pl l hp).2.1
  have hg : GoodL pl l := (plant_of pl l hp).2.2.2
  have hb := bounds_in pl l hg hc i (by omega) (by omega)
  have hg2 := fix_good pl l hg i n (by omega) (by omega) (by omega) (by omega)
  have hc2 := fix_cut pl l h8 hg hc i n (by omega) (by omega) h1 h2
  have hq : isPlantB pl (fixL l i n) = true := good_plant pl _ (plant_of pl l hp).1 h8 (by rw [fixL_length]; exact (plant_of pl l hp).2.2.1) hg2
  have ht := truth_is pl _ h8 hg2 hc2
  exact ⟨_, truth_cut pl _ hq hc2, hq, (isB_iff pl _ _ h8 hg2).2 ht, (isB_iff pl _ _ h8 hg).2 (tr_unfix l _ i hi n (by omega) (by omega) ht).1⟩
theorem ends_no (pl : Int) (l : List S47) (hp : isPlantB pl l = true) (i : Nat) (hi : i < l.length) (n : Int) (h1 : (rd_T47 l i).f2.f0 ≤ n) (h2 : n ≤ (rd_T47 l i).f2.f1) (h : n < (boundS false pl l i).1 ∨ (boundS true pl l i).1 < n) :
    balance_Truth.f pl (fixL l i n) = some ([], 6) := by
  have h8 := (plant_of pl l hp).2.1
  have hg : GoodL pl l := (plant_of pl l hp).2.2.2
  have hg2 := fix_good pl l hg i n (by omega) (by omega) (by omega) (by omega)
  have hq : isPlantB pl (fixL l i n) = true := good_plant pl _ (plant_of pl l hp).1 h8 (by rw [fixL_length]; exact (plant_of pl l hp).2.2.1) hg2
  refine truth_none pl _ hq (fun hc2 => ?_)
  have ht := tr_unfix l _ i hi n h1 h2 (truth_is pl _ h8 hg2 hc2)
  have := tr_bounds pl l _ ht.1 i hi
  omega

structure EndsAt (w W : World) (PB IB OB : Nat) (pl : Int) (A : Option Addr) (c : Nat) (l : List S47) (i : Nat) (K : List S45) (tv : Value) : Prop where
  bp : W.heap[PB]? = some (.cells #[.int .i64 pl, .slice A l.length c] 24 (0, 0))
  bi : W.heap[IB]? = some (.cells #[.int .i64 (i : Int)] 3 (0, 0))
  bo : W.heap[OB]? = some (.cells #[.int .i64 (rd_T47 l i).f2.f0, .int .i64 (rd_T47 l i).f2.f1] 45 (0, 0))
  kk : Kd.R k45 45 W w.heap.size (fun _ => True) tv K
  cc : Kd.C k47 W A l.length l
  bel : Below w.heap.size w W
theorem ends_below {w W W' : World} {PB IB OB : Nat} {pl : Int} {A : Option Addr} {c : Nat} {l : List S47} {i : Nat} {K : List S45} {tv : Value} (h : EndsAt w W PB IB OB pl A c l i K tv) (hb : Below W.heap.size W W') : EndsAt w W' PB IB OB pl A c l i K tv where
  bp := blk_below h.bp hb
  bi := blk_below h.bi hb
  bo := blk_below h.bo hb
  kk := Kd.R_below h.kk hb
  cc := Kd.C_below h.cc hb
  bel := bl_next h.bel hb
theorem ends_drew {w W : World} {PB IB OB : Nat} {pl : Int} {A : Option Addr} {c : Nat} {l : List S47} {i : Nat} {K : List S45} {tv : Value} (h : EndsAt w W PB IB OB pl A c l i K tv) : EndsAt w W.drew PB IB OB pl A c l i K tv where
  bp := h.bp
  bi := h.bi
  bo := h.bo
  kk := Kd.R_drew h.kk
  cc := Kd.C_drew h.cc
  bel := h.bel.drew

set_option maxHeartbeats 4000000 in
set_option maxRecDepth 100000 in
theorem ends_early (pl : Int) (A : Option Addr) (c : Nat) (l : List S47) (a1 : Int) (w : World) (hr : Kd.C k47 w A l.length l) (hc : l.length ≤ c) (h : 20 < l.length ∨ (l.length ≤ 20 ∧ (errS pl l ≠ 0 ∨ l.length = 0))) :
    Calls Try.prog 6 #[.agg #[.int .i64 pl, .slice A l.length c], .int .u8 a1] w (BackEnds w) := by
  have HR := Aside0.mk hr
  clear hr
  rcases h with h | ⟨h, he⟩
  · have d1 : decide ((20 : Int) < (l.length : Int)) = true := decide_eq_true (by omega)
    clear h
    go_enter Try.func6, Try.ntmps6
    go_wp2_with (go_at_call 10; refine (awake_any _).mono ?_; rintro e W1 ⟨rfl, hb⟩; have HB1 := Aside0.mk (bl_next (below_alloc (Below.refl w.heap.size w) _) hb); clear hb)
    go_ret
    exact ⟨rfl, HB1.out⟩
  · by_cases he0 : errS pl l = 0
    · have hl0 : l.length = 0 := by
        rcases he with h | h
        · exact absurd he0 h
        · exact h
      obtain rfl := List.eq_nil_of_length_eq_zero hl0
      have HT := Aside0.mk (show tightS pl [] = ([], 0) by unfold tightS; rw [if_pos he0]; rfl)
      clear he he0 hl0 h
      go_enter Try.func6, Try.ntmps6
      go_wp2_with (first
        | (go_at_call 13; refine (tight_call HT.out (Kd.C_below HR.out (below_alloc (Below.refl _ _) _)) hc).mono ?_; rintro e W1 ⟨v, rfl, hR, hb⟩; obtain ⟨A1, c1, rfl⟩ := Kd.R_slice hR; have HB1 := Aside0.mk (bl_next (below_alloc (Below.refl w.heap.size w) _) hb); clear hb hR)
        | (go_at_call 10; refine (awake_any _).mono ?_; rintro e W2 ⟨rfl, hb⟩; have HB2 := Aside0.mk (bl_next HB1.out hb); clear hb))
      go_ret
      exact ⟨rfl, HB2.out⟩
    · have HT := Aside0.mk (show tightS pl l = ([], errS pl l) by unfold tightS; rw [if_neg he0])
      have k1 : (errS pl l != 0) = true := bne_iff_ne.2 he0
      have d1 : decide ((20 : Int) < (l.length : Int)) = false := decide_eq_false (by omega)
      clear he he0
      generalize errS pl l = er at *
      go_enter Try.func6, Try.ntmps6
      go_wp2_with (first
        | (go_at_call 13; refine (tight_call HT.out (Kd.C_below HR.out (below_alloc (Below.refl _ _) _)) hc).mono ?_; rintro e W1 ⟨v, rfl, hR, hb⟩; obtain ⟨A1, c1, rfl⟩ := Kd.R_slice hR; have HB1 := Aside0.mk (bl_next (below_alloc (Below.refl w.heap.size w) _) hb); clear hb hR)
        | (go_at_call 10; refine (awake_any _).mono ?_; rintro e W2 ⟨rfl, hb⟩; have HB2 := Aside0.mk (bl_next HB1.out hb); clear hb))
      go_ret
      exact ⟨rfl, HB2.out⟩

theorem plant_call3 {pl : Int} {A : Option Addr} {c : Nat} {l : List S47} {r : Bool} {w : World} (h : isPlantB pl l = r) (hr : Kd.C k47 w A l.length l) (hc : l.length ≤ c) :
    Calls Try.prog 23 #[.agg #[.int .i64 pl, .slice A l.length c]] w fun e w' => e = .returned (.bool r) ∧ Below w.heap.size w w' := by subst h; exact Plant_any _ _ _ _ _ hr hc
theorem yes_call (pl : Int) (l : List S47) (hp : isPlantB pl l = true) (hc : Cut l) (i : Nat) (hi : i < l.length) (n : Int) (h1 : (boundS false pl l i).1 ≤ n) (h2 : n ≤ (boundS true pl l i).1) (w W : World) (PB IB OB : Nat) (A : Option Addr) (c : Nat) (K : List S45) (tv : Value) (hA : l.length ≤ c) (h : EndsAt w W PB IB OB pl A c l i K tv) :
    Calls Try.prog 24 #[.int .i64 n, .pointer (some ⟨PB, 0, none⟩), .pointer (some ⟨IB, 0, none⟩)] W fun e w' => e = .returned (.tuple #[.int .i64 0, .bool true]) ∧ Below W.heap.size W w' := by
  obtain ⟨r, e1, e2, e3, e4⟩ := ends_yes pl l hp hc i hi n h1 h2
  exact with_any pl A c l i n W PB IB h.bp h.bi h.cc hA hi (plant_of pl l hp).2.2.1 hp r e1 e2 e3 e4
theorem no_call (pl : Int) (l : List S47) (hp : isPlantB pl l = true) (i : Nat) (hi : i < l.length) (n : Int) (h1 : (rd_T47 l i).f2.f0 ≤ n) (h2 : n ≤ (rd_T47 l i).f2.f1) (hn : n < (boundS false pl l i).1 ∨ (boundS true pl l i).1 < n) (w W : World) (PB IB OB : Nat) (A : Option Addr) (c : Nat) (K : List S45) (tv : Value) (hA : l.length ≤ c) (h : EndsAt w W PB IB OB pl A c l i K tv) :
    Calls Try.prog 24 #[.int .i64 n, .pointer (some ⟨PB, 0, none⟩), .pointer (some ⟨IB, 0, none⟩)] W fun e w' => e = .returned (.tuple #[.int .i64 6, .bool false]) ∧ Below W.heap.size W w' :=
  with_no pl A c l i n W PB IB h.bp h.bi h.cc hA hi (plant_of pl l hp).2.2.1 (ends_no pl l hp i hi n h1 h2 hn)

set_option maxHeartbeats 8000000 in
set_option maxRecDepth 100000 in
theorem ends_main (pl : Int) (A : Option Addr) (c : Nat) (l : List S47) (a1 : Int) (w : World) (hr : Kd.C k47 w A l.length l) (hc : l.length ≤ c) (hp : isPlantB pl l = true) (hcut : Cut l) (h0 : 0 < l.length) (ha : 0 ≤ a1 ∧ a1 ≤ 255) :
    Calls Try.prog 6 #[.agg #[.int .i64 pl, .slice A l.length c], .int .u8 a1] w (BackEnds w) := by
  obtain ⟨i, hi'⟩ := Int.eq_ofNat_of_zero_le (Int.emod_nonneg a1 (show (l.length : Int) ≠ 0 by omega))
  have hi : i < l.length := by
    have := Int.emod_lt_of_pos a1 (show (0 : Int) < (l.length : Int) by omega)
    omega
  have h16 := (plant_of pl l hp).2.2.1
  have hg : GoodL pl l := (plant_of pl l hp).2.2.2
  have hb := bounds_in pl l hg hcut i (by omega) (by omega)
  have hgx : goodF pl (rd_T47 l i) := rd_good pl l hg i (by omega) (by omega)
  unfold goodF at hgx
  have hle : (boundS false pl l i).1 ≤ (boundS true pl l i).1 := by
    have ht := tr_bounds pl l _ (truth_is pl l (plant_of pl l hp).2.1 hg hcut) i hi
    omega
  have HT := Aside0.mk (tight_cut pl l hp hcut)
  have HR := Aside0.mk hr
  have HPl := Aside0.mk hp
  have HCut := Aside0.mk hcut
  have HTL := Aside0.mk (tightL_len pl l)
  have er := tightL_rd pl l i hi
  obtain ⟨K, hK⟩ : ∃ K, K = tightL pl l := ⟨_, rfl⟩
  rw [← hK] at HT HTL er
  have kl : (K.length : Int) = (l.length : Int) := by rw [HTL.out]
  have hmod : a1 % (K.length : Int) = (i : Int) := by rw [kl]; exact hi'
  obtain ⟨lo, hlo⟩ : ∃ lo, lo = (boundS false pl l i).1 := ⟨_, rfl⟩
  obtain ⟨hi2, hhi⟩ : ∃ hi2, hi2 = (boundS true pl l i).1 := ⟨_, rfl⟩
  rw [← hlo, ← hhi] at er hle
  rw [← hlo, ← hhi] at hb
  have HLO := Aside0.mk hlo
  have HHI := Aside0.mk hhi
  have kpos : (0 : Int) < (K.length : Int) := by omega
  have k0 : ((K.length : Int) == 0) = false := beq_eq_false_iff_ne.2 (by omega)
  have kne : ((K.length : Int) != (l.length : Int)) = false := by rw [kl]; simp
  have i0 : (0 : Int) ≤ (i : Int) := Int.natCast_nonneg i
  have iK : (i : Int) < (K.length : Int) := by omega
  have iL : (i : Int) < (l.length : Int) := by omega
  have HER := Aside0.mk er
  have hd20 : decide ((20 : Int) < (l.length : Int)) = false := decide_eq_false (by omega)
  clear hr hp hcut hi' er hK hlo hhi kl hg
  go_enter Try.func6, Try.ntmps6
  go_wp2_with (first
    | (go_at_call 13; refine (tight_call HT.out (Kd.C_below HR.out (below_alloc (Below.refl _ _) _)) hc).mono ?_; rintro e W1 ⟨v, rfl, hR, hb⟩; obtain ⟨Ak, ck, rfl⟩ := Kd.R_slice hR; have HK1 := Aside0.mk (Kd.R_lower hR (below_alloc (Below.refl w.heap.size w) (.cells #[.int .i64 pl, .slice A l.length c] 24)).size); have HB1 := Aside0.mk (bl_next (below_alloc (Below.refl w.heap.size w) _) hb); have BP1 := Aside0.mk (blk_below (blk_new w (.cells #[.int .i64 pl, .slice A l.length c] 24)) hb); have s0 := cell_two BP1.out 0 rfl; have s1 := cell_two BP1.out 1 rfl; clear hb hR)
    | (go_at_call 23; refine (plant_call3 HPl.out (Kd.C_below HR.out HB1.out) hc).mono ?_; rintro e W2 ⟨rfl, hb⟩; have HK2 := Aside0.mk (Kd.R_below HK1.out hb); have BP2 := Aside0.mk (blk_below BP1.out hb); have HB2 := Aside0.mk (bl_next HB1.out hb); clear hb s0 s1; have s0 := cell_two BP2.out 0 rfl; have s1 := cell_two BP2.out 1 rfl; obtain ⟨aL, e, _, _, g4, g5⟩ := at_T47 (Kd.C_below HR.out HB2.out) i i0 iL; cases e; simp only [Int.toNat_natCast] at g4 g5; have gb4 := World.block_lt_of_cell? _ _ g4; have gb5 := World.block_lt_of_cell? _ _ g5; have sb1 := World.block_lt_of_cell? _ _ s1))
  have HE3 : Aside0 (EndsAt w ((W2.alloc (.cells #[.int .i64 (i : Int)] 3)).alloc (.cells #[.int .i64 (rd_T47 l i).f2.f0, .int .i64 (rd_T47 l i).f2.f1] 45)) w.heap.size W2.heap.size (W2.heap.size + 1) pl (some aL) c l i K (.slice Ak K.length ck)) := ⟨{
    bp := blk_alloc (blk_alloc BP2.out _) _
    bi := blk_alloc (blk_new W2 _) _
    bo := by
      have := blk_new (W2.alloc (.cells #[.int .i64 (i : Int)] 3)) (.cells #[.int .i64 (rd_T47 l i).f2.f0, .int .i64 (rd_T47 l i).f2.f1] 45)
      simpa using this
    kk := Kd.R_alloc (Kd.R_alloc HK2.out _) _
    cc := Kd.C_below HR.out (below_alloc (below_alloc HB2.out _) _)
    bel := below_alloc (below_alloc HB2.out _) _ }⟩
  clear s0 s1 g4 g5 gb4 gb5 sb1 HK2 BP2 HB2 HR
  generalize (W2.alloc (.cells #[.int .i64 (i : Int)] 3)).alloc (.cells #[.int .i64 (rd_T47 l i).f2.f0, .int .i64 (rd_T47 l i).f2.f1] 45) = W3 at HE3 ⊢
  generalize W2.heap.size = IB at HE3 ⊢
  obtain ⟨aK, e, k2, k3⟩ := at_T45 (Kd.R_reads' HE3.out.kk).2.2 i i0 iK
  cases e
  rw [HER.out] at k2 k3
  simp only [Int.toNat_natCast] at k2 k3
  have si : W3.cell? ⟨IB, 0, none⟩ = some (.int .i64 (i : Int)) := cell_two HE3.out.bi 0 rfl
  have so0 : W3.cell? ⟨IB + 1, 0, none⟩ = some (.int .i64 (rd_T47 l i).f2.f0) := cell_two HE3.out.bo 0 rfl
  have so1 : W3.cell? ⟨IB + 1, 1, none⟩ = some (.int .i64 (rd_T47 l i).f2.f1) := cell_two HE3.out.bo 1 rfl
  have f1 : decide (lo < (rd_T47 l i).f2.f0) = false := decide_eq_false (by omega)
  have f2 : decide (hi2 < lo) = false := decide_eq_false (by omega)
  have f3 : decide ((rd_T47 l i).f2.f1 < hi2) = false := decide_eq_false (by omega)
  go_big_region
  have HE4 := Aside0.mk (ends_drew HE3.out)
  have AT : ∀ (W : World), EndsAt w W w.heap.size IB (IB + 1) pl (some aL) c l i K (.slice (some aK) K.length ck) → W.cell? (aK.add (i * 2)) = some (.int .i64 lo) ∧ W.cell? ⟨(aK.add (i * 2)).block, (aK.add (i * 2)).off + 1, none⟩ = some (.int .i64 hi2) ∧ W.cell? ⟨IB, 0, none⟩ = some (.int .i64 (i : Int)) ∧ W.cell? ⟨IB + 1, 0, none⟩ = some (.int .i64 (rd_T47 l i).f2.f0) ∧ W.cell? ⟨IB + 1, 1, none⟩ = some (.int .i64 (rd_T47 l i).f2.f1) := fun W h => by
    obtain ⟨aK', e, k2, k3⟩ := at_T45 (Kd.R_reads' h.kk).2.2 i i0 iK
    cases e
    rw [HER.out] at k2 k3
    exact ⟨k2, k3, cell_two h.bi 0 rfl, cell_two h.bo 0 rfl, cell_two h.bo 1 rfl⟩
  have HAT := Aside0.mk AT
  clear AT k2 k3 si so0 so1 HE3
  generalize W3.drew = W4 at HE4 ⊢
  obtain ⟨k2, k3, si, so0, so1⟩ := HAT.out W4 HE4.out
  go_wp2_with (first
    | (go_at_call 24; have hgu := HE5.out; clear hgu; (with_reducible refine (yes_call pl l HPl.out HCut.out i hi hi2 (by rw [← HLO.out]; exact hle) (by rw [← HHI.out]; exact Int.le_refl _) w _ _ IB (IB + 1) (some aL) c K _ hc HE5.out).mono ?_); rintro e W6 ⟨rfl, hb⟩; have HE6 := Aside0.mk (ends_below HE5.out hb); clear hb k2 k3 si so0 so1; obtain ⟨k2, k3, si, so0, so1⟩ := HAT.out W6 HE6.out)
    | (go_at_call 24; (with_reducible refine (yes_call pl l HPl.out HCut.out i hi lo (by rw [← HLO.out]; exact Int.le_refl _) (by rw [← HHI.out]; exact hle) w _ _ IB (IB + 1) (some aL) c K _ hc HE4.out).mono ?_); rintro e W5 ⟨rfl, hb⟩; have HE5 := Aside0.mk (ends_below HE4.out hb); clear hb k2 k3 si so0 so1; obtain ⟨k2, k3, si, so0, so1⟩ := HAT.out W5 HE5.out))
  obtain ⟨m, hm⟩ : ∃ m, m = (hi2 - lo) / 2 := ⟨_, rfl⟩
  have m0 : 0 ≤ m := by omega
  have m1 : lo + m ≤ hi2 := by omega
  have dlo : 0 ≤ hi2 - lo := by omega
  have MID : Aside0 (∀ (W : World), EndsAt w W w.heap.size IB (IB + 1) pl (some aL) c l i K (.slice (some aK) K.length ck) → Calls Try.prog 24 #[.int .i64 (lo + m), .pointer (some ⟨w.heap.size, 0, none⟩), .pointer (some ⟨IB, 0, none⟩)] W fun e w' => e = .returned (.tuple #[.int .i64 0, .bool true]) ∧ Below W.heap.size W w') := ⟨fun W h => yes_call pl l HPl.out HCut.out i hi (lo + m) (by rw [← HLO.out]; omega) (by rw [← HHI.out]; exact m1) w W _ IB (IB + 1) (some aL) c K _ hc h⟩
  have w1 : IntKind.i64.wrap (hi2 - lo) = hi2 - lo := IntWalk.i64_in _ (by omega)
  have w2 : Int.tdiv (hi2 - lo) 2 = m := by rw [Int.tdiv_eq_ediv_of_nonneg dlo, hm]
  have w3 : IntKind.i64.wrap m = m := IntWalk.i64_in _ (by omega)
  have w4 : IntKind.i64.wrap (lo + m) = lo + m := IntWalk.i64_in _ (by omega)
  clear hm
  go_region_held3 (fun w' => w'.cell? (aK.add (i * 2)) = some (.int .i64 lo) ∧ w'.cell? ⟨(aK.add (i * 2)).block, (aK.add (i * 2)).off + 1, none⟩ = some (.int .i64 hi2) ∧ w'.cell? ⟨IB, 0, none⟩ = some (.int .i64 (i : Int))) (go_keep)
    ((go_at_call 24; refine (MID.out _ (ends_drew HE6.out)).mono ?_; rintro e W7 ⟨rfl, hb⟩; have HE7 := Aside0.mk (ends_below (ends_drew HE6.out) hb); clear hb k2 k3 si so0 so1; obtain ⟨k2, k3, si, so0, so1⟩ := HAT.out W7 HE7.out))
  clear w1 w2 w3 w4 dlo k0 kne hmod hd20 f1 f2 f3 MID
  by_cases ql : (rd_T47 l i).f2.f0 < lo
  · have dl : decide ((rd_T47 l i).f2.f0 < lo) = true := decide_eq_true ql
    have NOLO : Aside0 (∀ (W : World), EndsAt w W w.heap.size IB (IB + 1) pl (some aL) c l i K (.slice (some aK) K.length ck) → Calls Try.prog 24 #[.int .i64 (lo - 1), .pointer (some ⟨w.heap.size, 0, none⟩), .pointer (some ⟨IB, 0, none⟩)] W fun e w' => e = .returned (.tuple #[.int .i64 6, .bool false]) ∧ Below W.heap.size W w') := ⟨fun W h => no_call pl l HPl.out i hi (lo - 1) (by omega) (by omega) (.inl (by rw [← HLO.out]; omega)) w W _ IB (IB + 1) (some aL) c K _ hc h⟩
    by_cases qh : hi2 < (rd_T47 l i).f2.f1
    · have dh : decide (hi2 < (rd_T47 l i).f2.f1) = true := decide_eq_true qh
      have NOHI : Aside0 (∀ (W : World), EndsAt w W w.heap.size IB (IB + 1) pl (some aL) c l i K (.slice (some aK) K.length ck) → Calls Try.prog 24 #[.int .i64 (hi2 + 1), .pointer (some ⟨w.heap.size, 0, none⟩), .pointer (some ⟨IB, 0, none⟩)] W fun e w' => e = .returned (.tuple #[.int .i64 6, .bool false]) ∧ Below W.heap.size W w') := ⟨fun W h => no_call pl l HPl.out i hi (hi2 + 1) (by omega) (by omega) (.inr (by rw [← HHI.out]; omega)) w W _ IB (IB + 1) (some aL) c K _ hc h⟩
      clear ql qh
      as_aux_lemma =>
        go_wp2_with (fail)
        go_big_region
        have HE8 := Aside0.mk (ends_drew HE7.out)
        clear k2 k3 si so0 so1
        generalize W7.drew = W8 at HE8 ⊢
        obtain ⟨k2, k3, si, so0, so1⟩ := HAT.out W8 HE8.out
        go_wp2_with (go_at_call 24; refine (NOLO.out _ HE8.out).mono ?_; rintro e W9 ⟨rfl, hb⟩; have HE9 := Aside0.mk (ends_below HE8.out hb); clear hb k2 k3 si so0 so1; obtain ⟨k2, k3, si, so0, so1⟩ := HAT.out W9 HE9.out)
        go_big_region
        have HEa := Aside0.mk (ends_drew HE9.out)
        clear k2 k3 si so0 so1
        generalize W9.drew = Wa at HEa ⊢
        obtain ⟨k2, k3, si, so0, so1⟩ := HAT.out Wa HEa.out
        go_wp2_with (first | (go_at_call 24; refine (NOHI.out _ HEa.out).mono ?_; rintro e Wb ⟨rfl, hb⟩; have HEb := Aside0.mk (ends_below HEa.out hb); clear hb k2 k3 si so0 so1; obtain ⟨k2, k3, si, so0, so1⟩ := HAT.out Wb HEb.out) | (go_at_call 10; refine (awake_any _).mono ?_; rintro e Wz ⟨rfl, hb⟩; have HBz := Aside0.mk (bl_next HEb.out.bel hb); clear hb))
        go_ret
        exact ⟨rfl, HBz.out⟩
    · have dh : decide (hi2 < (rd_T47 l i).f2.f1) = false := decide_eq_false qh
      clear ql qh
      as_aux_lemma =>
        go_wp2_with (fail)
        go_big_region
        have HE8 := Aside0.mk (ends_drew HE7.out)
        clear k2 k3 si so0 so1
        generalize W7.drew = W8 at HE8 ⊢
        obtain ⟨k2, k3, si, so0, so1⟩ := HAT.out W8 HE8.out
        go_wp2_with (go_at_call 24; refine (NOLO.out _ HE8.out).mono ?_; rintro e W9 ⟨rfl, hb⟩; have HE9 := Aside0.mk (ends_below HE8.out hb); clear hb k2 k3 si so0 so1; obtain ⟨k2, k3, si, so0, so1⟩ := HAT.out W9 HE9.out)
        go_big_region
        have HEa := Aside0.mk (ends_drew HE9.out)
        clear k2 k3 si so0 so1
        generalize W9.drew = Wa at HEa ⊢
        obtain ⟨k2, k3, si, so0, so1⟩ := HAT.out Wa HEa.out
        go_wp2_with (go_at_call 10; refine (awake_any _).mono ?_; rintro e Wz ⟨rfl, hb⟩; have HBz := Aside0.mk (bl_next HEa.out.bel hb); clear hb)
        go_ret
        exact ⟨rfl, HBz.out⟩
  · have dl : decide ((rd_T47 l i).f2.f0 < lo) = false := decide_eq_false ql
    by_cases qh : hi2 < (rd_T47 l i).f2.f1
    · have dh : decide (hi2 < (rd_T47 l i).f2.f1) = true := decide_eq_true qh
      have NOHI : Aside0 (∀ (W : World), EndsAt w W w.heap.size IB (IB + 1) pl (some aL) c l i K (.slice (some aK) K.length ck) → Calls Try.prog 24 #[.int .i64 (hi2 + 1), .pointer (some ⟨w.heap.size, 0, none⟩), .pointer (some ⟨IB, 0, none⟩)] W fun e w' => e = .returned (.tuple #[.int .i64 6, .bool false]) ∧ Below W.heap.size W w') := ⟨fun W h => no_call pl l HPl.out i hi (hi2 + 1) (by omega) (by omega) (.inr (by rw [← HHI.out]; omega)) w W _ IB (IB + 1) (some aL) c K _ hc h⟩
      clear ql qh
      as_aux_lemma =>
        go_wp2_with (fail)
        go_big_region
        have HE8 := Aside0.mk (ends_drew HE7.out)
        clear k2 k3 si so0 so1
        generalize W7.drew = W8 at HE8 ⊢
        obtain ⟨k2, k3, si, so0, so1⟩ := HAT.out W8 HE8.out
        go_wp2_with (fail)
        go_big_region
        have HEa := Aside0.mk (ends_drew HE8.out)
        clear k2 k3 si so0 so1
        generalize W8.drew = Wa at HEa ⊢
        obtain ⟨k2, k3, si, so0, so1⟩ := HAT.out Wa HEa.out
        go_wp2_with (first | (go_at_call 24; refine (NOHI.out _ HEa.out).mono ?_; rintro e Wb ⟨rfl, hb⟩; have HEb := Aside0.mk (ends_below HEa.out hb); clear hb k2 k3 si so0 so1; obtain ⟨k2, k3, si, so0, so1⟩ := HAT.out Wb HEb.out) | (go_at_call 10; refine (awake_any _).mono ?_; rintro e Wz ⟨rfl, hb⟩; have HBz := Aside0.mk (bl_next HEb.out.bel hb); clear hb))
        go_ret
        exact ⟨rfl, HBz.out⟩
    · have dh : decide (hi2 < (rd_T47 l i).f2.f1) = false := decide_eq_false qh
      clear ql qh
      as_aux_lemma =>
        go_wp2_with (fail)
        go_big_region
        have HE8 := Aside0.mk (ends_drew HE7.out)
        clear k2 k3 si so0 so1
        generalize W7.drew = W8 at HE8 ⊢
        obtain ⟨k2, k3, si, so0, so1⟩ := HAT.out W8 HE8.out
        go_wp2_with (fail)
        go_big_region
        have HEa := Aside0.mk (ends_drew HE8.out)
        clear k2 k3 si so0 so1
        generalize W8.drew = Wa at HEa ⊢
        obtain ⟨k2, k3, si, so0, so1⟩ := HAT.out Wa HEa.out
        go_wp2_with (go_at_call 10; refine (awake_any _).mono ?_; rintro e Wz ⟨rfl, hb⟩; have HBz := Aside0.mk (bl_next HEa.out.bel hb); clear hb)
        go_ret
        exact ⟨rfl, HBz.out⟩

theorem BalanceEnds_walk (pl : Int) (A : Option Addr) (c : Nat) (l : List S47) (a1 : Int) (w : World) (hr : Kd.C k47 w A l.length l) (hc : l.length ≤ c) (hw : (Lit.int .u8 a1).wf = true) :
    Calls Try.prog 6 #[.agg #[.int .i64 pl, .slice A l.length c], .int .u8 a1] w fun e w' => e = .returned (.bool true) ∧ Below w.heap.size w w' := by
  have ha : 0 ≤ a1 ∧ a1 ≤ 255 := by
    simp only [Lit.wf, Bool.and_eq_true, decide_eq_true_eq] at hw
    have h1 : IntKind.min .u8 = 0 := by decide
    have h2 : IntKind.max .u8 = 255 := by decide
    rw [h1, h2] at hw
    exact hw
  by_cases h20 : 20 < l.length
  · exact ends_early pl A c l a1 w hr hc (.inl h20)
  by_cases he : errS pl l ≠ 0 ∨ l.length = 0
  · exact ends_early pl A c l a1 w hr hc (.inr ⟨by omega, he⟩)
  · have he0 : errS pl l = 0 := by
      by_cases h : errS pl l = 0
      · exact h
      · exact absurd (.inl h) he
    have hl : 0 < l.length := by
      by_cases h : l.length = 0
      · exact absurd (.inr h) he
      · omega
    have hp : isPlantB pl l = true := by
      by_cases h : isPlantB pl l = true
      · exact h
      · unfold errS at he0
        rw [if_neg h] at he0
        cases he0
    rcases err_two pl l hp with ⟨_, hcut⟩ | ⟨h6, _⟩
    · exact ends_main pl A c l a1 w hr hc hp hcut hl ha
    · rw [h6] at he0
      cases he0
end Go.Proofs.Ytalgbihpidpblaa.Print
