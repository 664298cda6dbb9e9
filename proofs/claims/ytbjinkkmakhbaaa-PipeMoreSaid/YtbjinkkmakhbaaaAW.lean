/- The document's example: awake is true. -/
import Derived.Test.YtbjinkkmakhbaaaRU
namespace Go.Proofs.Ytbjinkkmakhbaaa.Print
open Go.RowKit Go.Shelf Go.Proofs.YtbjinkkmakhbaaaW.PrintWords Go.Proofs.YtbjinkkmakhbaaaW.PrintLast Go.Proofs.YtbjinkkmakhbaaaW.PrintMore
set_option linter.unusedVariables false
set_option linter.unusedSimpArgs false
attribute [local go_sem] Oper.semAt_some
def jsS (m : Int) : List S50 := [⟨⟨0, 0⟩, 0, 200, -1⟩, ⟨⟨2, 5⟩, 60, 110, -1⟩, ⟨⟨1, 4⟩, m, 110, -1⟩, ⟨⟨3, 3⟩, 0, 40, 30⟩]
def msS : List S54 := [⟨0, 2, 0, 10⟩, ⟨1, 4, 0, 7⟩, ⟨0, 5, 2, 3⟩]
theorem fed_sample : fedS 100 110 (jsS 50) msS 3 = (1, 0) := by kernel_rfl
theorem press_sample : pressS 100 110 (jsS 50) msS 2 = (66, 100, 0) := by kernel_rfl
theorem fault_sample : faultT 100 110 (jsS 50) msS = (0, false, 4) := by kernel_rfl
theorem fault_sample2 : faultT 100 110 (jsS 80) msS = (2, true, 0) := by kernel_rfl
theorem lay_sample : layS 100 110 (jsS 80) msS = ([0, 1], 17, 0) := by kernel_rfl
theorem must_sample : mustR 100 110 (jsS 80) msS = ([0, 1], 0) := by kernel_rfl
theorem ints_sample : gasworksref06_Ints.f 10 [0, 1] [0, 1] = some true := by kernel_rfl
theorem C_ints {W : World} {G : Nat} {l : List Int} (h : W.heap[G]? = some (.cells (l.map (Value.int .i64)).toArray 3 (0, 0))) (hl : l.length ≤ 9223372036854775807) : Kd.C (Kd.int .i64) W (some ⟨G, 0, none⟩) l.length l := by
  refine ⟨rfl, hl, fun hpos => ⟨_, rfl, fun j p hj => ⟨[.int .i64 p], rfl, rfl, fun i u hu => ?_⟩⟩⟩
  have hj2 : j < l.length := (List.getElem?_eq_some_iff.1 hj).1
  have hi : i < 1 := by
    have := (List.getElem?_eq_some_iff.1 hu).1
    simpa using this
  obtain rfl : i = 0 := by omega
  have ha : (⟨G, 0, none⟩ : Addr).add (j * (Kd.int .i64).sz + 0) = ⟨G, j, none⟩ := by
    show (⟨G, 0, none⟩ : Addr).add (j * 1 + 0) = _
    rw [Nat.mul_one, Nat.add_zero]
    simp [Addr.add]
    omega
  rw [ha]
  refine cell_two h j ?_
  rw [List.getElem?_toArray, List.getElem?_map, hj]
  exact hu
/-- The example's network in its box. -/
structure AwAt (w W : World) (G g c : Nat) (A' : Option Addr) (c' : Nat) (m : Int) : Prop where
  net : W.heap[G]? = some (.cells #[.int .i64 100, .int .i64 110, .slice (some ⟨g, 0, none⟩) 4 c, .slice A' 3 c'] 27 (0, 0))
  jr : Kd.R k50 50 W w.heap.size (fun _ => True) (.slice (some ⟨g, 0, none⟩) 4 c) (jsS m)
  mr : Kd.R k54 54 W w.heap.size (fun _ => True) (.slice A' 3 c') msS
  bel : Below w.heap.size w W
theorem AwAt.next {w W W' : World} {G g c : Nat} {A' : Option Addr} {c' : Nat} {m : Int} (h : AwAt w W G g c A' c' m) (hb : Below W.heap.size W W') : AwAt w W' G g c A' c' m := ⟨blk_below h.net hb, Kd.R_below h.jr hb, Kd.R_below h.mr hb, bl_next' h.bel hb⟩
theorem AwAt.js {w W : World} {G g c : Nat} {A' : Option Addr} {c' : Nat} {m : Int} (h : AwAt w W G g c A' c' m) : 4 ≤ c ∧ Kd.C k50 W (some ⟨g, 0, none⟩) (jsS m).length (jsS m) := by
  obtain ⟨_, h2, h3⟩ := Kd.R_reads' h.jr
  exact ⟨h2, h3⟩
theorem AwAt.ms {w W : World} {G g c : Nat} {A' : Option Addr} {c' : Nat} {m : Int} (h : AwAt w W G g c A' c' m) : 3 ≤ c' ∧ Kd.C k54 W A' msS.length msS := by
  obtain ⟨_, h2, h3⟩ := Kd.R_reads' h.mr
  exact ⟨h2, h3⟩
theorem R50_blk {W : World} {base g n c : Nat} {ok : Nat → Prop} {xs : List S50} (h : Kd.R k50 50 W base ok (.slice (some ⟨g, 0, none⟩) n c) xs) : ∃ cs, W.heap[g]? = some (.cells cs 50 (0, 0)) := by
  obtain ⟨_, _, _, q, hq, cs, hc⟩ := (Kd.R_bound h).1 g rfl
  have e : q = 50 := by
    have : q ∈ [50] := hq
    simpa using this
  subst e
  exact ⟨cs, hc⟩
/-- The store of the example: the least pressure of junction 2. -/
theorem AwAt.put {w W : World} {G g c : Nat} {A' : Option Addr} {c' : Nat} {m : Int} (h : AwAt w W G g c A' c' m) (x : Int) : AwAt w (W.setCell ⟨g, 12, none⟩ (.int .i64 x)) G g c A' c' x := by
  obtain ⟨cs, hc⟩ := R50_blk h.jr
  have hgG : g ≠ G := by
    intro e
    have := Kd.R_ne h.jr h.net (by decide)
    rw [← e] at this
    exact this rfl
  obtain ⟨cc, hcl, hM, hcell, _⟩ := Kd.R_elem h.jr z50 2 (by decide) (by decide)
  obtain rfl := k50_openM hM
  have hs := Kd.R_seg h.jr 2 (by decide) (by decide) hcl hcell (seg := [.int .i64 x]) (j := 2) (x' := ⟨⟨1, 4⟩, x, 110, -1⟩) (okp := fun _ => False) (by show 2 + 1 ≤ 5; decide) (k50_mkM _ _ _ ⟨⟨1, 4⟩, x, 110, -1⟩) (fun _ hk => hk.elim)
  have hgb : w.heap.size ≤ g := ((Kd.R_bound h.jr).1 g rfl).2.1
  exact ⟨blk_set_ne h.net hgG 12 _, hs.1, Kd.R_set h.mr hc (by decide) 12 _, h.bel.setCell hgb _⟩
theorem AwAt.cell {w W : World} {G g c : Nat} {A' : Option Addr} {c' : Nat} {m : Int} (h : AwAt w W G g c A' c' m) : W.cell? ⟨g, 12, none⟩ = some (.int .i64 m) ∧ W.frozen? ⟨g, 12, none⟩ = false := by
  obtain ⟨cc, hcl, hM, hcell, hf⟩ := Kd.R_elem h.jr z50 2 (by decide) (by decide)
  obtain rfl := k50_openM hM
  exact ⟨hcell 2 _ rfl, hf 2⟩
set_option maxHeartbeats 8000000 in
set_option maxRecDepth 100000 in
theorem awake_any (w : World) : Calls Try.prog 11 #[] w fun e w' => e = .returned (.bool true) ∧ Below w.heap.size w w' := by
  have HS := Aside0.mk (gasworkslaw06_sample.calls 100 110 (jsS 50) msS w rfl)
  have HFd : Aside0 (∀ W G g c A' c', AwAt w W G g c A' c' 50 → Calls Try.prog 12 #[.agg #[.int .i64 100, .int .i64 110, .slice (some ⟨g, 0, none⟩) 4 c, .slice A' 3 c'], .int .i64 3] W fun e w' => e = .returned (.tuple #[.int .i64 1, .int .i64 0]) ∧ Below W.heap.size W w') := ⟨fun W G g c A' c' h => by have := Fed_any 100 110 _ c (jsS 50) A' c' msS 3 W h.js.2 h.js.1 h.ms.2 h.ms.1; rw [fed_sample] at this; exact this⟩
  have HPr : Aside0 (∀ W G g c A' c', AwAt w W G g c A' c' 50 → Calls Try.prog 14 #[.agg #[.int .i64 100, .int .i64 110, .slice (some ⟨g, 0, none⟩) 4 c, .slice A' 3 c'], .int .i64 2] W fun e w' => e = .returned (.tuple #[.agg #[.int .i64 66, .int .i64 100], .int .i64 0]) ∧ Below W.heap.size W w') := ⟨fun W G g c A' c' h => by have := Press_any 100 110 _ c (jsS 50) A' c' msS 2 W h.js.2 h.js.1 h.ms.2 h.ms.1; rw [press_sample] at this; exact this⟩
  have HFa : Aside0 (∀ W G g c A' c', AwAt w W G g c A' c' 50 → Calls Try.prog 16 #[.agg #[.int .i64 100, .int .i64 110, .slice (some ⟨g, 0, none⟩) 4 c, .slice A' 3 c']] W fun e w' => e = .returned (.tuple #[.int .i64 0, .bool false, .int .i64 4]) ∧ Below W.heap.size W w') := ⟨fun W G g c A' c' h => by have := Fault_any 100 110 _ c (jsS 50) A' c' msS W h.js.2 h.js.1 h.ms.2 h.ms.1; rw [fault_sample] at this; exact this⟩
  have HFb : Aside0 (∀ W G g c A' c', AwAt w W G g c A' c' 80 → Calls Try.prog 16 #[.agg #[.int .i64 100, .int .i64 110, .slice (some ⟨g, 0, none⟩) 4 c, .slice A' 3 c']] W fun e w' => e = .returned (.tuple #[.int .i64 2, .bool true, .int .i64 0]) ∧ Below W.heap.size W w') := ⟨fun W G g c A' c' h => by have := Fault_any 100 110 _ c (jsS 80) A' c' msS W h.js.2 h.js.1 h.ms.2 h.ms.1; rw [fault_sample2] at this; exact this⟩
  have HLa : Aside0 (∀ W G g c A' c', AwAt w W G g c A' c' 80 → Calls Try.prog 18 #[.agg #[.int .i64 100, .int .i64 110, .slice (some ⟨g, 0, none⟩) 4 c, .slice A' 3 c']] W fun e w' => ∃ v : Value, e = .returned (.tuple #[v, .int .i64 17, .int .i64 0]) ∧ Kd.R (Kd.int .i64) 3 w' W.heap.size (fun _ => True) v [0, 1] ∧ Below W.heap.size W w') := ⟨fun W G g c A' c' h => by have := Lay_any 100 110 _ c (jsS 80) A' c' msS W h.js.2 h.js.1 h.ms.2 h.ms.1; rw [lay_sample] at this; exact this⟩
  have HMu : Aside0 (∀ W G g c A' c', AwAt w W G g c A' c' 80 → Calls Try.prog 20 #[.agg #[.int .i64 100, .int .i64 110, .slice (some ⟨g, 0, none⟩) 4 c, .slice A' 3 c']] W fun e w' => ∃ v : Value, e = .returned (.tuple #[v, .int .i64 0]) ∧ Kd.R (Kd.int .i64) 3 w' W.heap.size (fun _ => True) v [0, 1] ∧ Below W.heap.size W w') := ⟨fun W G g c A' c' h => by have := Must_any 100 110 _ c (jsS 80) A' c' msS W h.js.2 h.js.1 h.ms.2 h.ms.1; rw [must_sample] at this; exact this⟩
  have heq : ∀ W, (Op.equalIn 10000 23 (.agg #[.int .i64 66, .int .i64 100]) (.agg #[.int .i64 66, .int .i64 100])).run Try.prog W = .ok true W := fun W => by kernel_rfl
  go_enter Try.func11, Try.ntmps11
  go_upto_region 9 with (first
    | (go_at_call 32; refine HS.out.mono ?_; rintro e W1 ⟨v2, v3, rfl, h2, h3, hb⟩; obtain ⟨A, c, e2, hc2, hC2⟩ := Kd.R_reads h2; have e2' : v2 = .slice A 4 c := e2; subst e2'; obtain ⟨A', c', e3, hc3, hC3⟩ := Kd.R_reads h3; have e3' : v3 = .slice A' 3 c' := e3; subst e3'; clear e2 e3; obtain ⟨ad, ea, _⟩ := at_T50 hC2 0 (by decide) (by decide); subst ea; obtain ⟨g, rfl⟩ := Kd.R_head h2; have H1 : Aside0 (AwAt w (W1.alloc (.cells #[.int .i64 100, .int .i64 110, .slice (some ⟨g, 0, none⟩) 4 c, .slice A' 3 c'] 27)) W1.heap.size g c A' c' 50) := ⟨⟨blk_new W1 _, Kd.R_alloc h2 _, Kd.R_alloc h3 _, below_alloc hb _⟩⟩; clear h2 h3 hb hc2 hC2 hc3 hC3)
    | (go_at_call 12; with_reducible refine (HFd.out _ _ _ _ _ _ H1.out).mono ?_; rintro e W2 ⟨rfl, hb⟩; have H2 := Aside0.mk (H1.out.next hb); clear hb; have s0 := cell_two H2.out.net 0 rfl; have s1 := cell_two H2.out.net 1 rfl; have s2 := cell_two H2.out.net 2 rfl; have s3 := cell_two H2.out.net 3 rfl)
    | (go_at_call 14; with_reducible refine (HPr.out _ _ _ _ _ _ H2.out).mono ?_; rintro e W3 ⟨rfl, hb⟩; have H3 := Aside0.mk ((H2.out.next hb).next (below_alloc (Below.refl _ _) (.cells #[.int .i64 66, .int .i64 100] 23))); have Q3 := Aside0.mk (blk_new W3 (.cells #[.int .i64 66, .int .i64 100] 23)); clear hb s0 s1 s2 s3; have s0 := cell_two H3.out.net 0 rfl; have s1 := cell_two H3.out.net 1 rfl; have s2 := cell_two H3.out.net 2 rfl; have s3 := cell_two H3.out.net 3 rfl)
    | (go_at_call 16; with_reducible refine (HFa.out _ _ _ _ _ _ H3.out).mono ?_; rintro e W4 ⟨rfl, hb⟩; have H4 := Aside0.mk (H3.out.next hb); have Q4 := Aside0.mk (blk_below Q3.out hb); have H5 := Aside0.mk (H4.out.put 80); have Q5 : Aside0 ((W4.setCell ⟨g, 12, none⟩ (.int .i64 80)).heap[W3.heap.size]? = some (.cells #[.int .i64 66, .int .i64 100] 23 (0, 0))) := ⟨by obtain ⟨cs, hcs⟩ := R50_blk H4.out.jr; exact blk_set_ne Q4.out (blk_ne hcs Q4.out (by decide)) 12 _⟩; have tcell := H4.out.cell.1; have tfro := H4.out.cell.2; clear hb s0 s1 s2 s3; have r2 := cell_two H4.out.net 2 rfl; have s0 := cell_two H5.out.net 0 rfl; have s1 := cell_two H5.out.net 1 rfl; have s2 := cell_two H5.out.net 2 rfl; have s3 := cell_two H5.out.net 3 rfl)
    | (go_at_call 16; with_reducible refine (HFb.out _ _ _ _ _ _ H5.out).mono ?_; rintro e W6 ⟨rfl, hb⟩; have H6 := Aside0.mk (H5.out.next hb); have Q6 := Aside0.mk (blk_below Q5.out hb); clear hb s0 s1 s2 s3 tcell tfro r2; have s0 := cell_two H6.out.net 0 rfl; have s1 := cell_two H6.out.net 1 rfl; have s2 := cell_two H6.out.net 2 rfl; have s3 := cell_two H6.out.net 3 rfl)
    | (go_at_call 18; (with_reducible refine (HLa.out _ _ _ _ _ _ H6.out).mono ?_); rintro e W7 ⟨v, rfl, ho, hb⟩; obtain ⟨Al, cl, ev, hcl, hCl⟩ := Kd.R_reads ho; have ev' : v = .slice Al 2 cl := ev; subst ev'; clear ev; have HL7 := Aside0.mk hCl; have Hl7 := Aside0.mk hcl; have H7 := Aside0.mk (H6.out.next hb); have Q7 := Aside0.mk (blk_below Q6.out hb); clear hb ho hcl hCl s0 s1 s2 s3; have s0 := cell_two H7.out.net 0 rfl; have s1 := cell_two H7.out.net 1 rfl; have s2 := cell_two H7.out.net 2 rfl; have s3 := cell_two H7.out.net 3 rfl)
    | (go_at_call 20; (with_reducible refine (HMu.out _ _ _ _ _ _ H7.out).mono ?_); rintro e W8 ⟨v, rfl, ho, hb⟩; obtain ⟨Am, cm, ev, hcm, hCm⟩ := Kd.R_reads ho; have ev' : v = .slice Am 2 cm := ev; subst ev'; clear ev; have HM8 := Aside0.mk hCm; have Hm8 := Aside0.mk hcm; have HL8 := Aside0.mk (Kd.C_below HL7.out hb); have B8 := Aside0.mk (H7.out.next hb).bel; have Q8 := Aside0.mk (blk_below Q7.out hb); clear hb ho hcm hCm s0 s1 s2 s3))
  refine start_ (n := 53) (S := fun w' => w'.cell? ⟨W3.heap.size, 0, none⟩ = some (.int .i64 66) ∧ w'.cell? ⟨W3.heap.size, 1, none⟩ = some (.int .i64 100)) (ds := []) (bs_ 53 0) (by kernel_rfl) rfl rfl (⟨cell_two (blk_drew Q8.out) 0 rfl, cell_two (blk_drew Q8.out) 1 rfl⟩) (fun hHeld => ?_)
  have B9 := Aside0.mk (Below.drew B8.out)
  have Q9 := Aside0.mk (blk_drew Q8.out)
  have HL9 := Aside0.mk (Kd.C_drew HL8.out)
  have HM9 := Aside0.mk (Kd.C_drew HM8.out)
  generalize W8.drew = W9 at B9 Q9 HL9 HM9 hHeld ⊢
  refine pure_ (i := 0) (N := some 55) (v := ?_) (a' := ?_) (bs_ 53 1) rfl rfl (by kernel_rfl) (fun _ _ _ h => h) (Or.inl ⟨by rfl, ?_⟩) ?_ ?_; rotate_left; (· intro w'; go_simp; with_reducible rfl); rotate_left; (· simp only [Act.put, N1_]; rfl)
  refine pure_ (i := 1) (N := some 56) (v := ?_) (a' := ?_) (bs_ 53 3) rfl rfl (by kernel_rfl) (fun _ _ _ h => h) (Or.inl ⟨by rfl, ?_⟩) ?_ ?_; rotate_left; (· intro w'; go_simp; with_reducible rfl); rotate_left; (· simp only [Act.put, N1_]; rfl)
  refine pure_ (i := 2) (N := some 57) (v := ?_) (a' := ?_) (bs_ 53 7) rfl rfl (by kernel_rfl) (fun _ _ _ h => h) (Or.inl ⟨by rfl, ?_⟩) ?_ ?_; rotate_left; (· intro w'; go_simp; with_reducible rfl); rotate_left; (· simp only [Act.put, N1_]; rfl)
  refine pure_ (i := 3) (N := some 58) (v := ?_) (a' := ?_) (bs_ 53 15) rfl rfl (by kernel_rfl) (fun _ _ _ h => h) (Or.inl ⟨by rfl, ?_⟩) ?_ ?_; rotate_left; (· intro w'; go_simp; with_reducible rfl); rotate_left; (· simp only [Act.put, N1_]; rfl)
  refine pure_ (i := 4) (N := some 59) (v := ?_) (a' := ?_) (bs_ 53 31) rfl rfl (by kernel_rfl) (fun _ _ _ h => h) (Or.inl ⟨by rfl, ?_⟩) ?_ ?_; rotate_left; (· intro w'; go_simp; with_reducible rfl); rotate_left; (· simp only [Act.put, N1_]; rfl)
  refine pure_ (i := 5) (N := some 60) (v := ?_) (a' := ?_) (bs_ 53 63) rfl rfl (by kernel_rfl) (fun _ _ _ h => h) (Or.inl ⟨by rfl, ?_⟩) ?_ ?_; rotate_left; (· intro w'; go_simp; with_reducible rfl); rotate_left; (· simp only [Act.put, N1_]; rfl)
  refine pure_ (i := 6) (N := some 61) (v := ?_) (a' := ?_) (bs_ 53 127) rfl rfl (by kernel_rfl) (fun _ _ _ h => h) (Or.inl ⟨by rfl, ?_⟩) ?_ ?_; rotate_left; (· intro w'; go_simp; with_reducible rfl); rotate_left; (· simp only [Act.put, N1_]; rfl)
  refine take_ (i := 7) (N := some 62) (v := ?_) (a' := ?_) (bs_ 53 255) rfl rfl (by kernel_rfl) (fun _ _ _ h => h) (Or.inl ⟨by rfl, ?_⟩) hHeld ?_ ?_; rotate_left; (· rintro w' ⟨s0, s1⟩; go_simp; with_reducible rfl); rotate_left; (· simp only [Act.put, N1_]; rfl)
  refine one_ (i := 8) (N := some 63) (bs_ 53 511) rfl rfl (by kernel_rfl) (by decide) (fun K hK => ?_)
  refine goes_ Try.func27 (by kernel_rfl) rfl #[.int .i64 66, .int .i64 100] (by rfl) rfl rfl (by (try simp only [LM_]); try rfl) ?_
  refine (gasworkslaw06_span.calls 66 100 66 100 _ rfl).mono ?_
  rintro e W10 ⟨rfl, hb⟩
  refine ⟨_, rfl, ?_⟩
  have B10 := Aside0.mk (bl_next' B9.out hb)
  have Q10 := Aside0.mk (blk_below Q9.out hb)
  have HL10 := Aside0.mk (Kd.C_below HL9.out hb)
  have HM10 := Aside0.mk (Kd.C_below HM9.out hb)
  clear hb hHeld
  refine hK.out _ _ ⟨cell_two Q10.out 0 rfl, cell_two Q10.out 1 rfl⟩ (fun hHeld => ?_)
  clear hK K
  refine norm_ (a' := ?_) ?_ ?_; rotate_left; (· show Act.put _ (some 63) _ = _; simp only [Act.put, N1_]; rfl)
  refine pure_ (i := 9) (N := some 64) (v := ?_) (a' := ?_) (bs_ 53 1023) rfl rfl (by kernel_rfl) (fun _ _ _ h => h) (Or.inl ⟨by rfl, ?_⟩) ?_ ?_; rotate_left; (· intro w'; go_simp; with_reducible rfl); rotate_left; (· simp only [Act.put, N1_]; rfl)
  refine pure_ (i := 10) (N := some 65) (v := ?_) (a' := ?_) (bs_ 53 2047) rfl rfl (by kernel_rfl) (fun _ _ _ h => h) (Or.inl ⟨by rfl, ?_⟩) ?_ ?_; rotate_left; (· intro w'; go_simp; with_reducible rfl); rotate_left; (· simp only [Act.put, N1_]; rfl)
  refine pure_ (i := 11) (N := some 66) (v := ?_) (a' := ?_) (bs_ 53 4095) rfl rfl (by kernel_rfl) (fun _ _ _ h => h) (Or.inl ⟨by rfl, ?_⟩) ?_ ?_; rotate_left; (· intro w'; go_simp; with_reducible rfl); rotate_left; (· simp only [Act.put, N1_]; rfl)
  refine pure_ (i := 12) (N := some 67) (v := ?_) (a' := ?_) (bs_ 53 8191) rfl rfl (by kernel_rfl) (fun _ _ _ h => h) (Or.inl ⟨by rfl, ?_⟩) ?_ ?_; rotate_left; (· intro w'; go_simp; with_reducible rfl); rotate_left; (· simp only [Act.put, N1_]; rfl)
  refine pure_ (i := 13) (N := some 68) (v := ?_) (a' := ?_) (bs_ 53 16383) rfl rfl (by kernel_rfl) (fun _ _ _ h => h) (Or.inl ⟨by rfl, ?_⟩) ?_ ?_; rotate_left; (· intro w'; go_simp; with_reducible rfl); rotate_left; (· simp only [Act.put, N1_]; rfl)
  refine pure_ (i := 14) (N := some 69) (v := ?_) (a' := ?_) (bs_ 53 32767) rfl rfl (by kernel_rfl) (fun _ _ _ h => h) (Or.inl ⟨by rfl, ?_⟩) ?_ ?_; rotate_left; (· intro w'; go_simp; with_reducible rfl); rotate_left; (· simp only [Act.put, N1_]; rfl)
  refine pure_ (i := 15) (N := some 70) (v := ?_) (a' := ?_) (bs_ 53 65535) rfl rfl (by kernel_rfl) (fun _ _ _ h => h) (Or.inl ⟨by rfl, ?_⟩) ?_ ?_; rotate_left; (· intro w'; go_simp; with_reducible rfl); rotate_left; (· simp only [Act.put, N1_]; rfl)
  refine pure_ (i := 16) (N := some 71) (v := ?_) (a' := ?_) (bs_ 53 131071) rfl rfl (by kernel_rfl) (fun _ _ _ h => h) (Or.inl ⟨by rfl, ?_⟩) ?_ ?_; rotate_left; (· intro w'; go_simp; with_reducible rfl); rotate_left; (· simp only [Act.put, N1_]; rfl)
  refine pure_ (i := 17) (N := some 72) (v := ?_) (a' := ?_) (bs_ 53 262143) rfl rfl (by kernel_rfl) (fun _ _ _ h => h) (Or.inl ⟨by rfl, ?_⟩) ?_ ?_; rotate_left; (· intro w'; go_simp; with_reducible rfl); rotate_left; (· simp only [Act.put, N1_]; rfl)
  refine pure_ (i := 18) (N := some 73) (v := ?_) (a' := ?_) (bs_ 53 524287) rfl rfl (by kernel_rfl) (fun _ _ _ h => h) (Or.inl ⟨by rfl, ?_⟩) ?_ ?_; rotate_left; (· intro w'; go_simp; with_reducible rfl); rotate_left; (· simp only [Act.put, N1_]; rfl)
  refine pure_ (i := 19) (N := some 74) (v := ?_) (a' := ?_) (bs_ 53 1048575) rfl rfl (by kernel_rfl) (fun _ _ _ h => h) (Or.inl ⟨by rfl, ?_⟩) ?_ ?_; rotate_left; (· intro w'; go_simp; with_reducible rfl); rotate_left; (· simp only [Act.put, N1_]; rfl)
  refine pure_ (i := 20) (N := some 75) (v := ?_) (a' := ?_) (bs_ 53 2097151) rfl rfl (by kernel_rfl) (fun _ _ _ h => h) (Or.inl ⟨by rfl, ?_⟩) ?_ ?_; rotate_left; (· intro w'; go_simp; with_reducible rfl); rotate_left; (· simp only [Act.put, N1_]; rfl)
  refine pure_ (i := 21) (N := some 76) (v := ?_) (a' := ?_) (bs_ 53 4194303) rfl rfl (by kernel_rfl) (fun _ _ _ h => h) (Or.inl ⟨by rfl, ?_⟩) ?_ ?_; rotate_left; (· intro w'; go_simp; with_reducible rfl); rotate_left; (· simp only [Act.put, N1_]; rfl)
  refine pure_ (i := 22) (N := some 77) (v := ?_) (a' := ?_) (bs_ 53 8388607) rfl rfl (by kernel_rfl) (fun _ _ _ h => h) (Or.inl ⟨by rfl, ?_⟩) ?_ ?_; rotate_left; (· intro w'; go_simp; with_reducible rfl); rotate_left; (· simp only [Act.put, N1_]; rfl)
  refine pure_ (i := 23) (N := some 78) (v := ?_) (a' := ?_) (bs_ 53 16777215) rfl rfl (by kernel_rfl) (fun _ _ _ h => h) (Or.inl ⟨by rfl, ?_⟩) ?_ ?_; rotate_left; (· intro w'; go_simp; with_reducible rfl); rotate_left; (· simp only [Act.put, N1_]; rfl)
  refine pure_ (i := 24) (N := some 79) (v := ?_) (a' := ?_) (bs_ 53 33554431) rfl rfl (by kernel_rfl) (fun _ _ _ h => h) (Or.inl ⟨by rfl, ?_⟩) ?_ ?_; rotate_left; (· intro w'; go_simp; with_reducible rfl); rotate_left; (· simp only [Act.put, N1_]; rfl)
  refine pure_ (i := 25) (N := some 80) (v := ?_) (a' := ?_) (bs_ 53 67108863) rfl rfl (by kernel_rfl) (fun _ _ _ h => h) (Or.inl ⟨by rfl, ?_⟩) ?_ ?_; rotate_left; (· intro w'; go_simp; with_reducible rfl); rotate_left; (· simp only [Act.put, N1_]; rfl)
  refine pure_ (i := 26) (N := some 81) (v := ?_) (a' := ?_) (bs_ 53 134217727) rfl rfl (by kernel_rfl) (fun _ _ _ h => h) (Or.inl ⟨by rfl, ?_⟩) ?_ ?_; rotate_left; (· intro w'; go_simp; with_reducible rfl); rotate_left; (· simp only [Act.put, N1_]; rfl)
  refine pure_ (i := 27) (N := some 82) (v := ?_) (a' := ?_) (bs_ 53 268435455) rfl rfl (by kernel_rfl) (fun _ _ _ h => h) (Or.inl ⟨by rfl, ?_⟩) ?_ ?_; rotate_left; (· intro w'; go_simp; with_reducible rfl); rotate_left; (· simp only [Act.put, N1_]; rfl)
  refine pure_ (i := 28) (N := some 83) (v := ?_) (a' := ?_) (bs_ 53 536870911) rfl rfl (by kernel_rfl) (fun _ _ _ h => h) (Or.inl ⟨by rfl, ?_⟩) ?_ ?_; rotate_left; (· intro w'; go_simp; with_reducible rfl); rotate_left; (· simp only [Act.put, N1_]; rfl)
  refine pure_ (i := 29) (N := some 84) (v := ?_) (a' := ?_) (bs_ 53 1073741823) rfl rfl (by kernel_rfl) (fun _ _ _ h => h) (Or.inl ⟨by rfl, ?_⟩) ?_ ?_; rotate_left; (· intro w'; go_simp; with_reducible rfl); rotate_left; (· simp only [Act.put, N1_]; rfl)
  refine pure_ (i := 30) (N := some 85) (v := ?_) (a' := ?_) (bs_ 53 2147483647) rfl rfl (by kernel_rfl) (fun _ _ _ h => h) (Or.inl ⟨by rfl, ?_⟩) ?_ ?_; rotate_left; (· intro w'; go_simp; with_reducible rfl); rotate_left; (· simp only [Act.put, N1_]; rfl)
  refine pure_ (i := 31) (N := some 86) (v := ?_) (a' := ?_) (bs_ 53 4294967295) rfl rfl (by kernel_rfl) (fun _ _ _ h => h) (Or.inl ⟨by rfl, ?_⟩) ?_ ?_; rotate_left; (· intro w'; go_simp; with_reducible rfl); rotate_left; (· simp only [Act.put, N1_]; rfl)
  refine one_ (i := 32) (N := some 87) (bs_ 53 8589934591) rfl rfl (by kernel_rfl) (by decide) (fun K hK => ?_)
  go_simp
  have B11 := Aside0.mk (below_alloc B10.out (.cells #[.int .i64 0, .int .i64 1] 3))
  have Q11 := Aside0.mk (blk_alloc Q10.out (.cells #[.int .i64 0, .int .i64 1] 3))
  have HL11 := Aside0.mk (Kd.C_alloc HL10.out (.cells #[.int .i64 0, .int .i64 1] 3))
  have HM11 := Aside0.mk (Kd.C_alloc HM10.out (.cells #[.int .i64 0, .int .i64 1] 3))
  have HI11 : Aside0 (Kd.C (Kd.int .i64) (W10.alloc (.cells #[.int .i64 0, .int .i64 1] 3)) (some ⟨W10.heap.size, 0, none⟩) [(0 : Int), 1].length [0, 1]) := ⟨C_ints (l := [0, 1]) (blk_new W10 _) (by decide)⟩
  clear hHeld
  refine hK.out _ _ ⟨cell_two Q11.out 0 rfl, cell_two Q11.out 1 rfl⟩ (fun hHeld => ?_)
  clear hK K
  refine one_ (i := 33) (N := some 88) (bs_ 53 17179869183) rfl rfl (by kernel_rfl) (by decide) (fun K hK => ?_)
  refine goes_ Try.func22 (by kernel_rfl) rfl #[.slice Al 2 cl, .slice (some ⟨W10.heap.size, 0, none⟩) 2 2] (by rfl) rfl rfl (by (try simp only [LM_]); try rfl) ?_
  refine (gasworksref06_Ints.calls 10 _ _ [0, 1] _ _ [0, 1] true _ HL11.out Hl7.out HI11.out (by decide) ints_sample).mono ?_
  rintro e W12 ⟨rfl, hd⟩
  refine ⟨_, rfl, ?_⟩
  have hb := hd.below
  have B12 := Aside0.mk (bl_next' B11.out hb)
  have Q12 := Aside0.mk (blk_below Q11.out hb)
  have HL12 := Aside0.mk (Kd.C_below HL11.out hb)
  have HM12 := Aside0.mk (Kd.C_below HM11.out hb)
  clear hd hb hHeld HI11
  refine hK.out _ _ ⟨cell_two Q12.out 0 rfl, cell_two Q12.out 1 rfl⟩ (fun hHeld => ?_)
  clear hK K
  refine norm_ (a' := ?_) ?_ ?_; rotate_left; (· show Act.put _ (some 88) _ = _; simp only [Act.put, N1_]; rfl)
  refine pure_ (i := 34) (N := some 89) (v := ?_) (a' := ?_) (bs_ 53 34359738367) rfl rfl (by kernel_rfl) (fun _ _ _ h => h) (Or.inl ⟨by rfl, ?_⟩) ?_ ?_; rotate_left; (· intro w'; go_simp; with_reducible rfl); rotate_left; (· simp only [Act.put, N1_]; rfl)
  refine pure_ (i := 35) (N := some 90) (v := ?_) (a' := ?_) (bs_ 53 68719476735) rfl rfl (by kernel_rfl) (fun _ _ _ h => h) (Or.inl ⟨by rfl, ?_⟩) ?_ ?_; rotate_left; (· intro w'; go_simp; with_reducible rfl); rotate_left; (· simp only [Act.put, N1_]; rfl)
  refine pure_ (i := 36) (N := some 91) (v := ?_) (a' := ?_) (bs_ 53 137438953471) rfl rfl (by kernel_rfl) (fun _ _ _ h => h) (Or.inl ⟨by rfl, ?_⟩) ?_ ?_; rotate_left; (· intro w'; go_simp; with_reducible rfl); rotate_left; (· simp only [Act.put, N1_]; rfl)
  refine pure_ (i := 37) (N := some 92) (v := ?_) (a' := ?_) (bs_ 53 274877906943) rfl rfl (by kernel_rfl) (fun _ _ _ h => h) (Or.inl ⟨by rfl, ?_⟩) ?_ ?_; rotate_left; (· intro w'; go_simp; with_reducible rfl); rotate_left; (· simp only [Act.put, N1_]; rfl)
  refine pure_ (i := 38) (N := some 93) (v := ?_) (a' := ?_) (bs_ 53 549755813887) rfl rfl (by kernel_rfl) (fun _ _ _ h => h) (Or.inl ⟨by rfl, ?_⟩) ?_ ?_; rotate_left; (· intro w'; go_simp; with_reducible rfl); rotate_left; (· simp only [Act.put, N1_]; rfl)
  refine pure_ (i := 39) (N := some 94) (v := ?_) (a' := ?_) (bs_ 53 1099511627775) rfl rfl (by kernel_rfl) (fun _ _ _ h => h) (Or.inl ⟨by rfl, ?_⟩) ?_ ?_; rotate_left; (· intro w'; go_simp; with_reducible rfl); rotate_left; (· simp only [Act.put, N1_]; rfl)
  refine pure_ (i := 40) (N := some 95) (v := ?_) (a' := ?_) (bs_ 53 2199023255551) rfl rfl (by kernel_rfl) (fun _ _ _ h => h) (Or.inl ⟨by rfl, ?_⟩) ?_ ?_; rotate_left; (· intro w'; go_simp; with_reducible rfl); rotate_left; (· simp only [Act.put, N1_]; rfl)
  refine pure_ (i := 41) (N := some 96) (v := ?_) (a' := ?_) (bs_ 53 4398046511103) rfl rfl (by kernel_rfl) (fun _ _ _ h => h) (Or.inl ⟨by rfl, ?_⟩) ?_ ?_; rotate_left; (· intro w'; go_simp; with_reducible rfl); rotate_left; (· simp only [Act.put, N1_]; rfl)
  refine pure_ (i := 42) (N := some 97) (v := ?_) (a' := ?_) (bs_ 53 8796093022207) rfl rfl (by kernel_rfl) (fun _ _ _ h => h) (Or.inl ⟨by rfl, ?_⟩) ?_ ?_; rotate_left; (· intro w'; go_simp; with_reducible rfl); rotate_left; (· simp only [Act.put, N1_]; rfl)
  refine pure_ (i := 43) (N := some 98) (v := ?_) (a' := ?_) (bs_ 53 17592186044415) rfl rfl (by kernel_rfl) (fun _ _ _ h => h) (Or.inl ⟨by rfl, ?_⟩) ?_ ?_; rotate_left; (· intro w'; go_simp; with_reducible rfl); rotate_left; (· simp only [Act.put, N1_]; rfl)
  refine pure_ (i := 44) (N := some 99) (v := ?_) (a' := ?_) (bs_ 53 35184372088831) rfl rfl (by kernel_rfl) (fun _ _ _ h => h) (Or.inl ⟨by rfl, ?_⟩) ?_ ?_; rotate_left; (· intro w'; go_simp; with_reducible rfl); rotate_left; (· simp only [Act.put, N1_]; rfl)
  refine one_ (i := 45) (N := some 100) (bs_ 53 70368744177663) rfl rfl (by kernel_rfl) (by decide) (fun K hK => ?_)
  go_simp
  have B13 := Aside0.mk (below_alloc B12.out (.cells #[.int .i64 0, .int .i64 1] 3))
  have Q13 := Aside0.mk (blk_alloc Q12.out (.cells #[.int .i64 0, .int .i64 1] 3))
  have HL13 := Aside0.mk (Kd.C_alloc HL12.out (.cells #[.int .i64 0, .int .i64 1] 3))
  have HM13 := Aside0.mk (Kd.C_alloc HM12.out (.cells #[.int .i64 0, .int .i64 1] 3))
  have HI13 : Aside0 (Kd.C (Kd.int .i64) (W12.alloc (.cells #[.int .i64 0, .int .i64 1] 3)) (some ⟨W12.heap.size, 0, none⟩) [(0 : Int), 1].length [0, 1]) := ⟨C_ints (l := [0, 1]) (blk_new W12 _) (by decide)⟩
  clear hHeld
  refine hK.out _ _ ⟨cell_two Q13.out 0 rfl, cell_two Q13.out 1 rfl⟩ (fun hHeld => ?_)
  clear hK K
  refine one_ (i := 46) (N := some 101) (bs_ 53 140737488355327) rfl rfl (by kernel_rfl) (by decide) (fun K hK => ?_)
  refine goes_ Try.func22 (by kernel_rfl) rfl #[.slice Am 2 cm, .slice (some ⟨W12.heap.size, 0, none⟩) 2 2] (by rfl) rfl rfl (by (try simp only [LM_]); try rfl) ?_
  refine (gasworksref06_Ints.calls 10 _ _ [0, 1] _ _ [0, 1] true _ HM13.out Hm8.out HI13.out (by decide) ints_sample).mono ?_
  rintro e W14 ⟨rfl, hd⟩
  refine ⟨_, rfl, ?_⟩
  have hb := hd.below
  have B14 := Aside0.mk (bl_next' B13.out hb)
  have Q14 := Aside0.mk (blk_below Q13.out hb)
  have HL14 := Aside0.mk (Kd.C_below HL13.out hb)
  have HM14 := Aside0.mk (Kd.C_below HM13.out hb)
  clear hd hb hHeld HI13
  refine hK.out _ _ ⟨cell_two Q14.out 0 rfl, cell_two Q14.out 1 rfl⟩ (fun hHeld => ?_)
  clear hK K
  refine norm_ (a' := ?_) ?_ ?_; rotate_left; (· show Act.put _ (some 101) _ = _; simp only [Act.put, N1_]; rfl)
  refine pure_ (i := 47) (N := some 102) (v := ?_) (a' := ?_) (bs_ 53 281474976710655) rfl rfl (by kernel_rfl) (fun _ _ _ h => h) (Or.inl ⟨by rfl, ?_⟩) ?_ ?_; rotate_left; (· intro w'; go_simp; with_reducible rfl); rotate_left; (· simp only [Act.put, N1_]; rfl)
  refine pure_ (i := 48) (N := some 103) (v := ?_) (a' := ?_) (bs_ 53 562949953421311) rfl rfl (by kernel_rfl) (fun _ _ _ h => h) (Or.inl ⟨by rfl, ?_⟩) ?_ ?_; rotate_left; (· intro w'; go_simp; with_reducible rfl); rotate_left; (· simp only [Act.put, N1_]; rfl)
  refine pure_ (i := 49) (N := some 104) (v := ?_) (a' := ?_) (bs_ 53 1125899906842623) rfl rfl (by kernel_rfl) (fun _ _ _ h => h) (Or.inl ⟨by rfl, ?_⟩) ?_ ?_; rotate_left; (· intro w'; go_simp; with_reducible rfl); rotate_left; (· simp only [Act.put, N1_]; rfl)
  refine pure_ (i := 50) (N := some 105) (v := ?_) (a' := ?_) (bs_ 53 2251799813685247) rfl rfl (by kernel_rfl) (fun _ _ _ h => h) (Or.inl ⟨by rfl, ?_⟩) ?_ ?_; rotate_left; (· intro w'; go_simp; with_reducible rfl); rotate_left; (· simp only [Act.put, N1_]; rfl)
  refine pure_ (i := 51) (N := some 106) (v := ?_) (a' := ?_) (bs_ 53 4503599627370495) rfl rfl (by kernel_rfl) (fun _ _ _ h => h) (Or.inl ⟨by rfl, ?_⟩) ?_ ?_; rotate_left; (· intro w'; go_simp; with_reducible rfl); rotate_left; (· simp only [Act.put, N1_]; rfl)
  refine pure_ (i := 52) (N := some 0) (v := ?_) (a' := ?_) (bs_ 53 9007199254740991) rfl rfl (by kernel_rfl) (fun _ _ _ h => h) (Or.inl ⟨by rfl, ?_⟩) ?_ ?_; rotate_left; (· intro w'; go_simp; with_reducible rfl); rotate_left; (· simp only [Act.put, N1_]; rfl)
  refine done_ (by kernel_rfl) ?_
  clear hHeld
  go_wp2_with (fail)
  go_ret
  exact ⟨rfl, B14.out⟩
end Go.Proofs.Ytbjinkkmakhbaaa.Print
