/- The first junction that is not right (fault, Fault). -/
import Derived.Test.YtbjinkkmakhbaaaA17
namespace Go.Proofs.Ytbjinkkmakhbaaa.Print
open Go.RowKit Go.Shelf Go.Proofs.YtbjinkkmakhbaaaW.PrintWords Go.Proofs.YtbjinkkmakhbaaaW.PrintLast Go.Proofs.YtbjinkkmakhbaaaW.PrintMore
set_option linter.unusedVariables false
set_option linter.unusedSimpArgs false
attribute [local go_sem] Oper.semAt_some
/-- Is a junction not right, and is it that its pressure is low? -/
def badP (lo hi : Int) (js : List S50) (ms : List S54) (j : Nat) : Option Bool :=
  if statusP ms j = 0 then none else if loP js ms lo j < (rd_T50 js j).f1 then some true else if (rd_T50 js j).f2 < hiP js ms hi j then some false else none
def faultL (lo hi : Int) (js : List S50) (ms : List S54) : Nat → Nat → Int × Bool × Bool
  | 0, _ => (0, false, false)
  | n + 1, k => match badP lo hi js ms k with
    | some b => ((k : Int), b, true)
    | none => faultL lo hi js ms n (k + 1)
def faultS (lo hi : Int) (js : List S50) (ms : List S54) : Int × Bool × Bool := faultL lo hi js ms js.length 0
theorem faultL_none {lo hi : Int} {js : List S50} {ms : List S54} {n k : Nat} (hk : k < n) (h : badP lo hi js ms k = none) : faultL lo hi js ms (n - k) k = faultL lo hi js ms (n - (k + 1)) (k + 1) := by
  obtain ⟨d, hd⟩ : ∃ d, n - k = d + 1 := ⟨n - k - 1, by omega⟩
  have e : n - (k + 1) = d := by omega
  rw [hd, e, faultL, h]
theorem faultL_some {lo hi : Int} {js : List S50} {ms : List S54} {n k : Nat} {b : Bool} (hk : k < n) (h : badP lo hi js ms k = some b) : faultL lo hi js ms (n - k) k = ((k : Int), b, true) := by
  obtain ⟨d, hd⟩ : ∃ d, n - k = d + 1 := ⟨n - k - 1, by omega⟩
  rw [hd, faultL, h]
set_option maxHeartbeats 4000000 in
set_option maxRecDepth 100000 in
theorem fault_any (P : Nat) (lo hi : Int) (A : Option Addr) (c : Nat) (js : List S50) (A' : Option Addr) (c' : Nat) (ms : List S54) (vs : List Value) (hok : NetOk lo hi js ms) (w : World) (hN : NetR w P lo hi A c js A' c' ms vs) :
    Calls Try.prog 42 #[.pointer (some ⟨P, 0, none⟩)] w fun e w' => e = .returned (.tuple #[.int .i64 (faultS lo hi js ms).1, .bool (faultS lo hi js ms).2.1, .bool (faultS lo hi js ms).2.2]) ∧ Below w.heap.size w w' := by
  have HN := Aside0.mk hN
  have HOK := Aside0.mk hok
  have hml := hok.ml
  have hjl := hok.jl
  have p2 : w.cell? ⟨P, 2, none⟩ = some (.slice A js.length c) := cell_two hN.blk 2 (net_2 _ _ _ _ _ _ _ _ _)
  clear hN hok
  go_enter Try.func42, Try.ntmps42
  go_wp2_with (fail)
  go_loopw [13] (fun i wr => ∃ k : Nat, i = .int .i64 (k : Int) ∧ k ≤ js.length ∧ Aside0 (faultS lo hi js ms = faultL lo hi js ms (js.length - k) k) ∧ Aside0 (Below w.heap.size w wr)) (fun i _ => js.length - (intOf i).toNat)
  case atStart => exact ⟨0, rfl, by omega, ⟨rfl⟩, ⟨Below.refl _ _⟩⟩
  case round =>
    clear p2
    obtain ⟨k, rfl, hk, HS, HB⟩ := hrel
    by_cases hlt : k < js.length
    · have hlt' : decide ((k : Int) < (js.length : Int)) = true := decide_eq_true (by omega)
      have k0 : (0 : Int) ≤ (k : Int) := Int.natCast_nonneg k
      have k1 : (k : Int) < (js.length : Int) := by omega
      have hkm : k ≤ ms.length := by omega
      obtain ⟨ad, e, g0, g1, g2, g3, g4⟩ := at_T50 (Kd.C_below HN.out.jr HB.out) k k0 k1
      cases e
      simp only [Int.toNat_natCast] at g0 g1 g2 g3 g4
      have HST : Aside0 (∀ W, Below w.heap.size w W → Calls Try.prog 36 #[.pointer (some ⟨P, 0, none⟩), .int .i64 (k : Int)] W fun e w' => e = .returned (.int .i64 (statusP ms k)) ∧ Below W.heap.size W w') := ⟨fun W h => status_any A' c' ms P k W (cell_two (HN.out.next h).blk 3 (net_m _ _ _ _ _ _ _ _ _)) (HN.out.next h).mr HOK.out.mok hkm (by omega)⟩
      have HLo : Aside0 (∀ W, Below w.heap.size w W → Calls Try.prog 40 #[.pointer (some ⟨P, 0, none⟩), .int .i64 (k : Int), .int .i64 0] W fun e w' => e = .returned (.int .i64 (loP js ms lo k)) ∧ Below W.heap.size W w') := ⟨fun W h => at0_any P lo hi (some ad) c js A' c' ms vs HOK.out k hkm W (HN.out.next h)⟩
      have HHi : Aside0 (∀ W, Below w.heap.size w W → Calls Try.prog 40 #[.pointer (some ⟨P, 0, none⟩), .int .i64 (k : Int), .int .i64 1] W fun e w' => e = .returned (.int .i64 (hiP js ms hi k)) ∧ Below W.heap.size W w') := ⟨fun W h => at1_any P lo hi (some ad) c js A' c' ms vs HOK.out k hkm W (HN.out.next h)⟩
      have HBD : Aside0 (badP lo hi js ms k = if statusP ms k = 0 then none else if loP js ms lo k < (rd_T50 js (k : Int)).f1 then some true else if (rd_T50 js (k : Int)).f2 < hiP js ms hi k then some false else none) := ⟨rfl⟩
      generalize loP js ms lo k = pl at HLo HBD
      generalize hiP js ms hi k = ph at HHi HBD
      generalize statusP ms k = st at HST HBD
      obtain ⟨n0, h0⟩ : ∃ x, (rd_T50 js (k : Int)).f0.f0 = x := ⟨_, rfl⟩
      obtain ⟨n1, h1⟩ : ∃ x, (rd_T50 js (k : Int)).f0.f1 = x := ⟨_, rfl⟩
      obtain ⟨y1, h2⟩ : ∃ x, (rd_T50 js (k : Int)).f1 = x := ⟨_, rfl⟩
      obtain ⟨y2, h3⟩ : ∃ x, (rd_T50 js (k : Int)).f2 = x := ⟨_, rfl⟩
      obtain ⟨y3, h4⟩ : ∃ x, (rd_T50 js (k : Int)).f3 = x := ⟨_, rfl⟩
      rw [h0] at g0
      rw [h1] at g1
      rw [h2] at g2 HBD
      rw [h3] at g3 HBD
      rw [h4] at g4
      clear h0 h1 h2 h3 h4
      have HB0 : Aside0 (Below w.heap.size w (wr.alloc (.cells #[.int .i64 n0, .int .i64 n1, .int .i64 y1, .int .i64 y2, .int .i64 y3] 50))) := ⟨below_alloc HB.out _⟩
      have HY0 : Aside0 ((wr.alloc (.cells #[.int .i64 n0, .int .i64 n1, .int .i64 y1, .int .i64 y2, .int .i64 y3] 50)).heap[wr.heap.size]? = some (.cells #[.int .i64 n0, .int .i64 n1, .int .i64 y1, .int .i64 y2, .int .i64 y3] 50 (0, 0))) := ⟨blk_new wr _⟩
      by_cases hst : st = 0
      · have d0 : (st == 0) = true := by rw [hst]; rfl
        have HBN : Aside0 (badP lo hi js ms k = none) := ⟨by rw [HBD.out, if_pos hst]⟩
        clear hst HBD
        go_wp2_with (go_at_call 36; refine (HST.out _ HB0.out).mono ?_; rintro e W1 ⟨rfl, hb⟩; have H1 := Aside0.mk (bl_next' HB0.out hb); clear hb)
        go_roundw
        case rel => exact ⟨k + 1, by go_num, by omega, ⟨by rw [HS.out]; exact faultL_none hlt HBN.out⟩, H1⟩
        case measure => simp [intOf]; omega
      · have d0 : (st == 0) = false := beq_eq_false_iff_ne.2 hst
        have HBE : Aside0 (badP lo hi js ms k = if pl < y1 then some true else if y2 < ph then some false else none) := ⟨by rw [HBD.out, if_neg hst]⟩
        clear hst HBD
        by_cases hlow : pl < y1
        · have d1 : decide (pl < y1) = true := decide_eq_true hlow
          have HBN : Aside0 (badP lo hi js ms k = some true) := ⟨by rw [HBE.out, if_pos hlow]⟩
          clear hlow HBE
          go_wp2_with (go_at_call 36; refine (HST.out _ HB0.out).mono ?_; rintro e W1 ⟨rfl, hb⟩; have H1 := Aside0.mk (bl_next' HB0.out hb); have Y1 := Aside0.mk (blk_below HY0.out hb); clear hb)
          refine start_ (n := 7) (S := fun w' => w'.cell? ⟨wr.heap.size, 2, none⟩ = some (.int .i64 y1) ∧ w'.cell? ⟨wr.heap.size, 3, none⟩ = some (.int .i64 y2)) (ds := []) (bs_ 7 0) (by kernel_rfl) rfl rfl (⟨cell_two (blk_drew Y1.out) 2 rfl, cell_two (blk_drew Y1.out) 3 rfl⟩) (fun hHeld => ?_)
          have H2 := Aside0.mk (Below.drew H1.out)
          have Y2 := Aside0.mk (blk_drew Y1.out)
          generalize W1.drew = W2 at H2 Y2 hHeld ⊢
          refine pure_ (i := 0) (N := some 22) (v := ?_) (a' := ?_) (bs_ 7 1) rfl rfl (by kernel_rfl) (fun _ _ _ h => h) (Or.inl ⟨by rfl, ?_⟩) ?_ ?_; rotate_left; (· intro w'; go_simp; with_reducible rfl); rotate_left; (· simp only [Act.put, N1_]; rfl)
          refine pure_ (i := 1) (N := some 23) (v := ?_) (a' := ?_) (bs_ 7 3) rfl rfl (by kernel_rfl) (fun _ _ _ h => h) (Or.inl ⟨by rfl, ?_⟩) ?_ ?_; rotate_left; (· intro w'; go_simp; with_reducible rfl); rotate_left; (· simp only [Act.put, N1_]; rfl)
          refine pure_ (i := 3) (N := some 25) (v := ?_) (a' := ?_) (bs_ 7 11) rfl rfl (by kernel_rfl) (fun _ _ _ h => h) (Or.inl ⟨by rfl, ?_⟩) ?_ ?_; rotate_left; (· intro w'; go_simp; with_reducible rfl); rotate_left; (· simp only [Act.put, N1_]; rfl)
          refine take_ (i := 4) (N := some 26) (v := ?_) (a' := ?_) (bs_ 7 27) rfl rfl (by kernel_rfl) (fun _ _ _ h => h) (Or.inl ⟨by rfl, ?_⟩) hHeld ?_ ?_; rotate_left; (· rintro w' ⟨s0, s1⟩; go_simp; with_reducible rfl); rotate_left; (· simp only [Act.put, N1_]; rfl)
          refine one_ (i := 2) (N := some 24) (bs_ 7 31) rfl rfl (by kernel_rfl) (by decide) (fun K hK => ?_)
          refine goes_ Try.func40 (by kernel_rfl) rfl #[.pointer (some ⟨P, 0, none⟩), .int .i64 (k : Int), .int .i64 0] (by rfl) rfl rfl (by (try simp only [LM_]); try rfl) ?_
          refine (HLo.out _ H2.out).mono ?_
          rintro e W3 ⟨rfl, hb⟩
          refine ⟨_, rfl, ?_⟩
          have H3 := Aside0.mk (bl_next' H2.out hb)
          have Y3 := Aside0.mk (blk_below Y2.out hb)
          clear hb hHeld
          refine hK.out _ _ ⟨cell_two Y3.out 2 rfl, cell_two Y3.out 3 rfl⟩ (fun hHeld => ?_)
          clear hK K
          refine norm_ (a' := ?_) ?_ ?_; rotate_left; (· show Act.put _ (some 24) _ = _; simp only [Act.put, N1_]; rfl)
          refine pure_ (i := 5) (N := some 27) (v := ?_) (a' := ?_) (bs_ 7 63) rfl rfl (by kernel_rfl) (fun _ _ _ h => h) (Or.inl ⟨by rfl, ?_⟩) ?_ ?_; rotate_left; (· intro w'; go_simp; with_reducible rfl); rotate_left; (· simp only [Act.put, N1_]; rfl)
          refine pure_ (i := 6) (N := some 3) (v := ?_) (a' := ?_) (bs_ 7 127) rfl rfl (by kernel_rfl) (fun _ _ _ h => h) (Or.inl ⟨by rfl, ?_⟩) ?_ ?_; rotate_left; (· intro w'; go_simp; with_reducible rfl); rotate_left; (· simp only [Act.put, N1_]; rfl)
          refine done_ (by kernel_rfl) ?_
          clear hHeld
          go_wp2_with (fail)
          refine start_ (n := 9) (S := fun w' => w'.cell? ⟨wr.heap.size, 2, none⟩ = some (.int .i64 y1) ∧ w'.cell? ⟨wr.heap.size, 3, none⟩ = some (.int .i64 y2)) (ds := []) (bs_ 9 0) (by kernel_rfl) rfl rfl (⟨cell_two (blk_drew Y3.out) 2 rfl, cell_two (blk_drew Y3.out) 3 rfl⟩) (fun hHeld => ?_)
          have H4 := Aside0.mk (Below.drew H3.out)
          generalize W3.drew = W5 at H4 hHeld ⊢
          refine pure_ (i := 0) (N := some 28) (v := ?_) (a' := ?_) (bs_ 9 1) rfl rfl (by kernel_rfl) (fun _ _ _ h => h) (Or.inl ⟨by rfl, ?_⟩) ?_ ?_; rotate_left; (· intro w'; go_simp; with_reducible rfl); rotate_left; (· simp only [Act.put, N1_]; rfl)
          refine pure_ (i := 1) (N := some 29) (v := ?_) (a' := ?_) (bs_ 9 3) rfl rfl (by kernel_rfl) (fun _ _ _ h => h) (Or.inl ⟨by rfl, ?_⟩) ?_ ?_; rotate_left; (· intro w'; go_simp; with_reducible rfl); rotate_left; (· simp only [Act.put, N1_]; rfl)
          refine pure_ (i := 2) (N := some 30) (v := undef) (a' := ?_) (bs_ 9 7) rfl rfl (by kernel_rfl) (fun _ _ _ h => h) (Or.inr ⟨by rfl, rfl⟩) ?_ ?_; rotate_left; (· simp only [Act.put, N1_]; rfl)
          refine pure_ (i := 3) (N := some 31) (v := undef) (a' := ?_) (bs_ 9 15) rfl rfl (by kernel_rfl) (fun _ _ _ h => h) (Or.inr ⟨by rfl, rfl⟩) ?_ ?_; rotate_left; (· simp only [Act.put, N1_]; rfl)
          refine pure_ (i := 4) (N := some 32) (v := undef) (a' := ?_) (bs_ 9 31) rfl rfl (by kernel_rfl) (fun _ _ _ h => h) (Or.inr ⟨by rfl, rfl⟩) ?_ ?_; rotate_left; (· simp only [Act.put, N1_]; rfl)
          refine pure_ (i := 5) (N := some 33) (v := undef) (a' := ?_) (bs_ 9 63) rfl rfl (by kernel_rfl) (fun _ _ _ h => h) (Or.inr ⟨by rfl, rfl⟩) ?_ ?_; rotate_left; (· simp only [Act.put, N1_]; rfl)
          refine pure_ (i := 6) (N := some 34) (v := undef) (a' := ?_) (bs_ 9 127) rfl rfl (by kernel_rfl) (fun _ _ _ h => h) (Or.inr ⟨by rfl, rfl⟩) ?_ ?_; rotate_left; (· simp only [Act.put, N1_]; rfl)
          refine pure_ (i := 7) (N := some 35) (v := undef) (a' := ?_) (bs_ 9 255) rfl rfl (by kernel_rfl) (fun _ _ _ h => h) (Or.inr ⟨by rfl, rfl⟩) ?_ ?_; rotate_left; (· simp only [Act.put, N1_]; rfl)
          refine pure_ (i := 8) (N := some 36) (v := ?_) (a' := ?_) (bs_ 9 511) rfl rfl (by kernel_rfl) (fun _ _ _ h => h) (Or.inl ⟨by rfl, ?_⟩) ?_ ?_; rotate_left; (· intro w'; go_simp; with_reducible rfl); rotate_left; (· simp only [Act.put, N1_]; rfl)
          refine done_ (by kernel_rfl) ?_
          clear hHeld
          go_wp2_with (fail)
          go_ret3
          exact ⟨by rw [HS.out, faultL_some hlt HBN.out]; rfl, H4.out⟩
        · have d1 : decide (pl < y1) = false := decide_eq_false hlow
          have HBF : Aside0 (badP lo hi js ms k = if y2 < ph then some false else none) := ⟨by rw [HBE.out, if_neg hlow]⟩
          clear hlow HBE
          by_cases hhi : y2 < ph
          · have d2 : decide (y2 < ph) = true := decide_eq_true hhi
            have HBN : Aside0 (badP lo hi js ms k = some false) := ⟨by rw [HBF.out, if_pos hhi]⟩
            clear hhi HBF
            go_wp2_with (go_at_call 36; refine (HST.out _ HB0.out).mono ?_; rintro e W1 ⟨rfl, hb⟩; have H1 := Aside0.mk (bl_next' HB0.out hb); have Y1 := Aside0.mk (blk_below HY0.out hb); clear hb)
            refine start_ (n := 7) (S := fun w' => w'.cell? ⟨wr.heap.size, 2, none⟩ = some (.int .i64 y1) ∧ w'.cell? ⟨wr.heap.size, 3, none⟩ = some (.int .i64 y2)) (ds := []) (bs_ 7 0) (by kernel_rfl) rfl rfl (⟨cell_two (blk_drew Y1.out) 2 rfl, cell_two (blk_drew Y1.out) 3 rfl⟩) (fun hHeld => ?_)
            have H2 := Aside0.mk (Below.drew H1.out)
            have Y2 := Aside0.mk (blk_drew Y1.out)
            generalize W1.drew = W2 at H2 Y2 hHeld ⊢
            refine pure_ (i := 0) (N := some 22) (v := ?_) (a' := ?_) (bs_ 7 1) rfl rfl (by kernel_rfl) (fun _ _ _ h => h) (Or.inl ⟨by rfl, ?_⟩) ?_ ?_; rotate_left; (· intro w'; go_simp; with_reducible rfl); rotate_left; (· simp only [Act.put, N1_]; rfl)
            refine pure_ (i := 1) (N := some 23) (v := ?_) (a' := ?_) (bs_ 7 3) rfl rfl (by kernel_rfl) (fun _ _ _ h => h) (Or.inl ⟨by rfl, ?_⟩) ?_ ?_; rotate_left; (· intro w'; go_simp; with_reducible rfl); rotate_left; (· simp only [Act.put, N1_]; rfl)
            refine pure_ (i := 3) (N := some 25) (v := ?_) (a' := ?_) (bs_ 7 11) rfl rfl (by kernel_rfl) (fun _ _ _ h => h) (Or.inl ⟨by rfl, ?_⟩) ?_ ?_; rotate_left; (· intro w'; go_simp; with_reducible rfl); rotate_left; (· simp only [Act.put, N1_]; rfl)
            refine take_ (i := 4) (N := some 26) (v := ?_) (a' := ?_) (bs_ 7 27) rfl rfl (by kernel_rfl) (fun _ _ _ h => h) (Or.inl ⟨by rfl, ?_⟩) hHeld ?_ ?_; rotate_left; (· rintro w' ⟨s0, s1⟩; go_simp; with_reducible rfl); rotate_left; (· simp only [Act.put, N1_]; rfl)
            refine one_ (i := 2) (N := some 24) (bs_ 7 31) rfl rfl (by kernel_rfl) (by decide) (fun K hK => ?_)
            refine goes_ Try.func40 (by kernel_rfl) rfl #[.pointer (some ⟨P, 0, none⟩), .int .i64 (k : Int), .int .i64 0] (by rfl) rfl rfl (by (try simp only [LM_]); try rfl) ?_
            refine (HLo.out _ H2.out).mono ?_
            rintro e W3 ⟨rfl, hb⟩
            refine ⟨_, rfl, ?_⟩
            have H3 := Aside0.mk (bl_next' H2.out hb)
            have Y3 := Aside0.mk (blk_below Y2.out hb)
            clear hb hHeld
            refine hK.out _ _ ⟨cell_two Y3.out 2 rfl, cell_two Y3.out 3 rfl⟩ (fun hHeld => ?_)
            clear hK K
            refine norm_ (a' := ?_) ?_ ?_; rotate_left; (· show Act.put _ (some 24) _ = _; simp only [Act.put, N1_]; rfl)
            refine pure_ (i := 5) (N := some 27) (v := ?_) (a' := ?_) (bs_ 7 63) rfl rfl (by kernel_rfl) (fun _ _ _ h => h) (Or.inl ⟨by rfl, ?_⟩) ?_ ?_; rotate_left; (· intro w'; go_simp; with_reducible rfl); rotate_left; (· simp only [Act.put, N1_]; rfl)
            refine pure_ (i := 6) (N := some 3) (v := ?_) (a' := ?_) (bs_ 7 127) rfl rfl (by kernel_rfl) (fun _ _ _ h => h) (Or.inl ⟨by rfl, ?_⟩) ?_ ?_; rotate_left; (· intro w'; go_simp; with_reducible rfl); rotate_left; (· simp only [Act.put, N1_]; rfl)
            refine done_ (by kernel_rfl) ?_
            clear hHeld
            go_wp2_with (fail)
            refine start_ (n := 9) (S := fun w' => w'.cell? ⟨wr.heap.size, 2, none⟩ = some (.int .i64 y1) ∧ w'.cell? ⟨wr.heap.size, 3, none⟩ = some (.int .i64 y2)) (ds := []) (bs_ 9 0) (by kernel_rfl) rfl rfl (⟨cell_two (blk_drew Y3.out) 2 rfl, cell_two (blk_drew Y3.out) 3 rfl⟩) (fun hHeld => ?_)
            have H4 := Aside0.mk (Below.drew H3.out)
            have Y4 := Aside0.mk (blk_drew Y3.out)
            generalize W3.drew = W5 at H4 Y4 hHeld ⊢
            refine pure_ (i := 0) (N := some 28) (v := ?_) (a' := ?_) (bs_ 9 1) rfl rfl (by kernel_rfl) (fun _ _ _ h => h) (Or.inl ⟨by rfl, ?_⟩) ?_ ?_; rotate_left; (· intro w'; go_simp; with_reducible rfl); rotate_left; (· simp only [Act.put, N1_]; rfl)
            refine pure_ (i := 1) (N := some 29) (v := ?_) (a' := ?_) (bs_ 9 3) rfl rfl (by kernel_rfl) (fun _ _ _ h => h) (Or.inl ⟨by rfl, ?_⟩) ?_ ?_; rotate_left; (· intro w'; go_simp; with_reducible rfl); rotate_left; (· simp only [Act.put, N1_]; rfl)
            refine pure_ (i := 2) (N := some 30) (v := ?_) (a' := ?_) (bs_ 9 7) rfl rfl (by kernel_rfl) (fun _ _ _ h => h) (Or.inl ⟨by rfl, ?_⟩) ?_ ?_; rotate_left; (· intro w'; go_simp; with_reducible rfl); rotate_left; (· simp only [Act.put, N1_]; rfl)
            refine pure_ (i := 3) (N := some 31) (v := ?_) (a' := ?_) (bs_ 9 15) rfl rfl (by kernel_rfl) (fun _ _ _ h => h) (Or.inl ⟨by rfl, ?_⟩) ?_ ?_; rotate_left; (· intro w'; go_simp; with_reducible rfl); rotate_left; (· simp only [Act.put, N1_]; rfl)
            refine pure_ (i := 5) (N := some 33) (v := ?_) (a' := ?_) (bs_ 9 47) rfl rfl (by kernel_rfl) (fun _ _ _ h => h) (Or.inl ⟨by rfl, ?_⟩) ?_ ?_; rotate_left; (· intro w'; go_simp; with_reducible rfl); rotate_left; (· simp only [Act.put, N1_]; rfl)
            refine take_ (i := 6) (N := some 34) (v := ?_) (a' := ?_) (bs_ 9 111) rfl rfl (by kernel_rfl) (fun _ _ _ h => h) (Or.inl ⟨by rfl, ?_⟩) hHeld ?_ ?_; rotate_left; (· rintro w' ⟨s0, s1⟩; go_simp; with_reducible rfl); rotate_left; (· simp only [Act.put, N1_]; rfl)
            refine one_ (i := 4) (N := some 32) (bs_ 9 127) rfl rfl (by kernel_rfl) (by decide) (fun K hK => ?_)
            refine goes_ Try.func40 (by kernel_rfl) rfl #[.pointer (some ⟨P, 0, none⟩), .int .i64 (k : Int), .int .i64 1] (by rfl) rfl rfl (by (try simp only [LM_]); try rfl) ?_
            refine (HHi.out _ H4.out).mono ?_
            rintro e W6 ⟨rfl, hb⟩
            refine ⟨_, rfl, ?_⟩
            have H5 := Aside0.mk (bl_next' H4.out hb)
            have Y5 := Aside0.mk (blk_below Y4.out hb)
            clear hb hHeld
            refine hK.out _ _ ⟨cell_two Y5.out 2 rfl, cell_two Y5.out 3 rfl⟩ (fun hHeld => ?_)
            clear hK K
            refine norm_ (a' := ?_) ?_ ?_; rotate_left; (· show Act.put _ (some 32) _ = _; simp only [Act.put, N1_]; rfl)
            refine pure_ (i := 7) (N := some 35) (v := ?_) (a' := ?_) (bs_ 9 255) rfl rfl (by kernel_rfl) (fun _ _ _ h => h) (Or.inl ⟨by rfl, ?_⟩) ?_ ?_; rotate_left; (· intro w'; go_simp; with_reducible rfl); rotate_left; (· simp only [Act.put, N1_]; rfl)
            refine pure_ (i := 8) (N := some 36) (v := ?_) (a' := ?_) (bs_ 9 511) rfl rfl (by kernel_rfl) (fun _ _ _ h => h) (Or.inl ⟨by rfl, ?_⟩) ?_ ?_; rotate_left; (· intro w'; go_simp; with_reducible rfl); rotate_left; (· simp only [Act.put, N1_]; rfl)
            refine done_ (by kernel_rfl) ?_
            clear hHeld
            go_wp2_with (fail)
            go_ret3
            exact ⟨by rw [HS.out, faultL_some hlt HBN.out]; rfl, H5.out⟩
          · have d2 : decide (y2 < ph) = false := decide_eq_false hhi
            have HBN : Aside0 (badP lo hi js ms k = none) := ⟨by rw [HBF.out, if_neg hhi]⟩
            clear hhi HBF
            go_wp2_with (go_at_call 36; refine (HST.out _ HB0.out).mono ?_; rintro e W1 ⟨rfl, hb⟩; have H1 := Aside0.mk (bl_next' HB0.out hb); have Y1 := Aside0.mk (blk_below HY0.out hb); clear hb)
            refine start_ (n := 7) (S := fun w' => w'.cell? ⟨wr.heap.size, 2, none⟩ = some (.int .i64 y1) ∧ w'.cell? ⟨wr.heap.size, 3, none⟩ = some (.int .i64 y2)) (ds := []) (bs_ 7 0) (by kernel_rfl) rfl rfl (⟨cell_two (blk_drew Y1.out) 2 rfl, cell_two (blk_drew Y1.out) 3 rfl⟩) (fun hHeld => ?_)
            have H2 := Aside0.mk (Below.drew H1.out)
            have Y2 := Aside0.mk (blk_drew Y1.out)
            generalize W1.drew = W2 at H2 Y2 hHeld ⊢
            refine pure_ (i := 0) (N := some 22) (v := ?_) (a' := ?_) (bs_ 7 1) rfl rfl (by kernel_rfl) (fun _ _ _ h => h) (Or.inl ⟨by rfl, ?_⟩) ?_ ?_; rotate_left; (· intro w'; go_simp; with_reducible rfl); rotate_left; (· simp only [Act.put, N1_]; rfl)
            refine pure_ (i := 1) (N := some 23) (v := ?_) (a' := ?_) (bs_ 7 3) rfl rfl (by kernel_rfl) (fun _ _ _ h => h) (Or.inl ⟨by rfl, ?_⟩) ?_ ?_; rotate_left; (· intro w'; go_simp; with_reducible rfl); rotate_left; (· simp only [Act.put, N1_]; rfl)
            refine pure_ (i := 3) (N := some 25) (v := ?_) (a' := ?_) (bs_ 7 11) rfl rfl (by kernel_rfl) (fun _ _ _ h => h) (Or.inl ⟨by rfl, ?_⟩) ?_ ?_; rotate_left; (· intro w'; go_simp; with_reducible rfl); rotate_left; (· simp only [Act.put, N1_]; rfl)
            refine take_ (i := 4) (N := some 26) (v := ?_) (a' := ?_) (bs_ 7 27) rfl rfl (by kernel_rfl) (fun _ _ _ h => h) (Or.inl ⟨by rfl, ?_⟩) hHeld ?_ ?_; rotate_left; (· rintro w' ⟨s0, s1⟩; go_simp; with_reducible rfl); rotate_left; (· simp only [Act.put, N1_]; rfl)
            refine one_ (i := 2) (N := some 24) (bs_ 7 31) rfl rfl (by kernel_rfl) (by decide) (fun K hK => ?_)
            refine goes_ Try.func40 (by kernel_rfl) rfl #[.pointer (some ⟨P, 0, none⟩), .int .i64 (k : Int), .int .i64 0] (by rfl) rfl rfl (by (try simp only [LM_]); try rfl) ?_
            refine (HLo.out _ H2.out).mono ?_
            rintro e W3 ⟨rfl, hb⟩
            refine ⟨_, rfl, ?_⟩
            have H3 := Aside0.mk (bl_next' H2.out hb)
            have Y3 := Aside0.mk (blk_below Y2.out hb)
            clear hb hHeld
            refine hK.out _ _ ⟨cell_two Y3.out 2 rfl, cell_two Y3.out 3 rfl⟩ (fun hHeld => ?_)
            clear hK K
            refine norm_ (a' := ?_) ?_ ?_; rotate_left; (· show Act.put _ (some 24) _ = _; simp only [Act.put, N1_]; rfl)
            refine pure_ (i := 5) (N := some 27) (v := ?_) (a' := ?_) (bs_ 7 63) rfl rfl (by kernel_rfl) (fun _ _ _ h => h) (Or.inl ⟨by rfl, ?_⟩) ?_ ?_; rotate_left; (· intro w'; go_simp; with_reducible rfl); rotate_left; (· simp only [Act.put, N1_]; rfl)
            refine pure_ (i := 6) (N := some 3) (v := ?_) (a' := ?_) (bs_ 7 127) rfl rfl (by kernel_rfl) (fun _ _ _ h => h) (Or.inl ⟨by rfl, ?_⟩) ?_ ?_; rotate_left; (· intro w'; go_simp; with_reducible rfl); rotate_left; (· simp only [Act.put, N1_]; rfl)
            refine done_ (by kernel_rfl) ?_
            clear hHeld
            go_wp2_with (fail)
            refine start_ (n := 9) (S := fun w' => w'.cell? ⟨wr.heap.size, 2, none⟩ = some (.int .i64 y1) ∧ w'.cell? ⟨wr.heap.size, 3, none⟩ = some (.int .i64 y2)) (ds := []) (bs_ 9 0) (by kernel_rfl) rfl rfl (⟨cell_two (blk_drew Y3.out) 2 rfl, cell_two (blk_drew Y3.out) 3 rfl⟩) (fun hHeld => ?_)
            have H4 := Aside0.mk (Below.drew H3.out)
            have Y4 := Aside0.mk (blk_drew Y3.out)
            generalize W3.drew = W5 at H4 Y4 hHeld ⊢
            refine pure_ (i := 0) (N := some 28) (v := ?_) (a' := ?_) (bs_ 9 1) rfl rfl (by kernel_rfl) (fun _ _ _ h => h) (Or.inl ⟨by rfl, ?_⟩) ?_ ?_; rotate_left; (· intro w'; go_simp; with_reducible rfl); rotate_left; (· simp only [Act.put, N1_]; rfl)
            refine pure_ (i := 1) (N := some 29) (v := ?_) (a' := ?_) (bs_ 9 3) rfl rfl (by kernel_rfl) (fun _ _ _ h => h) (Or.inl ⟨by rfl, ?_⟩) ?_ ?_; rotate_left; (· intro w'; go_simp; with_reducible rfl); rotate_left; (· simp only [Act.put, N1_]; rfl)
            refine pure_ (i := 2) (N := some 30) (v := ?_) (a' := ?_) (bs_ 9 7) rfl rfl (by kernel_rfl) (fun _ _ _ h => h) (Or.inl ⟨by rfl, ?_⟩) ?_ ?_; rotate_left; (· intro w'; go_simp; with_reducible rfl); rotate_left; (· simp only [Act.put, N1_]; rfl)
            refine pure_ (i := 3) (N := some 31) (v := ?_) (a' := ?_) (bs_ 9 15) rfl rfl (by kernel_rfl) (fun _ _ _ h => h) (Or.inl ⟨by rfl, ?_⟩) ?_ ?_; rotate_left; (· intro w'; go_simp; with_reducible rfl); rotate_left; (· simp only [Act.put, N1_]; rfl)
            refine pure_ (i := 5) (N := some 33) (v := ?_) (a' := ?_) (bs_ 9 47) rfl rfl (by kernel_rfl) (fun _ _ _ h => h) (Or.inl ⟨by rfl, ?_⟩) ?_ ?_; rotate_left; (· intro w'; go_simp; with_reducible rfl); rotate_left; (· simp only [Act.put, N1_]; rfl)
            refine take_ (i := 6) (N := some 34) (v := ?_) (a' := ?_) (bs_ 9 111) rfl rfl (by kernel_rfl) (fun _ _ _ h => h) (Or.inl ⟨by rfl, ?_⟩) hHeld ?_ ?_; rotate_left; (· rintro w' ⟨s0, s1⟩; go_simp; with_reducible rfl); rotate_left; (· simp only [Act.put, N1_]; rfl)
            refine one_ (i := 4) (N := some 32) (bs_ 9 127) rfl rfl (by kernel_rfl) (by decide) (fun K hK => ?_)
            refine goes_ Try.func40 (by kernel_rfl) rfl #[.pointer (some ⟨P, 0, none⟩), .int .i64 (k : Int), .int .i64 1] (by rfl) rfl rfl (by (try simp only [LM_]); try rfl) ?_
            refine (HHi.out _ H4.out).mono ?_
            rintro e W6 ⟨rfl, hb⟩
            refine ⟨_, rfl, ?_⟩
            have H5 := Aside0.mk (bl_next' H4.out hb)
            have Y5 := Aside0.mk (blk_below Y4.out hb)
            clear hb hHeld
            refine hK.out _ _ ⟨cell_two Y5.out 2 rfl, cell_two Y5.out 3 rfl⟩ (fun hHeld => ?_)
            clear hK K
            refine norm_ (a' := ?_) ?_ ?_; rotate_left; (· show Act.put _ (some 32) _ = _; simp only [Act.put, N1_]; rfl)
            refine pure_ (i := 7) (N := some 35) (v := ?_) (a' := ?_) (bs_ 9 255) rfl rfl (by kernel_rfl) (fun _ _ _ h => h) (Or.inl ⟨by rfl, ?_⟩) ?_ ?_; rotate_left; (· intro w'; go_simp; with_reducible rfl); rotate_left; (· simp only [Act.put, N1_]; rfl)
            refine pure_ (i := 8) (N := some 36) (v := ?_) (a' := ?_) (bs_ 9 511) rfl rfl (by kernel_rfl) (fun _ _ _ h => h) (Or.inl ⟨by rfl, ?_⟩) ?_ ?_; rotate_left; (· intro w'; go_simp; with_reducible rfl); rotate_left; (· simp only [Act.put, N1_]; rfl)
            refine done_ (by kernel_rfl) ?_
            clear hHeld
            go_wp2_with (fail)
            go_roundw
            case rel => exact ⟨k + 1, by go_num, by omega, ⟨by rw [HS.out]; exact faultL_none hlt HBN.out⟩, H5⟩
            case measure => simp [intOf]; omega
    · have hlt' : decide ((k : Int) < (js.length : Int)) = false := decide_eq_false (by omega)
      go_wp2_with (fail)
      go_ret3
      refine ⟨?_, HB.out⟩
      have e : js.length - k = 0 := by omega
      rw [HS.out, e]
      rfl
/-- Fault: the junction, whether it is low, and the error. -/
def faultT (lo hi : Int) (js : List S50) (ms : List S54) : Int × Bool × Int :=
  if netB lo hi js ms = true then (if (faultS lo hi js ms).2.2 = true then ((faultS lo hi js ms).1, (faultS lo hi js ms).2.1, 0) else (0, false, 4)) else (0, false, 1)
set_option maxHeartbeats 4000000 in
set_option maxRecDepth 100000 in
theorem Fault_any (lo hi : Int) (A : Option Addr) (c : Nat) (js : List S50) (A' : Option Addr) (c' : Nat) (ms : List S54) (w : World) (hr : Kd.C k50 w A js.length js) (hc : js.length ≤ c) (hr' : Kd.C k54 w A' ms.length ms) (hc' : ms.length ≤ c') :
    Calls Try.prog 16 #[.agg #[.int .i64 lo, .int .i64 hi, .slice A js.length c, .slice A' ms.length c']] w fun e w' => e = .returned (.tuple #[.int .i64 (faultT lo hi js ms).1, .bool (faultT lo hi js ms).2.1, .int .i64 (faultT lo hi js ms).2.2]) ∧ Below w.heap.size w w' := by
  have hm := Kd.C_max hr
  have H0 : Aside0 (NetAt w (w.alloc (.cells (netC lo hi A js.length c A' ms.length c') 27)) w.heap.size lo hi A c js A' c' ms) := ⟨⟨blk_new w _, Kd.C_alloc hr _, Kd.C_alloc hr' _, below_alloc (Below.refl _ _) _⟩⟩
  have s0 := cell_two H0.out.blk 0 rfl
  have s1 := cell_two H0.out.blk 1 rfl
  have s2 := cell_two H0.out.blk 2 rfl
  have s3 := cell_two H0.out.blk 3 rfl
  have HNet : Aside0 (∀ W, NetAt w W w.heap.size lo hi A c js A' c' ms → Calls Try.prog 33 #[.agg #[.int .i64 lo, .int .i64 hi, .slice A js.length c, .slice A' ms.length c']] W fun e w' => e = .returned (.bool (netB lo hi js ms)) ∧ Below W.heap.size W w') := ⟨fun W h => network_any lo hi A c js A' c' ms W h.jr hc h.mr hc'⟩
  clear hr hr'
  unfold faultT
  by_cases hn : netB lo hi js ms = true
  · rw [if_pos hn]
    have hok := net_ok hn
    rw [hn] at HNet
    have HNew : Aside0 (∀ W, NetAt w W w.heap.size lo hi A c js A' c' ms → Calls Try.prog 35 #[.agg #[.int .i64 lo, .int .i64 hi, .slice A js.length c, .slice A' ms.length c']] W fun e w' => ∃ vs, e = .returned (.pointer (some ⟨W.heap.size + 1, 0, none⟩)) ∧ Made W w' (W.heap.size + 1) lo hi A c js A' c' ms vs (kidsN ms)) := ⟨fun W h => newNet_any lo hi A c js A' c' ms W h.jr hc h.mr hc' hok⟩
    have HFa : Aside0 (∀ W P vs, NetR W P lo hi A c js A' c' ms vs → Calls Try.prog 42 #[.pointer (some ⟨P, 0, none⟩)] W fun e w' => e = .returned (.tuple #[.int .i64 (faultS lo hi js ms).1, .bool (faultS lo hi js ms).2.1, .bool (faultS lo hi js ms).2.2]) ∧ Below W.heap.size W w') := ⟨fun W P vs h => fault_any P lo hi A c js A' c' ms vs hok W h⟩
    clear hn hok
    generalize faultS lo hi js ms = fs at HFa ⊢
    obtain ⟨f1, f2, f3⟩ := fs
    cases f3
    · rw [if_neg (by simp)]
      go_enter Try.func16, Try.ntmps16
      go_wp2_with (first
        | (go_at_call 33; with_reducible refine (HNet.out _ H0.out).mono ?_; rintro e W1 ⟨rfl, hb⟩; have H1 := Aside0.mk (H0.out.next hb); clear hb s0 s1 s2 s3; have s0 := cell_two H1.out.blk 0 rfl; have s1 := cell_two H1.out.blk 1 rfl; have s2 := cell_two H1.out.blk 2 rfl; have s3 := cell_two H1.out.blk 3 rfl)
        | (go_at_call 35; with_reducible refine (HNew.out _ H1.out).mono ?_; rintro e W2 ⟨vs, rfl, hM⟩; have HM := Aside0.mk hM; clear hM)
        | (go_at_call 42; refine (HFa.out _ _ _ HM.out.reads).mono ?_; rintro e W3 ⟨rfl, hb⟩; have HB3 := Aside0.mk (bl_next' (bl_next' H1.out.bel HM.out.bel) hb); clear hb))
      go_ret3
      exact ⟨rfl, HB3.out⟩
    · rw [if_pos rfl]
      go_enter Try.func16, Try.ntmps16
      go_wp2_with (first
        | (go_at_call 33; with_reducible refine (HNet.out _ H0.out).mono ?_; rintro e W1 ⟨rfl, hb⟩; have H1 := Aside0.mk (H0.out.next hb); clear hb s0 s1 s2 s3; have s0 := cell_two H1.out.blk 0 rfl; have s1 := cell_two H1.out.blk 1 rfl; have s2 := cell_two H1.out.blk 2 rfl; have s3 := cell_two H1.out.blk 3 rfl)
        | (go_at_call 35; with_reducible refine (HNew.out _ H1.out).mono ?_; rintro e W2 ⟨vs, rfl, hM⟩; have HM := Aside0.mk hM; clear hM)
        | (go_at_call 42; refine (HFa.out _ _ _ HM.out.reads).mono ?_; rintro e W3 ⟨rfl, hb⟩; have HB3 := Aside0.mk (bl_next' (bl_next' H1.out.bel HM.out.bel) hb); clear hb))
      go_ret3
      exact ⟨rfl, HB3.out⟩
  · have hn' : netB lo hi js ms = false := by simpa using hn
    rw [if_neg hn]
    rw [hn'] at HNet
    clear hn hn'
    go_enter Try.func16, Try.ntmps16
    go_wp2_with (go_at_call 33; with_reducible refine (HNet.out _ H0.out).mono ?_; rintro e W1 ⟨rfl, hb⟩; have H1 := Aside0.mk (H0.out.next hb); clear hb)
    go_ret3
    exact ⟨rfl, H1.out.bel⟩
end Go.Proofs.Ytbjinkkmakhbaaa.Print
