/- BalanceTrue: the law's function, walked: its answer is true. -/
import Derived.Test.YtalgbihpidpblaaM9
namespace Go.Proofs.Ytalgbihpidpblaa.Print
open Go.RowKit Go.Shelf Go.Proofs.YtalgbihpidpblaaW.PrintWords Go.Proofs.YtalgbihpidpblaaW.PrintLast Go.Proofs.YtalgbihpidpblaaW.PrintMore
set_option linter.unusedVariables false
set_option linter.unusedSimpArgs false

theorem is_callb {pl : Int} {A B : Option Addr} {c d : Nat} {l : List S47} {b : List Int} {r : Bool} {w : World} (h : isB l b = r) (hp : isPlantB pl l = true) (hr : Kd.C k47 w A l.length l) (hc : l.length ≤ c) (hs : Kd.C (Kd.int .i64) w B b.length b) (hd : b.length ≤ d) :
    Calls Try.prog 22 #[.agg #[.int .i64 pl, .slice A l.length c], .slice B b.length d] w fun e w' => e = .returned (.bool r) ∧ Below w.heap.size w w' := by
  subst h
  exact gasworksref04_Is.calls _ pl A c l B d b _ w hr hc hs hd (is_eq pl l b hp)

def BackTrue (w : World) (e : Ending) (w' : World) : Prop := e = .returned (.bool true) ∧ Below w.heap.size w w'

set_option maxHeartbeats 4000000 in
set_option maxRecDepth 100000 in
theorem true_early (a0 : Int) (A1 A2 A3 : Option Addr) (c1 c2 c3 : Nat) (st gs wd : List Int) (w : World) (m1 : st.length ≤ 9223372036854775807) (m2 : gs.length ≤ 9223372036854775807) (m3 : wd.length ≤ 9223372036854775807)
    (h : st.length = 0 ∨ (0 < st.length ∧ gs.length = 0) ∨ (0 < st.length ∧ 0 < gs.length ∧ wd.length = 0)) :
    Calls Try.prog 5 #[.int .u8 a0, .slice A1 st.length c1, .slice A2 gs.length c2, .slice A3 wd.length c3] w (BackTrue w) := by
  rcases h with h | ⟨h1, h⟩ | ⟨h1, h2, h⟩
  · have k1 : ((st.length : Int) == 0) = true := beq_iff_eq.2 (by omega)
    clear h
    go_enter Try.func5, Try.ntmps5
    go_wp2_with (go_at_call 10; refine (awake_any _).mono ?_; rintro e W1 ⟨rfl, hb⟩; have HB1 := Aside0.mk hb; clear hb)
    go_ret
    exact ⟨rfl, HB1.out⟩
  · have k1 : ((st.length : Int) == 0) = false := beq_eq_false_iff_ne.2 (by omega)
    have k2 : ((gs.length : Int) == 0) = true := beq_iff_eq.2 (by omega)
    clear h h1
    go_enter Try.func5, Try.ntmps5
    go_wp2_with (go_at_call 10; refine (awake_any _).mono ?_; rintro e W1 ⟨rfl, hb⟩; have HB1 := Aside0.mk hb; clear hb)
    go_ret
    exact ⟨rfl, HB1.out⟩
  · have k1 : ((st.length : Int) == 0) = false := beq_eq_false_iff_ne.2 (by omega)
    have k2 : ((gs.length : Int) == 0) = false := beq_eq_false_iff_ne.2 (by omega)
    have k3 : ((wd.length : Int) == 0) = true := beq_iff_eq.2 (by omega)
    clear h h1 h2
    go_enter Try.func5, Try.ntmps5
    go_wp2_with (go_at_call 10; refine (awake_any _).mono ?_; rintro e W1 ⟨rfl, hb⟩; have HB1 := Aside0.mk hb; clear hb)
    go_ret
    exact ⟨rfl, HB1.out⟩

set_option maxHeartbeats 8000000 in
set_option maxRecDepth 100000 in
theorem true_main (a0 : Int) (A1 A2 A3 : Option Addr) (c1 c2 c3 : Nat) (st gs wd : List Int) (w : World) (h0 : 0 ≤ a0 ∧ a0 ≤ 255)
    (r1 : Kd.C (Kd.int .u8) w A1 st.length st) (r2 : Kd.C (Kd.int .u16) w A2 gs.length gs) (r3 : Kd.C (Kd.int .u8) w A3 wd.length wd)
    (l1 : 0 < st.length) (l2 : 0 < gs.length) (l3 : 0 < wd.length) (m1 : st.length ≤ 9223372036854775807) (m2 : gs.length ≤ 9223372036854775807) (m3 : wd.length ≤ 9223372036854775807) (u1 : upB 255 st = true) (u2 : upB 65535 gs = true) (u3 : upB 255 wd = true) :
    Calls Try.prog 5 #[.int .u8 a0, .slice A1 st.length c1, .slice A2 gs.length c2, .slice A3 wd.length c3] w (BackTrue w) := by
  have hp2 : 2 ≤ 2 + a0 % 7 ∧ 2 + a0 % 7 ≤ 8 := by omega
  have hgood := go_good (2 + a0 % 7) st gs wd hp2.1 u1 u2 u3 (by omega) (by omega) (min st.length 14) 0 0 ⟨0, rd gs 0, [], []⟩ (by omega) ⟨⟨Int.le_refl _, by show (0 : Int) < 2 + a0 % 7; omega⟩, up_rd u2 0 (by decide) (by omega), by simp, rfl, fun x hx => by cases hx⟩ ⟨by omega, by omega⟩
  have hgood' : (walksS (2 + a0 % 7) st gs wd).2.length ≤ 16 ∧ (walksS (2 + a0 % 7) st gs wd).1.length = (walksS (2 + a0 % 7) st gs wd).2.length ∧ GoodL (2 + a0 % 7) (walksS (2 + a0 % 7) st gs wd).1 := hgood
  have WC := fun W => walks_any (2 + a0 % 7) A1 A2 A3 c1 c2 c3 st gs wd W hp2.1 hp2.2
  clear hgood
  generalize (walksS (2 + a0 % 7) st gs wd).1 = l at *
  generalize (walksS (2 + a0 % 7) st gs wd).2 = tr at *
  have hp : isPlantB (2 + a0 % 7) l = true := good_plant _ l hp2.1 hp2.2 (by omega) hgood'.2.2
  have hl16 : l.length ≤ 16 := by omega
  have WCA : Aside0 (∀ W : World, Below w.heap.size w W → Calls Try.prog 21 #[.int .i64 (2 + a0 % 7), .slice A1 st.length c1, .slice A2 gs.length c2, .slice A3 wd.length c3] W fun e w' => ∃ v1_ v2_ : Value, e = .returned (.tuple #[.agg #[.int .i64 (2 + a0 % 7), v1_], v2_]) ∧
      Kd.R k47 47 w' W.heap.size (fun _ => True) v1_ l ∧ Kd.R (Kd.int .i64) 3 w' W.heap.size (fun _ => True) v2_ tr ∧ Below W.heap.size W w') :=
    ⟨fun W hB => WC W (Kd.C_below r1 hB) (Kd.C_below r2 hB) (Kd.C_below r3 hB) l1 l2 l3 m1 m2 m3 (up_rd u1) (up_rd u2) (up_rd u3)⟩
  clear WC r1 r2 r3 u1 u2 u3
  have k1 : ((st.length : Int) == 0) = false := beq_eq_false_iff_ne.2 (by omega)
  have k2 : ((gs.length : Int) == 0) = false := beq_eq_false_iff_ne.2 (by omega)
  have k3 : ((wd.length : Int) == 0) = false := beq_eq_false_iff_ne.2 (by omega)
  have HG := Aside0.mk hgood'
  have HP := Aside0.mk hp
  obtain ⟨pl, hpl⟩ : ∃ pl, pl = 2 + a0 % 7 := ⟨_, rfl⟩
  rw [← hpl] at hp2 hgood' hp HG HP
  cases hI : isB l tr with
  | false =>
    have HI := Aside0.mk hI
    have HPL := Aside0.mk hpl
    clear hI hp hgood' hpl
    go_enter Try.func5, Try.ntmps5
    go_wp2_with (first
      | (go_at_call 21; refine (WCA.out _ (Below.refl _ _)).mono ?_; rintro e W1 ⟨v1, v2, rfl, hF, hT, hb⟩; rw [← HPL.out]; obtain ⟨Af, cf, rfl⟩ := Kd.R_slice hF; obtain ⟨At, ct, rfl⟩ := Kd.R_slice hT; have HF1 := Aside0.mk hF; have HT1 := Aside0.mk hT; have HB1 := Aside0.mk hb; clear hF hT hb)
      | (go_at_call 22; refine (is_callb HI.out HP.out (Kd.R_reads' (Kd.R_alloc HF1.out _)).2.2 (Kd.R_reads' HF1.out).2.1 (Kd.R_reads' (Kd.R_alloc HT1.out _)).2.2 (Kd.R_reads' HT1.out).2.1).mono ?_; rintro e W2 ⟨rfl, hb⟩; have HB2 := Aside0.mk (bl_next (below_alloc HB1.out _) hb); clear hb)
      | (go_at_call 10; refine (awake_any _).mono ?_; rintro e W3 ⟨rfl, hb⟩; have HB3 := Aside0.mk (bl_next HB2.out hb); clear hb))
    go_ret
    exact ⟨rfl, HB3.out⟩
  | true =>
    have ht : Tr l tr := (isB_iff pl l tr hp2.2 hgood'.2.2).1 hI
    have hc := tr_cut l tr ht
    have HF0 : Aside0 (isB l (truthL pl l l.length) = true) := ⟨(isB_iff pl l _ hp2.2 hgood'.2.2).2 (truth_is pl l hp2.2 hgood'.2.2 hc)⟩
    have T13 := Aside0.mk (tight_cut pl l hp hc)
    have T11 := Aside0.mk (truth_cut pl l hp hc)
    have T19 := Aside0.mk (wrong_cut pl l hp hc)
    have HTR := Aside0.mk ht
    have HC := Aside0.mk hc
    have HTL := Aside0.mk (tightL_len pl l)
    have HFL := Aside0.mk (truthL_length pl l l.length)
    have hlr := inG_length l tr ht.1
    obtain ⟨K, hK⟩ : ∃ K, K = tightL pl l := ⟨_, rfl⟩
    obtain ⟨fi, hfi⟩ : ∃ fi, fi = truthL pl l l.length := ⟨_, rfl⟩
    rw [← hK] at T13 HTL
    rw [← hfi] at T11 HF0 HFL
    have HKK := Aside0.mk hK
    have HFI := Aside0.mk hfi
    have e5 : ((K.length : Int) != (tr.length : Int)) = false := by rw [HTL.out, hlr]; simp
    have e6 : ((K.length : Int) == (tr.length : Int)) = true := by rw [HTL.out, hlr]; simp
    have HI := Aside0.mk hI
    have HPL := Aside0.mk hpl
    have HLR := Aside0.mk hlr
    clear hI hp hgood' hpl ht hc hK hfi hlr
    go_enter Try.func5, Try.ntmps5
    go_wp2_with (first
      | (go_at_call 21; refine (WCA.out _ (Below.refl _ _)).mono ?_; rintro e W1 ⟨v1, v2, rfl, hF, hT, hb⟩; rw [← HPL.out]; obtain ⟨Af, cf, rfl⟩ := Kd.R_slice hF; obtain ⟨At, ct, rfl⟩ := Kd.R_slice hT; have HF1 := Aside0.mk hF; have HT1 := Aside0.mk hT; have HB1 := Aside0.mk hb; clear hF hT hb)
      | (go_at_call 22; have hgu := HB5.out; clear hgu; refine (is_callb HF0.out HP.out (Kd.R_reads' HF5.out).2.2 (Kd.R_reads' HF5.out).2.1 (Kd.R_reads' HV5.out).2.2 (Kd.R_reads' HV5.out).2.1).mono ?_; rintro e W6 ⟨rfl, hb⟩; have HF6 := Aside0.mk (Kd.R_below HF5.out hb); have HT6 := Aside0.mk (Kd.R_below HT5.out hb); have HK6 := Aside0.mk (Kd.R_below HK5.out hb); have HV6 := Aside0.mk (Kd.R_below HV5.out hb); have BP6 := Aside0.mk (blk_below BP5.out hb); have HB6 := Aside0.mk (bl_next HB5.out hb); clear hb HF5 HT5 HK5 HV5 BP5 s0 s1; have s0 := cell_two BP6.out 0 rfl; have s1 := cell_two BP6.out 1 rfl)
      | (go_at_call 22; refine (is_callb HI.out HP.out (Kd.R_reads' (Kd.R_alloc HF1.out _)).2.2 (Kd.R_reads' HF1.out).2.1 (Kd.R_reads' (Kd.R_alloc HT1.out _)).2.2 (Kd.R_reads' HT1.out).2.1).mono ?_; rintro e W2 ⟨rfl, hb⟩; have HF2 := Aside0.mk (Kd.R_below (Kd.R_alloc HF1.out _) hb); have HT2 := Aside0.mk (Kd.R_below (Kd.R_alloc HT1.out _) hb); have BP2 := Aside0.mk (blk_below (blk_new W1 (.cells #[.int .i64 pl, .slice Af l.length cf] 24)) hb); have HB2 := Aside0.mk (bl_next (below_alloc HB1.out _) hb); have s0 := cell_two BP2.out 0 rfl; have s1 := cell_two BP2.out 1 rfl; clear hb HF1 HT1)
      | (go_at_call 13; refine (tight_call T13.out (Kd.R_reads' HF2.out).2.2 (Kd.R_reads' HF2.out).2.1).mono ?_; rintro e W3 ⟨v, rfl, hR, hb⟩; obtain ⟨A3', c3', rfl⟩ := Kd.R_slice hR; have HF3 := Aside0.mk (Kd.R_below HF2.out hb); have HT3 := Aside0.mk (Kd.R_below HT2.out hb); have HK3 := Aside0.mk (Kd.R_lower hR HB2.out.size); have BP3 := Aside0.mk (blk_below BP2.out hb); have HB3 := Aside0.mk (bl_next HB2.out hb); clear hR hb HF2 HT2 BP2 s0 s1; have s0 := cell_two BP3.out 0 rfl; have s1 := cell_two BP3.out 1 rfl)
      | (go_at_call 11; refine (truth_call T11.out (Kd.R_reads' HF3.out).2.2 (Kd.R_reads' HF3.out).2.1).mono ?_; rintro e W4 ⟨v, rfl, hR, hb⟩; obtain ⟨A4', c4', rfl⟩ := Kd.R_slice hR; have HF4 := Aside0.mk (Kd.R_below HF3.out hb); have HT4 := Aside0.mk (Kd.R_below HT3.out hb); have HK4 := Aside0.mk (Kd.R_below HK3.out hb); have HV4 := Aside0.mk (Kd.R_lower hR HB3.out.size); have BP4 := Aside0.mk (blk_below BP3.out hb); have HB4 := Aside0.mk (bl_next HB3.out hb); clear hR hb HF3 HT3 HK3 BP3 s0 s1; have s0 := cell_two BP4.out 0 rfl; have s1 := cell_two BP4.out 1 rfl)
      | (go_at_call 19; refine (wrong_call T19.out (Kd.R_reads' HF4.out).2.2 (Kd.R_reads' HF4.out).2.1).mono ?_; rintro e W5 ⟨v, rfl, hR, hb⟩; obtain ⟨A5', c5', rfl⟩ := Kd.R_slice hR; have HF5 := Aside0.mk (Kd.R_below HF4.out hb); have HT5 := Aside0.mk (Kd.R_below HT4.out hb); have HK5 := Aside0.mk (Kd.R_below HK4.out hb); have HV5 := Aside0.mk (Kd.R_below HV4.out hb); have BP5 := Aside0.mk (blk_below BP4.out hb); have HB5 := Aside0.mk (bl_next HB4.out hb); clear hR hb HF4 HT4 HK4 HV4 BP4 s0 s1; have s0 := cell_two BP5.out 0 rfl; have s1 := cell_two BP5.out 1 rfl))
    clear s0 s1 k1 k2 k3 e5 e6
    go_loopw [17, 18] (fun b iv wr => ∃ (i : Nat) (less : Bool), b = .bool less ∧ iv = .int .i64 (i : Int) ∧ i ≤ l.length ∧ Aside0 (less = false → ∀ j : Nat, j < i → rd tr j = rd fi j) ∧ Aside0 (Below W6.heap.size W6 wr)) (fun _ iv _ => l.length - (intOf iv).toNat)
    case atStart => exact ⟨0, false, rfl, rfl, by omega, ⟨fun _ j hj => by omega⟩, ⟨Below.refl _ _⟩⟩
    case round =>
      obtain ⟨i, less, rfl, rfl, hi, HL, HW⟩ := hrel
      have kl : (K.length : Int) = (l.length : Int) := by rw [HTL.out]
      have tl : (tr.length : Int) = (l.length : Int) := by rw [HLR.out]
      have fl : (fi.length : Int) = (l.length : Int) := by rw [HFL.out]
      by_cases hlt : i < l.length
      · have d0 : decide ((i : Int) < (K.length : Int)) = true := decide_eq_true (by omega)
        have i0 : (0 : Int) ≤ (i : Int) := Int.natCast_nonneg i
        have iK : (i : Int) < (K.length : Int) := by omega
        have iT : (i : Int) < (tr.length : Int) := by omega
        have iF : (i : Int) < (fi.length : Int) := by omega
        have iL : (i : Int) < (l.length : Int) := by omega
        obtain ⟨aT, e, g1⟩ := Kd.at_int (Kd.C_below (Kd.R_reads' HT6.out).2.2 HW.out) i i0 iT
        cases e
        obtain ⟨aK, e, g2, g3⟩ := at_T45 (Kd.C_below (Kd.R_reads' HK6.out).2.2 HW.out) i i0 iK
        cases e
        obtain ⟨aL, e, _, _, g4, g5⟩ := at_T47 (Kd.C_below (Kd.R_reads' HF6.out).2.2 HW.out) i i0 iL
        cases e
        obtain ⟨aF, e, g6⟩ := Kd.at_int (Kd.C_below (Kd.R_reads' HV6.out).2.2 HW.out) i i0 iF
        cases e
        have hb := tr_bounds pl l tr HTR.out i hlt
        have hb2 := bounds_in pl l HG.out.2.2 HC.out i i0 iL
        have er := tightL_rd pl l i hlt
        rw [← HKK.out] at er
        have el : (rd_T45 K i).f0 = (boundS false pl l i).1 := by rw [er]
        have eh : (rd_T45 K i).f1 = (boundS true pl l i).1 := by rw [er]
        have hfirst : less = false → rd fi i ≤ rd tr i := fun h => by
          have h1 := truth_first pl l hp2.2 HG.out.2.2 tr HTR.out i hlt (fun j hj => by rw [← HFI.out]; exact HL.out h j hj)
          rwa [← HFI.out] at h1
        have f1 : decide (rd tr i < (rd_T45 K i).f0) = false := decide_eq_false (by omega)
        have f2 : decide ((rd_T45 K i).f1 < rd tr i) = false := decide_eq_false (by omega)
        have f3 : decide ((rd_T45 K i).f0 < (rd_T47 l i).f2.f0) = false := decide_eq_false (by omega)
        have f4 : decide ((rd_T47 l i).f2.f1 < (rd_T45 K i).f1) = false := decide_eq_false (by omega)
        have BPr := Aside0.mk (blk_below BP6.out HW.out)
        have s0 := cell_two BPr.out 0 rfl
        have s1 := cell_two BPr.out 1 rfl
        simp only [Int.toNat_natCast] at g1 g2 g3 g4 g5 g6
        clear hb hb2 er el eh kl tl fl
        have HFT := Aside0.mk hfirst
        clear hfirst
        cases less with
        | true =>
          clear HFT
          go_wp2_with (fail)
          go_big_region
          go_wp2_with (fail)
          go_big_region
          go_wp2_with (fail)
          go_big_region
          go_wp2_with (fail)
          go_roundw
          case rel => exact ⟨i + 1, true, rfl, by go_num, by omega, ⟨fun h => by cases h⟩, ⟨HW.out.drew.drew.drew⟩⟩
          case measure => simp [intOf]; omega
        | false =>
          by_cases hq : rd fi i < rd tr i
          · have hq1 : decide (rd fi i < rd tr i) = true := decide_eq_true hq
            clear HFT
            go_wp2_with (fail)
            go_big_region
            go_wp2_with (fail)
            go_big_region
            go_wp2_with (fail)
            go_big_region
            go_wp2_with (fail)
            go_roundw
            case rel => exact ⟨i + 1, true, rfl, by go_num, by omega, ⟨fun h => by cases h⟩, ⟨HW.out.drew.drew.drew⟩⟩
            case measure => simp [intOf]; omega
          · have hle := HFT.out rfl
            have hq1 : decide (rd fi i < rd tr i) = false := decide_eq_false hq
            have hq2 : decide (rd tr i < rd fi i) = false := decide_eq_false (by omega)
            have HEQ : Aside0 (rd tr i = rd fi i) := ⟨by omega⟩
            clear HFT
            go_wp2_with (fail)
            go_big_region
            go_wp2_with (fail)
            go_big_region
            go_wp2_with (fail)
            go_big_region
            go_wp2_with (fail)
            go_roundw
            case rel =>
              refine ⟨i + 1, false, rfl, by go_num, by omega, ⟨fun _ j hj => ?_⟩, ⟨HW.out.drew.drew.drew⟩⟩
              rcases Nat.lt_or_ge j i with h' | h'
              · exact HL.out trivial j h'
              · have : j = i := by omega
                rw [this]
                exact HEQ.out
            case measure => simp [intOf]; omega
      · have hge : K.length ≤ i := by omega
        clear kl tl fl
        go_wp2_with (fail)
        go_wp2_with (go_at_call 10; refine (awake_any _).mono ?_; rintro e W7 ⟨rfl, hb⟩; have HB7 := Aside0.mk (bl_next (bl_next HB6.out HW.out) hb); clear hb)
        go_ret
        exact ⟨rfl, HB7.out⟩
end Go.Proofs.Ytalgbihpidpblaa.Print
