/- The walk of sidesOf. -/
import Derived.Test.YtalgbihpidpblaaH1
import Derived.RegionTactic
import Derived.ChangeAlike
namespace Go.Proofs.Ytalgbihpidpblaa.Print
open Go.RowKit Go.Proofs.YtalgbihpidpblaaW.PrintWords Go.Proofs.YtalgbihpidpblaaW.PrintLast Go.Proofs.YtalgbihpidpblaaW.PrintMore
set_option linter.unusedVariables false
set_option linter.unusedSimpArgs false

theorem blk_new (w : World) (o : Obj) : (w.alloc o).heap[w.heap.size]? = some o := by
  show (w.heap.push o)[w.heap.size]? = some o
  simp

set_option maxHeartbeats 2000000 in
set_option maxRecDepth 100000 in
theorem sides_any (pl s but : Int) (A : Option Addr) (c : Nat) (l : List S47) (w : World) (hr : Kd.C k47 w A l.length l) (hl : l.length ≤ 16) (hg : ∀ x ∈ l, goodF pl x) :
    Calls Try.prog 51 #[.agg #[.int .i64 pl, .slice A l.length c], .int .u64 s, .int .i64 but] w fun e w' =>
      e = .returned (.agg #[.int .i64 (total s but false false l), .int .i64 (total s but false true l), .int .i64 (total s but true false l), .int .i64 (total s but true true l)]) ∧ Below w.heap.size w w' := by
  have HR := Aside0.mk hr
  clear hr
  have HG := Aside0.mk hg
  clear hg
  go_enter Try.func51, Try.ntmps51
  go_wp2_with (fail)
  go_loopw [16] (fun i wr => ∃ k : Int, i = .int .i64 k ∧ 0 ≤ k ∧ k ≤ l.length ∧
    Aside0 (wr.heap[w.heap.size + 1]? = some (.cells #[.int .i64 (tot s but false false l k), .int .i64 (tot s but false true l k), .int .i64 (tot s but true false l k), .int .i64 (tot s but true true l k)] 83 (0, 0))) ∧ Aside0 (Below w.heap.size w wr)) (fun i _ => l.length - (intOf i).toNat)
  case atStart =>
    refine ⟨0, rfl, by omega, by omega, ⟨?_⟩, ⟨((Below.refl _ _).alloc (Nat.le_refl _) _).alloc (by simp) _⟩⟩
    simp only [tot, sideSum, Int.toNat_zero, List.take_zero]
    have := blk_new (w.alloc (Obj.cells #[Value.int IntKind.i64 pl, Value.slice A l.length c] 24)) (Obj.cells #[Value.int IntKind.i64 0, Value.int IntKind.i64 0, Value.int IntKind.i64 0, Value.int IntKind.i64 0] 83)
    rwa [World.size_alloc] at this
  case round =>
    obtain ⟨k, rfl, hk0, hk, HX, HB⟩ := hrel
    have hc0 := blk_cell HX.out 0
    have hc1 := blk_cell HX.out 1
    have hc2 := blk_cell HX.out 2
    have hc3 := blk_cell HX.out 3
    simp at hc0 hc1 hc2 hc3
    have hf0 := blk_frozen HX.out 0
    have hf1 := blk_frozen HX.out 1
    have hf2 := blk_frozen HX.out 2
    have hf3 := blk_frozen HX.out 3
    by_cases hlt : k < l.length
    · have hlt' : decide (k < l.length) = true := decide_eq_true hlt
      obtain ⟨ad, e, g0, g1, g2, g3⟩ := at_T47 (Kd.C_below HR.out HB.out) k hk0 hlt
      cases e
      by_cases hbut : k = but
      · have hb1 : (k == but) = true := by simp [hbut]
        have HBUT := Aside0.mk hbut
        clear hbut
        go_wp2_with (fail)
        go_quiet (fail)
        go_wp2_with (fail)
        go_roundw
        case rel =>
          refine ⟨k + 1, rfl, by omega, by omega, ⟨?_⟩, ⟨?_⟩⟩
          · rw [tot_succ _ _ _ _ _ _ hk0 hlt, tot_succ _ _ _ _ _ _ hk0 hlt, tot_succ _ _ _ _ _ _ hk0 hlt, tot_succ _ _ _ _ _ _ hk0 hlt]
            have z : ∀ sd hi, contrib s but sd hi k (rd_T47 l k) = 0 := fun _ _ => by unfold contrib; rw [if_pos (.inl HBUT.out)]
            simp only [z, Int.add_zero]
            (with_reducible repeat (first | refine blk_drewN ?_ _ | refine blk_drew ?_ | refine blk_alloc ?_ _)); exact HX.out
          · repeat (first | exact HB.out | apply below_alloc | apply pw_below_drewN | apply below_drew1)
        case measure => simp [intOf]; omega
      · have hb1 : (k == but) = false := by simp [hbut]
        have HBUT := Aside0.mk hbut
        clear hbut
        have hgx := HG.out (rd_T47 l k) (by obtain ⟨n, rfl⟩ := Int.eq_ofNat_of_zero_le hk0; rw [rd_T45_eq _ _ (by omega)]; exact List.getElem_mem _)
        have b0 : 0 ≤ (rd_T47 l k).f0 := by unfold goodF at hgx; omega
        have b1 : 0 ≤ (rd_T47 l k).f1 := by unfold goodF at hgx; omega
        have HGX := Aside0.mk hgx
        clear hgx
        by_cases hsame : hasB s (rd_T47 l k).f0 = hasB s (rd_T47 l k).f1
        · have hs1 : (hasB s (rd_T47 l k).f0 == hasB s (rd_T47 l k).f1) = true := by simp [hsame]
          have HSAME := Aside0.mk hsame
          clear hsame
          go_wp2_with (fail)
          go_quiet ((first | (go_at_call 50; exact Calls.quiet_of_same (has_any _ _ _ b0)) | (go_at_call 50; exact Calls.quiet_of_same (has_any _ _ _ b1))))
          go_wp2_with (fail)
          go_roundw
          case rel =>
            refine ⟨k + 1, rfl, by omega, by omega, ⟨?_⟩, ⟨?_⟩⟩
            · rw [tot_succ _ _ _ _ _ _ hk0 hlt, tot_succ _ _ _ _ _ _ hk0 hlt, tot_succ _ _ _ _ _ _ hk0 hlt, tot_succ _ _ _ _ _ _ hk0 hlt]
              have z : ∀ sd hi, contrib s but sd hi k (rd_T47 l k) = 0 := fun _ _ => by unfold contrib; rw [if_pos (.inr (.inl HSAME.out))]
              simp only [z, Int.add_zero]
              (with_reducible repeat (first | refine blk_drewN ?_ _ | refine blk_drew ?_ | refine blk_alloc ?_ _)); exact HX.out
            · repeat (first | exact HB.out | apply below_alloc | apply pw_below_drewN | apply below_drew1)
          case measure => simp [intOf]; omega
        · have hs1 : (hasB s (rd_T47 l k).f0 == hasB s (rd_T47 l k).f1) = false := by simp [hsame]
          have HSAME := Aside0.mk hsame
          clear hsame
          have t0 := tot_bound s but false false pl l k hl HG.out
          have t1 := tot_bound s but false true pl l k hl HG.out
          have t2 := tot_bound s but true false pl l k hl HG.out
          have t3 := tot_bound s but true true pl l k hl HG.out
          have q0 : 0 ≤ (rd_T47 l k).f2.f0 ∧ (rd_T47 l k).f2.f0 ≤ 1073741824 := by have := HGX.out; unfold goodF at this; omega
          have q1 : 0 ≤ (rd_T47 l k).f2.f1 ∧ (rd_T47 l k).f2.f1 ≤ 1073741824 := by have := HGX.out; unfold goodF at this; omega
          by_cases hfr : hasB s (rd_T47 l k).f0 = true
          · have hto : hasB s (rd_T47 l k).f1 = false := by have := HSAME.out; rw [hfr] at this; simpa using (Ne.symm this)
            go_wp2_with (fail)
            go_quiet ((first | (go_at_call 50; exact Calls.quiet_of_same (has_any _ _ _ b0)) | (go_at_call 50; exact Calls.quiet_of_same (has_any _ _ _ b1))))
            go_wp2_with ((go_at_call 50; refine (has_any _ _ _ b0).mono ?_; rintro e w' ⟨rfl, rfl⟩))
            have hsz : w.heap.size + 1 < wr.heap.size := blk_lt HX.out
            go_region
            all_goals go_wp2_with (fail)
            all_goals go_region
            all_goals go_wp2_with (fail)
            have HFR : hasB s (rd_T47 l k).f0 = true := hfr
            go_roundw
            case rel =>
              refine ⟨k + 1, rfl, by omega, by omega, ⟨?_⟩, ⟨?_⟩⟩
              · rw [tot_succ _ _ _ _ _ _ hk0 hlt, tot_succ _ _ _ _ _ _ hk0 hlt, tot_succ _ _ _ _ _ _ hk0 hlt, tot_succ _ _ _ _ _ _ hk0 hlt]
                have hn : ¬ (k = but ∨ hasB s (rd_T47 l k).f0 = hasB s (rd_T47 l k).f1 ∨ hasB s (rd_T47 l k).f0 ≠ true) := by
                  rintro (h | h | h)
                  · exact HBUT.out h
                  · exact HSAME.out h
                  · exact h HFR
                have hz : ∀ hi, contrib s but false hi k (rd_T47 l k) = 0 := fun _ => by unfold contrib; rw [if_pos (.inr (.inr (by rw [HFR]; decide)))]
                have y0 : contrib s but true false k (rd_T47 l k) = (rd_T47 l k).f2.f0 := by unfold contrib; rw [if_neg hn]; rfl
                have y1 : contrib s but true true k (rd_T47 l k) = (rd_T47 l k).f2.f1 := by unfold contrib; rw [if_neg hn]; rfl
                simp only [hz, y0, y1, Int.add_zero]
                exact blk_put (blk_put (blk_drewN (blk_alloc HX.out _) _) 2 _ rfl) 3 _ rfl
              · have hsb : w.heap.size ≤ w.heap.size + 1 := by omega
                repeat (first | exact HB.out | apply below_alloc | apply pw_below_drewN | apply below_drew1 | refine below_set ?_ hsb)
            case measure => simp [intOf]; omega
          · have hfr : hasB s (rd_T47 l k).f0 = false := by simpa using hfr
            have hto : hasB s (rd_T47 l k).f1 = true := by have := HSAME.out; rw [hfr] at this; simpa using (Ne.symm this)
            go_wp2_with (fail)
            go_quiet ((first | (go_at_call 50; exact Calls.quiet_of_same (has_any _ _ _ b0)) | (go_at_call 50; exact Calls.quiet_of_same (has_any _ _ _ b1))))
            go_wp2_with ((go_at_call 50; refine (has_any _ _ _ b0).mono ?_; rintro e w' ⟨rfl, rfl⟩))
            have hsz : w.heap.size + 1 < wr.heap.size := blk_lt HX.out
            go_region
            all_goals go_wp2_with (fail)
            all_goals go_region
            all_goals go_wp2_with (fail)
            have HFR : hasB s (rd_T47 l k).f0 = false := hfr
            go_roundw
            case rel =>
              refine ⟨k + 1, rfl, by omega, by omega, ⟨?_⟩, ⟨?_⟩⟩
              · rw [tot_succ _ _ _ _ _ _ hk0 hlt, tot_succ _ _ _ _ _ _ hk0 hlt, tot_succ _ _ _ _ _ _ hk0 hlt, tot_succ _ _ _ _ _ _ hk0 hlt]
                have hn : ¬ (k = but ∨ hasB s (rd_T47 l k).f0 = hasB s (rd_T47 l k).f1 ∨ hasB s (rd_T47 l k).f0 ≠ false) := by
                  rintro (h | h | h)
                  · exact HBUT.out h
                  · exact HSAME.out h
                  · exact h HFR
                have hz : ∀ hi, contrib s but true hi k (rd_T47 l k) = 0 := fun _ => by unfold contrib; rw [if_pos (.inr (.inr (by rw [HFR]; decide)))]
                have y0 : contrib s but false false k (rd_T47 l k) = (rd_T47 l k).f2.f0 := by unfold contrib; rw [if_neg hn]; rfl
                have y1 : contrib s but false true k (rd_T47 l k) = (rd_T47 l k).f2.f1 := by unfold contrib; rw [if_neg hn]; rfl
                simp only [hz, y0, y1, Int.add_zero]
                exact blk_put (blk_put (blk_drewN (blk_alloc HX.out _) _) 0 _ rfl) 1 _ rfl
              · have hsb : w.heap.size ≤ w.heap.size + 1 := by omega
                repeat (first | exact HB.out | apply below_alloc | apply pw_below_drewN | apply below_drew1 | refine below_set ?_ hsb)
            case measure => simp [intOf]; omega
    · have hlt' : decide (k < l.length) = false := decide_eq_false hlt
      have hsz : w.heap.size + 1 < wr.heap.size := blk_lt HX.out
      go_wp2_with (fail)
      have ek : k = l.length := by omega
      rw [tot_all _ _ _ _ _ _ ek, tot_all _ _ _ _ _ _ ek, tot_all _ _ _ _ _ _ ek, tot_all _ _ _ _ _ _ ek] at HX
      rw [tot_all _ _ _ _ _ _ ek, tot_all _ _ _ _ _ _ ek, tot_all _ _ _ _ _ _ ek, tot_all _ _ _ _ _ _ ek]
      refine bodyPost_ret (results_cell_row rfl _ _ (w.heap.size + 1) 83 #[.int .i64 (total s but false false l), .int .i64 (total s but false true l), .int .i64 (total s but true false l), .int .i64 (total s but true true l)] (0, 0) _ rfl ?_ Try.underlying83 rfl (by kernel_rfl)) rfl ?_
      · exact blk_put (blk_put (blk_put (blk_put HX.out 0 _ rfl) 1 _ rfl) 2 _ rfl) 3 _ rfl
      · have hsb : w.heap.size ≤ w.heap.size + 1 := by omega
        exact ⟨rfl, by repeat (first | exact HB.out | refine below_set ?_ hsb)⟩
end Go.Proofs.Ytalgbihpidpblaa.Print
