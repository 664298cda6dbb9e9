/- ScaleMore: the closure that runs with another profit. -/
import Derived.Test.YtnammdkpejocmaaWM
import Derived.Test.YtnammdkpejocmaaHZ
import Derived.Test.YtnammdkpejocmaaSM
namespace Go.Proofs.Ytnammdkpejocmaa.Print
open Go.RowKit Go.Proofs.YtnammdkpejocmaaW.PrintWords Go.Proofs.YtnammdkpejocmaaW.PrintLast Go.Proofs.YtnammdkpejocmaaW.PrintMore
set_option linter.unusedVariables false
set_option linter.unusedSimpArgs false
attribute [local go_sem] Oper.semAt_some
theorem M_of_Y47 {w W : World} {base : Nat} {ok : Nat → Prop} (x : S47) (cs : List Value) (h : k47.K w x cs) : k47.M W base ok x cs := by rw [k47_open h]; exact k47_mkM _ _ _ _
theorem year_cells {W : World} {b g cap n I : Nat} {l : List S47} (h : Kd.R k47 47 W b (fun _ => True) (.slice (some ⟨g, 0, none⟩) n cap) l) (hI : I < n) :
    W.cell? ⟨g, I * 3, none⟩ = some (.int .i64 (rd_T47 l I).f0) ∧ W.cell? ⟨g, I * 3 + 1, none⟩ = some (.int .i64 (rd_T47 l I).f1) ∧ W.cell? ⟨g, I * 3 + 2, none⟩ = some (.int .i64 (rd_T47 l I).f2) := by
  obtain ⟨hn, hc, hC⟩ := Kd.R_reads' h
  obtain ⟨ad, e, p0, p1, p2⟩ := at_T47 hC I (by omega) (by omega)
  cases e
  have e0 : (⟨g, 0, none⟩ : Addr).add ((I : Int).toNat * 3) = ⟨g, I * 3, none⟩ := by
    have e1 : (I : Int).toNat = I := by omega
    rw [e1]
    unfold Addr.add
    split <;> simp_all
  rw [e0] at p0 p1 p2
  exact ⟨p0, p1, p2⟩
theorem year_set {W : World} {b g cap n I : Nat} {l : List S47} (v : Int) (h : Kd.R k47 47 W b (fun _ => True) (.slice (some ⟨g, 0, none⟩) n cap) l) (hI : I < n) :
    Kd.R k47 47 (W.setCell ⟨g, I * 3 + 2, none⟩ (.int .i64 v)) b (fun _ => True) (.slice (some ⟨g, 0, none⟩) n cap) (putY l I v) := by
  have hc : ∀ j u, ([.int .i64 (rd_T47 l I).f0, .int .i64 (rd_T47 l I).f1, .int .i64 (rd_T47 l I).f2] : List Value)[j]? = some u → W.cell? ⟨g, (I : Int).toNat * k47.sz + j, none⟩ = some u := by
    intro j u hj
    have hj6 : j < 3 := by
      have := (List.getElem?_eq_some_iff.1 hj).1
      simpa using this
    obtain ⟨h0, h1, h2⟩ := year_cells h hI
    have e1 : (I : Int).toNat = I := by omega
    rw [e1]
    match j, hj6, hj with
    | 0, _, hj => exact h0.trans hj
    | 1, _, hj => exact h1.trans hj
    | 2, _, hj => exact h2.trans hj
  have hs := Kd.R_seg h (I : Int) (by omega) (by omega) (c := [.int .i64 (rd_T47 l I).f0, .int .i64 (rd_T47 l I).f1, .int .i64 (rd_T47 l I).f2]) (seg := [.int .i64 v]) (j := 2) rfl hc (by show 2 + 1 ≤ 3; omega) (x' := ⟨(rd_T47 l I).f0, (rd_T47 l I).f1, v⟩) (okp := fun _ => False)
    (k47_mkM _ _ _ _) (fun _ hk => hk.elim)
  have e1 : (I : Int).toNat = I := by omega
  rw [e1] at hs
  exact hs.1
set_option maxHeartbeats 4000000 in
set_option maxRecDepth 100000 in
theorem more_with (a : S23) (A1 : Option Addr) (c1 : Nat) (l : List S47) (k : Nat) (pr : Int) (w : World) (BL BK BA : Nat)
    (hL : w.heap[BL]? = some (.cells #[.slice A1 l.length c1] 29 (0, 0))) (hK : w.heap[BK]? = some (.cells #[.int .i64 (k : Int)] 3 (0, 0)))
    (hA : w.heap[BA]? = some (.cells #[.int .i64 a.f0, .int .i64 a.f1, .int .i64 a.f2, .int .i64 a.f3, .int .i64 a.f4, .int .i64 a.f5] 23 (0, 0)))
    (hr : Kd.C k47 w A1 l.length l) (hc : l.length ≤ c1) (hk : k < l.length) (h16 : l.length ≤ 16) (he : errY a (putY l k pr) = 0) :
    Calls Try.prog 24 #[.int .i64 pr, .pointer (some ⟨BL, 0, none⟩), .pointer (some ⟨BK, 0, none⟩), .pointer (some ⟨BA, 0, none⟩)] w fun e w' => ∃ A c, e = .returned (.tuple #[.slice A l.length c, .bool true]) ∧ l.length ≤ c ∧ Kd.C k45 w' A l.length (runP a 0 [] (putY l k pr)) ∧ Below w.heap.size w w' := by
  have HL := Aside0.mk hL
  have HK := Aside0.mk hK
  have HA := Aside0.mk hA
  have HR := Aside0.mk hr
  have hpl := putY_len l k pr
  have hrl := runP_len a 0 [] (putY l k pr)
  have HRun : Aside0 (∀ (W : World) (A : Option Addr) (c : Nat), Kd.C k47 W A l.length (putY l k pr) → l.length ≤ c → Calls Try.prog 15 #[actV a, .slice A l.length c] W (fun e w' => ∃ (A' : Option Addr) (c' : Nat), e = .returned (.tuple #[.slice A' l.length c', .int .i64 0]) ∧ l.length ≤ c' ∧ Kd.C k45 w' A' l.length (runP a 0 [] (putY l k pr)) ∧ Below W.heap.size W w')) := ⟨fun W A c h1 h2 => by
    have := Run_any a A c (putY l k pr) W (by rw [hpl]; exact h1) (by rw [hpl]; exact h2)
    unfold runS at this
    rw [if_pos he, hpl] at this
    refine this.mono ?_
    rintro e w' ⟨v0, rfl, hv, hb⟩
    obtain ⟨A', c', rfl, hc', hC'⟩ := Kd.R_reads hv
    rw [hrl, hpl] at hc' hC'
    refine ⟨A', c', ?_, hc', hC', hb⟩
    rw [hrl, hpl]⟩
  have HZ := Aside0.mk (Below.refl w.heap.size w)
  have hln : (([] : List S47).length + l.length) * 24 ≤ 140737488355328 := by simp; omega
  have b0 : w.cell? ⟨BL, 0, none⟩ = some (.slice A1 l.length c1) := cell_two hL 0 rfl
  clear hL hK hA hr hpl hrl he
  go_enter Try.func24, Try.ntmps24
  go_upto_region 3 with (first
    | ((with_reducible refine gate_dst (N := 10) rfl ?_); refine Kd.R_lit k47 (w0 := w) w.heap.size 47 ?hg (N := 10) ?hd (xs := ([] : List S47)) (inner := []) (ok := fun _ => True) (okp := fun _ => False) ?hr (Reps.none _ _) (fun _ hk => hk.elim) trivial HZ.out HZ.out.size (by simp) ?_; (case hd => rfl); (case hg => rfl); (case hr => first | (go_simp; done) | (go_simp; rfl)); intro v1 W2 ho hb hg hnew; have HE2 := Aside0.mk ho; have HB2 := Aside0.mk hb; clear b0; have b0 : W2.cell? ⟨BL, 0, none⟩ = some (.slice A1 l.length c1) := cell_two (blk_below HL.out hb) 0 rfl; clear ho hb hg hnew)
    | ((with_reducible refine gate_builtin (b := .append) (xs := #[.tmp 10, .tmp 11]) rfl ?_); at_builtin; refine Kd.R_append_rows k47 (w0 := w) w.heap.size rfl (.tmp 10) (.tmp 11) 29 47 (.agg #[.int .i64 0, .int .i64 0, .int .i64 0]) 24 rfl Try.underlying29 info47 rfl (by decide) (by omega) v1 [] l A1 l.length c1 (fun _ => True) (fun _ => False) rfl rfl HE2.out (Kd.C_below HR.out HB2.out) (fun x cs hK => M_of_Y47 x cs hK) (fun _ hk => hk.elim) (fun _ _ => trivial) HB2.out HB2.out.size hln ?_; intro v2 W3 ho hb hg hat; rw [List.nil_append] at ho; obtain ⟨g, cap, rfl, gb0, gl0, gcs, gbk⟩ := Kd.R_form ho (by omega); have HF3 := Aside0.mk ho; have HB3 := Aside0.mk hb; have GB3 := Aside0.mk gb0; have b1 : W3.cell? ⟨BK, 0, none⟩ = some (.int .i64 (k : Int)) := cell_two (blk_below HK.out hb) 0 rfl; obtain ⟨_, _, d2⟩ := year_cells ho hk; have f2 := blk_frozen gbk (k * 3 + 2); have i0 : (0 : Int) ≤ (k : Int) := Int.natCast_nonneg k; have i1 : (k : Int) < (l.length : Int) := by omega
       clear ho hb hg hat gb0 gl0 gbk b0))
  have HF4 := Aside0.mk (year_set pr HF3.out hk)
  have HB4 := Aside0.mk (HB3.out.setCell GB3.out (p := ⟨g, k * 3 + 2, none⟩) (.int .i64 pr))
  clear d2 f2 i0 i1 b1 HF3 HB3
  generalize W3.setCell ⟨g, k * 3 + 2, none⟩ (.int .i64 pr) = W4 at HF4 HB4 ⊢
  have HC4 : Aside0 (Kd.C k47 W4 (some ⟨g, 0, none⟩) l.length (putY l k pr)) := ⟨by have := (Kd.R_reads' HF4.out).2.2; rwa [putY_len] at this⟩
  have hcap : l.length ≤ cap := (Kd.R_reads' HF4.out).2.1
  have s0 : W4.cell? ⟨BA, 0, none⟩ = some (.int .i64 a.f0) := cell_two (blk_below HA.out HB4.out) 0 rfl
  have s1 : W4.cell? ⟨BA, 1, none⟩ = some (.int .i64 a.f1) := cell_two (blk_below HA.out HB4.out) 1 rfl
  have s2 : W4.cell? ⟨BA, 2, none⟩ = some (.int .i64 a.f2) := cell_two (blk_below HA.out HB4.out) 2 rfl
  have s3 : W4.cell? ⟨BA, 3, none⟩ = some (.int .i64 a.f3) := cell_two (blk_below HA.out HB4.out) 3 rfl
  have s4 : W4.cell? ⟨BA, 4, none⟩ = some (.int .i64 a.f4) := cell_two (blk_below HA.out HB4.out) 4 rfl
  have s5 : W4.cell? ⟨BA, 5, none⟩ = some (.int .i64 a.f5) := cell_two (blk_below HA.out HB4.out) 5 rfl
  go_wp2_with (go_at_call 15; refine (HRun.out W4 _ _ HC4.out hcap).mono ?_; rintro e W5 ⟨A5, c5, rfl, hc5, hC5, hb⟩; have HC5 := Aside0.mk hC5; have Hc5 := Aside0.mk hc5; have HB5 := Aside0.mk (bl_next' HB4.out hb); clear hc5 hC5 hb s0 s1 s2 s3 s4 s5; have b1 : W5.cell? ⟨BL, 0, none⟩ = some (.slice A1 l.length c1) := cell_two (blk_below HL.out HB5.out) 0 rfl)
  go_big_region
  go_wp2_with (fail)
  go_ret2
  exact ⟨A5, c5, rfl, Hc5.out, Kd.C_drew HC5.out, HB5.out.drew⟩
end Go.Proofs.Ytnammdkpejocmaa.Print
