/- The company settles: the walk. -/
import Derived.Test.YtnammdkpejocmaaSE
namespace Go.Proofs.Ytnammdkpejocmaa.Print
open Go.RowKit Go.Proofs.YtnammdkpejocmaaW.PrintWords Go.Proofs.YtnammdkpejocmaaW.PrintLast Go.Proofs.YtnammdkpejocmaaW.PrintMore
set_option linter.unusedVariables false
set_option linter.unusedSimpArgs false
attribute [local go_sem] max2_mx min2_mn max_two min_two

/-- What a call that writes the company's block alone does to the world. -/
def Wrote (P : Nat) (W W' : World) : Prop := W.grownBy W' (some P)
theorem wrote_trans {P : Nat} {A B C : World} (h1 : A.grownBy B (some P)) (h2 : B.grownBy C (some P)) : A.grownBy C (some P) :=
  ⟨h2.os.trans h1.os, h2.tape.trans h1.tape, h2.output.trans h1.output, Nat.le_trans h1.size h2.size, fun k hk hne => (h2.block k (Nat.lt_of_lt_of_le hk h1.size) hne).trans (h1.block k hk hne)⟩
theorem wrote_below {P : Nat} {A B : World} (h : Below A.heap.size A B) : A.grownBy B (some P) := grown_of_below h _
theorem wrote_set {P j : Nat} {A : World} (v : Value) : A.grownBy (A.setCell ⟨P, j, none⟩ v) (some P) :=
  ⟨rfl, rfl, rfl, by simp [World.setCell], fun k _ hk => Below.heap_setCell _ _ _ k (fun e => hk (by rw [e]))⟩
def cutA (g : Nat) (f L : Nat) : Option Addr := if L = f then some ⟨g, 0, none⟩ else some ⟨g, f, none⟩
theorem run_cut (g : Nat) (L cap f : Nat) (hf : f ≤ L) (hL : L ≤ cap) (hm : cap ≤ 9223372036854775807) (W : World) :
    (Instr.slice 65 (.slice (some ⟨g, 0, none⟩) L cap) (some (.int .i64 (f : Int))) (some (.int .i64 (L : Int))) (some (.int .i64 (L : Int)))).run Try.prog W = .ok (.slice (cutA g f L) (L - f) (L - f)) W := by
  have e : ∀ o, (⟨g, 0, none⟩ : Addr).add o = ⟨g, o, none⟩ := fun o => by unfold Addr.add; split <;> simp_all
  have hs : ∀ W : World, (sizeOf 3).run Try.prog W = .ok 1 W := fun W => by kernel_rfl
  have b1 : ∀ (c : BoundsCode) (W : World), (Instr.sliceBound (.int .i64 (L : Int)) cap c).run Try.prog W = .ok L W := fun c W => by simp [Instr.sliceBound, asIntOf, go_sem]; omega
  have b2 : ∀ (c : BoundsCode) (W : World), (Instr.sliceBound (.int .i64 (L : Int)) L c).run Try.prog W = .ok L W := fun c W => by simp [Instr.sliceBound, asIntOf, go_sem]
  have b3 : ∀ (c : BoundsCode) (W : World), (Instr.sliceBound (.int .i64 (f : Int)) L c).run Try.prog W = .ok f W := fun c W => by simp [Instr.sliceBound, asIntOf, go_sem]; omega
  simp [Instr.slice, Instr.sliceBounds, run_underlying Try.underlying65, b1, b2, b3, hs, e, cutA, go_sem]
  split <;> simp_all
  all_goals (try (intro h; omega))
theorem cut_done {base g cap f : Nat} {w2 W : World} {P : Nat} {a : S23} {bal : Int} {A : Option Addr} {n c : Nat} {arr M : List Int} (H : CompAt base w2 P a bal A n c arr) (ho : Kd.R (Kd.int .i64) 3 w2 W.heap.size (fun _ => True) (.slice (some ⟨g, 0, none⟩) M.length cap) M) (hW : base ≤ W.heap.size) (hf : f ≤ M.length) (gb : W.heap.size ≤ g) (gbk : ∃ cells, w2.heap[g]? = some (.cells cells 3 (0, 0))) :
    CompAt base (w2.setCell ⟨P, 7, none⟩ (.slice (cutA g f M.length) (M.length - f) (M.length - f))) P a bal (cutA g f M.length) (M.length - f) (M.length - f) (M.drop f) where
  blk := blk_put H.blk 7 _ rfl
  len := by rw [List.length_drop]
  cap := Nat.le_refl _
  ge := H.ge
  arr := fun hp => by
    rw [List.length_drop] at hp
    obtain ⟨cs, hb⟩ := gbk
    have hne : P ≠ g := blk_ne H.blk hb (by decide)
    refine ⟨g, f, cs, by unfold cutA; rw [if_neg (by omega)], Nat.le_trans hW gb, (Below.heap_setCell w2 ⟨P, 7, none⟩ _ g (fun e => hne e.symm)).trans hb, fun i hi => ?_⟩
    rw [List.length_drop] at hi
    obtain ⟨ad, e, hc⟩ := Kd.at_int (Kd.R_reads' ho).2.2 ((f + i : Nat) : Int) (by omega) (by omega)
    cases e
    have e : ∀ o, (⟨g, 0, none⟩ : Addr).add o = ⟨g, o, none⟩ := fun o => by unfold Addr.add; split <;> simp_all
    rw [Int.toNat_natCast, e, blk_cell hb] at hc
    rw [hc]
    have e2 : ((f : Int) + (i : Int)).toNat = f + i := by omega
    simp [rd, List.getD_eq_getElem?_getD, List.getElem?_drop, e2]
theorem R_cap {w : World} {base g n cap : Nat} {xs : List Int} {ok : Nat → Prop} (h : Kd.R (Kd.int .i64) 3 w base ok (.slice (some ⟨g, 0, none⟩) n cap) xs) : cap ≤ 9223372036854775807 := by
  obtain ⟨inner, ho⟩ := Kd.R_own h
  rcases ho.2 with ⟨e, _⟩ | ⟨g', c', cur, e, _, _, _, hm, _⟩
  · cases e
  · cases e
    simpa [maxLen] using hm
def SetPost (base : Nat) (W : World) (P : Nat) (a : S23) (bal : Int) (r : List Int) (e : Ending) (w' : World) : Prop := e = .returned (.tuple #[]) ∧ W.grownBy w' (some P) ∧ ∃ A n c, CompAt base w' P a bal A n c r
def SetLoop (W wr : World) (n : Nat) (arr : List Int) (p0 : Int) (pv nv iv : Value) : Prop :=
  ∃ k : Nat, iv = .int .i64 (k : Int) ∧ k ≤ n ∧ pv = .int .i64 (payR (arr.take k) p0) ∧ (∃ A c, nv = .slice A k c) ∧ Aside0 (Kd.R (Kd.int .i64) 3 wr W.heap.size (fun _ => True) nv (payL (arr.take k) p0)) ∧ Aside0 (Below W.heap.size W wr)
theorem set_next {W w2 : World} {n : Nat} {arr L : List Int} {p0 q m x : Int} {k cc2 : Nat} {A2 : Option Addr} (hk : k < n) (HQ : payR (arr.take (k + 1)) p0 = q - m) (HN : payL (arr.take (k + 1)) p0 = L ++ [x - m]) (hL : L.length = k)
    (ho : Kd.R (Kd.int .i64) 3 w2 W.heap.size (fun _ => True) (.slice A2 (L ++ [x - m]).length cc2) (L ++ [x - m])) (hb : Below W.heap.size W w2) : SetLoop W w2 n arr p0 (.int .i64 (q - m)) (.slice A2 (L.length + 1) cc2) (.int .i64 ((k : Int) + 1)) := by
  have e : (L ++ [x - m]).length = L.length + 1 := by simp
  rw [e] at ho
  exact ⟨k + 1, by go_num, hk, by rw [HQ], ⟨A2, cc2, by rw [hL]⟩, ⟨by rw [HN]; exact ho⟩, ⟨hb⟩⟩
set_option maxHeartbeats 4000000 in
theorem settle_any (base : Nat) (W : World) (P : Nat) (a : S23) (bal : Int) (A : Option Addr) (n c : Nat) (arr : List Int) (due paid : Int) (h : CompAt base W P a bal A n c arr) (ha : actB a = true) (hn : n ≤ 100) (hb : ∀ x ∈ arr, 0 ≤ x ∧ x ≤ 1099511627776) (hdue : 0 ≤ due ∧ due ≤ 1099511627776) (hpaid : 0 ≤ paid ∧ paid ≤ 1125899906842624) :
    Calls Try.prog 47 #[.pointer (some ⟨P, 0, none⟩), .int .i64 due, .int .i64 paid] W (SetPost base W P a bal (settleL a.f5 arr due paid)) := by
  obtain ⟨_, _, _, _, _, _, _, _, _, _, ak0, ak1⟩ := act_of ha
  have H := Aside0.mk h
  have c7 := cell_two h.blk 7 rfl
  have HL := Aside0.mk h.len
  have HB := Aside0.mk hb
  have w1 : wrap64 (due - paid) = due - paid := by unfold wrap64; omega
  have w2 : wrap64 (paid - due) = paid - due := by unfold wrap64; omega
  have hP := blk_lt h.blk
  obtain ⟨p0, hp0⟩ : ∃ p0, p0 = mx 0 (paid - due) := ⟨_, rfl⟩
  obtain ⟨own, hown⟩ : ∃ own, own = mx 0 (due - paid) := ⟨_, rfl⟩
  have p0b : 0 ≤ p0 ∧ p0 ≤ 1125899906842624 := by rw [hp0]; unfold mx; split <;> omega
  have e1 := hp0.symm
  have e2 := hown.symm
  clear h hb hp0 hown
  go_enter Try.func47, Try.ntmps47
  go_wp2_with ((with_reducible refine gate_dst (N := 26) rfl ?_); refine R_make0 (w0 := W) W.heap.size rfl (N := 26) rfl _ _ rfl n rfl rfl (by omega) (Below.refl _ _) (Nat.le_refl _) ?_; intro v1 W1 ho hb hg; have HO1 := Aside0.mk ho; have HB1 := Aside0.mk hb; have H1 := Aside0.mk (H.out.below (Below.grown (Below.refl _ _) hg (Nat.le_refl _) (fun k e => by cases e))); obtain ⟨A1, cc1, rfl⟩ := Kd.R_slice ho; have d7 := cell_two H1.out.blk 7 rfl; clear ho hb hg)
  go_loopw [2, 7, 32] (fun pv nv iv wr => SetLoop W wr n arr p0 pv nv iv) (fun _ _ iv _ => n - (intOf iv).toNat)
  case atStart => exact ⟨0, rfl, by omega, rfl, ⟨_, _, rfl⟩, HO1, HB1⟩
  case round =>
    clear HO1 HB1 H1 d7
    obtain ⟨k, rfl, hk, rfl, ⟨An, cn, rfl⟩, HR, HBw⟩ := hrel
    have Hw := Aside0.mk (H.out.below HBw.out)
    have hpl : (payL (arr.take k) p0).length = k := by rw [payL_len, List.length_take, HL.out]; omega
    have HPL := Aside0.mk hpl
    by_cases hlt : k < n
    · have hlt' : decide ((k : Int) < (n : Int)) = true := decide_eq_true (by omega)
      obtain ⟨g, o, e, hc⟩ := Hw.out.arr.at_ k (by rw [HL.out]; exact hlt)
      subst e
      have HT := Aside0.mk (rd_take_eq arr k (by rw [HL.out]; exact hlt))
      have hx := HB.out (rd arr (k : Int)) (by
        have e : rd arr (k : Int) = arr[k]'(by rw [HL.out]; exact hlt) := by simp [rd, List.getD_eq_getElem?_getD, HL.out, hlt]
        rw [e]; exact List.getElem_mem _)
      have hp := payR_bounds (arr.take k) p0 (fun x hx => (HB.out x (List.mem_of_mem_take hx)).1) p0b.1
      generalize hq : payR (arr.take k) p0 = q at hp ⊢
      generalize hxx : rd arr (k : Int) = x at hx hc
      generalize hL : payL (arr.take k) p0 = L at HR HPL
      obtain ⟨m, hm⟩ : ∃ m, m = mn q x := ⟨_, rfl⟩
      have HQ : Aside0 (payR (arr.take (k + 1)) p0 = q - m) := ⟨by rw [HT.out, payR_append, hq, hxx, hm]; rfl⟩
      have HN : Aside0 (payL (arr.take (k + 1)) p0 = L ++ [x - m]) := ⟨by rw [HT.out, payL_append, hq, hxx, hL, hm]; rfl⟩
      have hmb : m ≤ x ∧ m ≤ q := by rw [hm]; unfold mn; split <;> omega
      have hm' := hm.symm
      have hm0 : 0 ≤ m := by rw [hm]; unfold mn; split <;> omega
      have w3 : wrap64 (x - m) = x - m := by unfold wrap64; omega
      have w4 : wrap64 (q - m) = q - m := by unfold wrap64; omega
      clear hq hxx hm hL hpl HT
      have hln : (L.length + 1) * 8 ≤ 140737488355328 := by rw [HPL.out]; omega
      go_wp2_with ((with_reducible refine gate_builtin (b := .append) (xs := #[.tmp 39, .tmp 43]) rfl ?_); at_builtin; refine Kd.R_append (Kd.int .i64) (w0 := W) W.heap.size rfl (.tmp 39) (.tmp 43) 65 3 (.int .i64 0) 8 rfl Try.underlying65 info3 rfl (by decide) (by omega) (.slice An k cn) L (x - m) [.int .i64 (x - m)] (fun _ => True) (fun _ => False) rfl rfl rfl (fun _ hk => hk.elim) (fun _ _ => trivial) HR.out HBw.out HBw.out.size hln ?_; intro v2 w2 ho hb hg hat; obtain ⟨A2, cc2, rfl⟩ := Kd.R_slice ho; have HO2 := Aside0.mk ho; have HB2 := Aside0.mk hb; clear ho hb hg hat)
      exact ⟨set_next hlt HQ.out HN.out HPL.out HO2.out HB2.out, by simp [intOf]; omega⟩
    · have hlt' : decide ((k : Int) < (n : Int)) = false := decide_eq_false (by omega)
      have ek : k = n := by omega
      have HT : Aside0 (arr.take k = arr) := ⟨List.take_of_length_le (by rw [HL.out]; omega)⟩
      generalize hL : payL (arr.take k) p0 = L at HR HPL
      have hLn : L.length = k := HPL.out
      obtain ⟨f, hf⟩ : ∃ f : Nat, mx 0 ((L.length : Int) + 1 - a.f5) = (f : Int) := Int.eq_ofNat_of_zero_le (by unfold mx; split <;> omega)
      have hfl : f ≤ L.length + 1 := by unfold mx at hf; split at hf <;> omega
      have w5 : wrap64 ((L.length : Int) + 1 - a.f5) = (L.length : Int) + 1 - a.f5 := by unfold wrap64; omega
      have HF : Aside0 (settleL a.f5 arr due paid = (L ++ [own]).drop f) := ⟨by
        unfold settleL nextL
        rw [e1, e2, ← hL, HT.out, show (arr.length : Int) = (L.length : Int) by rw [HL.out, hLn, ek], hf, Int.toNat_natCast]⟩
      clear hL hpl
      have hln : (L.length + 1) * 8 ≤ 140737488355328 := by omega
      have HLn := Aside0.mk hLn
      clear hLn
      go_wp2_with ((with_reducible refine gate_builtin (b := .append) (xs := #[.tmp 49, .tmp 51]) rfl ?_); at_builtin; refine Kd.R_append (Kd.int .i64) (w0 := W) W.heap.size rfl (.tmp 49) (.tmp 51) 65 3 (.int .i64 0) 8 rfl Try.underlying65 info3 rfl (by decide) (by omega) (.slice An k cn) L own [.int .i64 own] (fun _ => True) (fun _ => False) rfl rfl rfl (fun _ hk => hk.elim) (fun _ _ => trivial) HR.out HBw.out HBw.out.size hln ?_; intro v2 w2 ho hb hg hat; obtain ⟨g2, cap2, rfl, gb0, gl0, gbk⟩ := Kd.R_form ho (by simp); have HO2 := Aside0.mk ho; have HB2 := Aside0.mk hb; have GB := Aside0.mk gb0; have GK := Aside0.mk gbk; have H2 := Aside0.mk (H.out.below hb); have d7 := cell_two H2.out.blk 7 rfl; have d5 := cell_two H2.out.blk 5 rfl; have f7 := blk_frozen H2.out.blk 7; have hcut := run_cut g2 (L.length + 1) cap2 f hfl (by have := (Kd.R_reads' ho).2.1; simpa using this) (R_cap ho); simp only [Int.natCast_add, Int.natCast_one] at hcut; clear ho hb hg hat gb0 gl0 gbk)
      have hcd := cut_done H2.out HO2.out (Nat.le_trans H.out.ge (by omega)) (f := f) (by simpa using hfl) GB.out GK.out
      have el : (L ++ [own]).length = L.length + 1 := by simp
      rw [el, ← HF.out] at hcd
      have HC := Aside0.mk hcd
      clear hcd el
      go_end0
      exact ⟨rfl, wrote_trans (wrote_below HB2.out) (wrote_set _), _, _, _, HC.out⟩
end Go.Proofs.Ytnammdkpejocmaa.Print
