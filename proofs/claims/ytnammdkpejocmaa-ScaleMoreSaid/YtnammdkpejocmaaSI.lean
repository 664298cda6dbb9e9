/- All years of a company, in their order; its iterator. -/
import Derived.Test.YtnammdkpejocmaaSH
import Derived.Test.YtnammdkpejocmaaRG
namespace Go.Proofs.Ytnammdkpejocmaa.Print
open Go.RowKit Go.Shelf Go.Proofs.YtnammdkpejocmaaW.PrintWords Go.Proofs.YtnammdkpejocmaaW.PrintLast Go.Proofs.YtnammdkpejocmaaW.PrintMore
set_option linter.unusedVariables false
set_option linter.unusedSimpArgs false
attribute [local go_sem] Oper.semAt_some

def runP (a : S23) : Int → List Int → List S47 → List S45
  | _, _, [] => []
  | b, r, y :: l => (yearP a b r y).p :: runP a (yearP a b r y).bal (yearP a b r y).arr l
def endP (a : S23) : Int → List Int → List S47 → Int × List Int
  | b, r, [] => (b, r)
  | b, r, y :: l => endP a (yearP a b r y).bal (yearP a b r y).arr l
theorem runP_len (a : S23) : ∀ (b : Int) (r : List Int) (l : List S47), (runP a b r l).length = l.length
  | _, _, [] => rfl
  | b, r, y :: l => by simp only [runP, List.length_cons, runP_len a]
theorem runP_append (a : S23) : ∀ (b : Int) (r : List Int) (l m : List S47), runP a b r (l ++ m) = runP a b r l ++ runP a (endP a b r l).1 (endP a b r l).2 m
  | _, _, [], m => by simp [runP, endP]
  | b, r, y :: l, m => by simp only [List.cons_append, runP, endP, runP_append a]
theorem endP_append (a : S23) : ∀ (b : Int) (r : List Int) (l m : List S47), endP a b r (l ++ m) = endP a (endP a b r l).1 (endP a b r l).2 m
  | _, _, [], m => by simp [endP]
  | b, r, y :: l, m => by simp only [List.cons_append, endP, endP_append a]
theorem take_rd (l : List S47) (k : Nat) (h : k < l.length) : l.take (k + 1) = l.take k ++ [rd_T47 l k] := by
  rw [List.take_succ_eq_append_getElem h, rd_T47_eq l k h]
theorem endP_take (a : S23) (l : List S47) (k : Nat) (h : k < l.length) : endP a 0 [] (l.take (k + 1)) = ((yearP a (endP a 0 [] (l.take k)).1 (endP a 0 [] (l.take k)).2 (rd_T47 l k)).bal, (yearP a (endP a 0 [] (l.take k)).1 (endP a 0 [] (l.take k)).2 (rd_T47 l k)).arr) := by
  rw [take_rd l k h, endP_append]
  rfl
theorem runP_take (a : S23) (l : List S47) (k : Nat) : runP a 0 [] (l.take k) = (runP a 0 [] l).take k := by
  by_cases hk : k ≤ l.length
  · have h := runP_append a 0 [] (l.take k) (l.drop k)
    rw [List.take_append_drop] at h
    rw [h]
    exact (List.take_left' (by rw [runP_len, List.length_take]; omega)).symm
  · rw [List.take_of_length_le (by omega), List.take_of_length_le (by rw [runP_len]; omega)]
theorem runP_rd (a : S23) (l : List S47) (k : Nat) (h : k < l.length) : rd_T45 (runP a 0 [] l) k = (yearP a (endP a 0 [] (l.take k)).1 (endP a 0 [] (l.take k)).2 (rd_T47 l k)).p := by
  have h1 := runP_append a 0 [] (l.take k) (l.drop k)
  rw [List.take_append_drop] at h1
  have hd : l.drop k = rd_T47 l k :: l.drop (k + 1) := by rw [List.drop_eq_getElem_cons h, rd_T47_eq l k h]
  rw [hd] at h1
  have e : (runP a 0 [] (l.take k)).length = k := by rw [runP_len, List.length_take]; omega
  rw [h1]
  simp only [rd_T45, Int.toNat_natCast, List.getD_eq_getElem?_getD]
  rw [List.getElem?_append_right (by omega), e, Nat.sub_self]
  rfl
/-- What the iterator yields. -/
def fullL (a : S23) (l : List S47) : List (Nat × S45) := (List.range l.length).map fun k => (k, rd_T45 (runP a 0 [] l) k)
theorem fullL_len (a : S23) (l : List S47) : (fullL a l).length = l.length := by simp [fullL]
theorem fullL_take (a : S23) (l : List S47) (k : Nat) (h : k < l.length) : (fullL a l).take (k + 1) = (fullL a l).take k ++ [(k, rd_T45 (runP a 0 [] l) k)] := by
  rw [List.take_succ_eq_append_getElem (by rw [fullL_len]; exact h)]
  simp [fullL]
theorem year_keeps (a : S23) (b : Int) (r : List Int) (y : S47) (k : Int) (ha : actB a = true) (hy : badY y = false) (hr : ∀ x ∈ r, 0 ≤ x ∧ x ≤ 1099511627776) (hb : -(k * 1099511627776) ≤ b ∧ b ≤ k * 1099511627776) :
    (∀ x ∈ (yearP a b r y).arr, 0 ≤ x ∧ x ≤ 1099511627776) ∧ (yearP a b r y).arr.length ≤ 5 ∧ -((k + 1) * 1099511627776) ≤ (yearP a b r y).bal ∧ (yearP a b r y).bal ≤ (k + 1) * 1099511627776 := by
  obtain ⟨y0, y1, y2, y3, y4, y5⟩ := year_of hy
  obtain ⟨_, _, d2, d3⟩ := due_bounds (a := a) y2 y3
  obtain ⟨_, _, _, _, _, _, _, _, m0, m1, k0, k1⟩ := act_of ha
  have hs := sumI_bounds 1099511627776 r hr
  have e : (k + 1) * 1099511627776 = k * 1099511627776 + 1099511627776 := by omega
  obtain ⟨s1, s2⟩ := settle_bounds a.f5 r (dueP a y) (mx 0 (mn (dueP a y + sumI r) (b + y.f2))) hr ⟨d2, d3⟩ (by unfold mx; split <;> omega)
  refine ⟨s1, ?_, ?_, ?_⟩
  · show (settleL a.f5 r (dueP a y) _).length ≤ 5
    unfold settleL nextL
    rw [List.length_drop, List.length_append, payL_len]
    simp only [List.length_cons, List.length_nil]
    unfold mx
    split <;> omega
  · show _ ≤ (b + y.f2 - mx 0 (mn (dueP a y + sumI r) (b + y.f2))) - mx 0 ((b + y.f2 - mx 0 (mn (dueP a y + sumI r) (b + y.f2))) - a.f4)
    rw [e]
    generalize dueP a y + sumI r = q
    unfold mx mn
    repeat' split
    all_goals omega
  · show (b + y.f2 - mx 0 (mn (dueP a y + sumI r) (b + y.f2))) - mx 0 ((b + y.f2 - mx 0 (mn (dueP a y + sumI r) (b + y.f2))) - a.f4) ≤ _
    rw [e]
    generalize hq : dueP a y + sumI r = q
    have hq0 : 0 ≤ q := by omega
    unfold mx mn
    repeat' split
    all_goals omega
theorem end_keeps (a : S23) (l : List S47) (ha : actB a = true) (hl : l.any badY = false) : ∀ k : Nat, k ≤ l.length → (∀ x ∈ (endP a 0 [] (l.take k)).2, 0 ≤ x ∧ x ≤ 1099511627776) ∧ (endP a 0 [] (l.take k)).2.length ≤ 5 ∧ -((k : Int) * 1099511627776) ≤ (endP a 0 [] (l.take k)).1 ∧ (endP a 0 [] (l.take k)).1 ≤ (k : Int) * 1099511627776
  | 0, _ => by simp [endP]
  | k + 1, h => by
    obtain ⟨h1, h2, h3, h4⟩ := end_keeps a l ha hl k (by omega)
    have hy : badY (rd_T47 l k) = false := by
      rw [rd_T47_eq l k (by omega)]
      have := List.any_eq_false.1 hl (l[k]'(by omega)) (List.getElem_mem _)
      simpa using this
    have := year_keeps a _ _ (rd_T47 l k) k ha hy h1 ⟨h3, h4⟩
    rw [endP_take a l k (by omega)]
    have e : ((k + 1 : Nat) : Int) = (k : Int) + 1 := by omega
    rw [e]
    exact this
end Go.Proofs.Ytnammdkpejocmaa.Print

namespace Go.Proofs.Ytnammdkpejocmaa.Print
open Go.RowKit Go.Shelf Go.Proofs.YtnammdkpejocmaaW.PrintWords Go.Proofs.YtnammdkpejocmaaW.PrintLast Go.Proofs.YtnammdkpejocmaaW.PrintMore
set_option linter.unusedVariables false
set_option linter.unusedSimpArgs false
attribute [local go_sem] Oper.semAt_some

abbrev payV (p : S45) : Value := .agg #[.int .i64 p.f0, .int .i64 p.f1, .int .i64 p.f2, .int .i64 p.f3, .int .i64 p.f4, .int .i64 p.f5]
abbrev encY (x : Nat × S45) : Array Value := #[.int .i64 (x.1 : Int), payV x.2]
/-- What the iterator does: it writes the company's block, and new ones. -/
def EfP (P : Nat) (W W' : World) : Prop := W.grownBy W' (some P) ∧ (∃ cs, W.heap[P]? = some (.cells cs 67 (0, 0))) ∧ (∃ cs, W'.heap[P]? = some (.cells cs 67 (0, 0)))
/-- What a round keeps. -/
structure KpB (B : Nat) (W W' : World) : Prop where
  bel : Below B W W'
  typed : ∀ (b : Nat) (cs : Array Value) (t : TypeId), W.heap[b]? = some (.cells cs t (0, 0)) → t ≠ 30 → t ≠ 45 → W'.heap[b]? = some (.cells cs t (0, 0))
theorem KpB.trans {B : Nat} {X Y Z : World} (h : KpB B X Y) (k : KpB B Y Z) : KpB B X Z := ⟨h.bel.trans k.bel, fun b cs t e h1 h2 => k.typed b cs t (h.typed b cs t e h1 h2) h1 h2⟩
def preY (a : S23) (l : List S47) (pre : List (Nat × S45)) (x : Nat × S45) : Prop := ∃ k : Nat, k < l.length ∧ pre = (fullL a l).take k ∧ x = (k, rd_T45 (runP a 0 [] l) k)
/-- The state behind some years. -/
def HasY (B : Nat) (P : Nat) (a : S23) (s : Int × List Int) (W : World) : Prop := ∃ A n c, CompAt B W P a s.1 A n c s.2
theorem CompAt.kept {B : Nat} {W W' : World} {P : Nat} {a : S23} {bal : Int} {A : Option Addr} {n c : Nat} {arr : List Int} (h : CompAt B W P a bal A n c arr) (hk : KpB B W W') : CompAt B W' P a bal A n c arr where
  blk := hk.typed _ _ _ h.blk (by decide) (by decide)
  len := h.len
  cap := h.cap
  arr := h.arr.kept (fun g cs hg => hk.typed _ _ _ hg (by decide) (by decide))
  ge := h.ge
def YearsLoop (a : S23) (l : List S47) (w0 : World) (P BC BL : Nat) (A : Option Addr) (c : Nat) (J : List (Nat × S45) → World → Prop) (iv : Value) (wr : World) : Prop :=
  ∃ k : Nat, iv = .int .i64 (k : Int) ∧ k ≤ l.length ∧ Aside0 (J ((fullL a l).take k) wr) ∧ Aside0 (HasY w0.heap.size P a (endP a 0 [] (l.take k)) wr) ∧ Aside0 (wr.heap[BC]? = some (.cells #[.pointer (some ⟨P, 0, none⟩)] 64 (0, 0))) ∧ Aside0 (wr.heap[BL]? = some (.cells #[.slice A l.length c] 29 (0, 0))) ∧ Aside0 (Below w0.heap.size w0 wr)

theorem years_ef {B P : Nat} {wr W1 : World} {a : S23} {b b' : Int} {A A' : Option Addr} {n n' c c' : Nat} {r r' : List Int} {o : Obj} (h : CompAt B wr P a b A n c r) (hg : (wr.alloc o).grownBy W1 (some P)) (h' : CompAt B W1 P a b' A' n' c' r') : EfP P wr W1 :=
  ⟨wrote_trans (wrote_below (below_alloc (Below.refl _ _) o)) hg, ⟨_, h.blk⟩, ⟨_, h'.blk⟩⟩
theorem years_below {P : Nat} {w0 wr W1 : World} (hb : Below w0.heap.size w0 wr) (h : EfP P wr W1) (hP : w0.heap.size ≤ P) : Below w0.heap.size w0 W1 :=
  hb.grown h.1 hb.size (fun k e => by injection e with e; omega)

set_option maxHeartbeats 4000000 in
set_option maxRecDepth 100000 in
theorem years_seq (n : Nat) (a : S23) (l : List S47) (w0 W : World) (P BC BL : Nat) (A : Option Addr) (c : Nat) (hn : 1 ≤ n) (ha : actB a = true) (hl : l.any badY = false) (h16 : l.length ≤ 16) (hr : Kd.C k47 w0 A l.length l) (hc : l.length ≤ c)
    (hB : Below w0.heap.size w0 W) (hbc : W.heap[BC]? = some (.cells #[.pointer (some ⟨P, 0, none⟩)] 64 (0, 0))) (hbl : W.heap[BL]? = some (.cells #[.slice A l.length c] 29 (0, 0))) (hP : HasY w0.heap.size P a (0, []) W) :
    SeqEf Fence.wide n Try.prog 43 #[.pointer (some ⟨BC, 0, none⟩), .pointer (some ⟨BL, 0, none⟩)] encY (KpB w0.heap.size) (EfP P) (preY a l) (fun xs W' => xs = fullL a l ∧ HasY w0.heap.size P a (endP a 0 [] l) W') (fun _ => True) W := fun lp J Jx hJ hJx hY h0 => by
  refine callsIn_of_wp Try.func43 rfl trivial ?_ rfl
  simp only [Try.ntmps43, List.size_toArray, List.length_cons, List.length_nil, Nat.reduceAdd, Nat.reduceSub, Array.replicate_succ, Array.replicate_zero, List.push_toArray, List.append_toArray, List.nil_append, List.cons_append]
  have HK := Aside0.mk hY
  have HJE := Aside0.mk hJ
  have HJX := Aside0.mk hJx
  have H0 := Aside0.mk h0
  have HR := Aside0.mk hr
  have HBE := Aside0.mk hB
  have HBC := Aside0.mk hbc
  have HBL := Aside0.mk hbl
  have HP0 := Aside0.mk hP
  have b0 := cell_two hbc 0 rfl
  have b1 := cell_two hbl 0 rfl
  clear hY hJ hJx h0 hr hB hbc hbl hP
  gi_wp2
  gi_loopw [11] (fun iv wr => YearsLoop a l w0 P BC BL A c J iv wr) (fun iv _ => l.length - (intOf iv).toNat)
  case atStart => exact ⟨0, rfl, by omega, ⟨by simpa using H0.out⟩, ⟨by simpa [endP] using HP0.out⟩, HBC, HBL, HBE⟩
  case round =>
    clear H0 HP0 HBC HBL HBE b0 b1
    obtain ⟨k, rfl, hk, HJ, HS, HBC, HBL, HBE⟩ := hrel
    by_cases hlt : k < l.length
    · have hd : decide ((k : Int) < (l.length : Int)) = true := decide_eq_true (by omega)
      have b0 := cell_two HBC.out 0 rfl
      obtain ⟨ad, e, g0, g1, g2⟩ := at_T47 (Kd.C_below HR.out HBE.out) k (by omega) (by omega)
      cases e
      simp only [Int.toNat_natCast] at g0 g1 g2
      have b1 : (wr.alloc (.cells #[.int .i64 (rd_T47 l k).f0, .int .i64 (rd_T47 l k).f1, .int .i64 (rd_T47 l k).f2] 47)).cell? ⟨BC, 0, none⟩ = some (.pointer (some ⟨P, 0, none⟩)) := cell_two (blk_alloc HBC.out (.cells #[.int .i64 (rd_T47 l k).f0, .int .i64 (rd_T47 l k).f1, .int .i64 (rd_T47 l k).f2] 47)) 0 rfl
      have HBY := Aside0.mk (blk_new wr (.cells #[.int .i64 (rd_T47 l k).f0, .int .i64 (rd_T47 l k).f1, .int .i64 (rd_T47 l k).f2] 47))
      obtain ⟨A1, n1, c1, HS1⟩ := HS.out
      obtain ⟨e1, e2, e3, e4⟩ := end_keeps a l ha hl k hk
      have HE1 := Aside0.mk e1
      have hy : badY (rd_T47 l k) = false := by
        rw [rd_T47_eq l k hlt]
        have := List.any_eq_false.1 hl (l[k]'hlt) (List.getElem_mem _)
        simpa using this
      have HSO := Aside0.mk HS1
      have HST := Aside0.mk (endP_take a l k hlt)
      have HPAY := Aside0.mk (runP_rd a l k hlt)
      have HFT := Aside0.mk (fullL_take a l k hlt)
      have HSA := Aside0.mk (HS1.below (below_alloc (Below.refl _ _) (.cells #[.int .i64 (rd_T47 l k).f0, .int .i64 (rd_T47 l k).f1, .int .i64 (rd_T47 l k).f2] 47)))
      have hlen := HS1.len
      clear e1 HS1
      obtain ⟨bal, hbal⟩ : ∃ bal, bal = (endP a 0 [] (l.take k)).1 := ⟨_, rfl⟩
      obtain ⟨arr, harr⟩ : ∃ arr, arr = (endP a 0 [] (l.take k)).2 := ⟨_, rfl⟩
      rw [← hbal] at HST HPAY HSA HSO e3 e4
      rw [← harr] at HST HPAY HSA HSO HE1 e2 hlen
      have HBA : Aside0 ((bal, arr) = endP a 0 [] (l.take k)) := ⟨by rw [hbal, harr]⟩
      have hn1 : n1 ≤ 50 := by omega
      have hbb : -17592186044416 ≤ bal ∧ bal ≤ 17592186044416 := by omega
      have HLEN := Aside0.mk hlen
      clear hbal harr hlen e2 e3 e4
      gi_wp2_with (refine ⟨trivial, ?_⟩; gi_at_call 44; refine (callsIn_wide.2 (year_any w0.heap.size _ P a bal A1 n1 c1 arr (rd_T47 l k) HSA.out ha hy hn1 HE1.out hbb)).mono ?_; rintro e W1 ⟨rfl, hg, A2, n2, c2, hcomp⟩; have HEF := Aside0.mk (years_ef HSO.out hg hcomp); obtain ⟨fn, tmps, assign, bodyc, hyy, hRR⟩ := HK.out _ (k, (yearP a bal arr (rd_T47 l k)).p) W1 (HJE.out _ _ _ HJ.out HEF.out) ⟨k, hlt, rfl, by rw [HPAY.out]⟩; dsimp only [encY, payV] at hyy; have HRR := Aside0.mk hRR; have HC1 := Aside0.mk hcomp; have HB1 := Aside0.mk (years_below HBE.out HEF.out HC1.out.ge); have HBC1 := Aside0.mk (blk_grown HBC.out HEF.out.1 (fun e => by injection e with e; exact blk_ne HSO.out.blk HBC.out (by decide) e.symm)); have HBL1 := Aside0.mk (blk_grown HBL.out HEF.out.1 (fun e => by injection e with e; exact blk_ne HSO.out.blk HBL.out (by decide) e.symm)); clear hRR hg hcomp b1)
      refine HRR.out.mono ?_
      rintro e W' (⟨rfl, hJ', hkp⟩ | ⟨rfl, hJx'⟩)
      · have HJ' := Aside0.mk hJ'
        have HKP := Aside0.mk hkp
        clear hJ' hkp
        gi_wp2
        go_roundw
        case rel => exact ⟨k + 1, by go_num, by omega, ⟨by rw [HFT.out, HPAY.out]; exact HJ'.out⟩, ⟨by rw [HST.out]; exact ⟨_, _, _, HC1.out.kept HKP.out⟩⟩, ⟨HKP.out.typed _ _ _ HBC1.out (by decide) (by decide)⟩, ⟨HKP.out.typed _ _ _ HBL1.out (by decide) (by decide)⟩, ⟨HB1.out.trans HKP.out.bel⟩⟩
        case measure => simp [intOf]; omega
      · have HJ' := Aside0.mk hJx'
        clear hJx'
        gi_wp2
        refine bodyPost_ret (results_none rfl _ _ _) rfl ?_
        exact ⟨⟨_, rfl⟩, .inr ⟨_, trivial, HJ'.out⟩⟩
    · have hd : decide ((k : Int) < (l.length : Int)) = false := decide_eq_false (by omega)
      have ek : k = l.length := by omega
      have e1 : (fullL a l).take k = fullL a l := List.take_of_length_le (by rw [fullL_len]; omega)
      have e2 : l.take k = l := List.take_of_length_le (by omega)
      have HJ2 := HJ.out
      have HS2 := HS.out
      rw [e1] at HJ2
      rw [e2] at HS2
      have HJ3 := Aside0.mk HJ2
      have HS3 := Aside0.mk HS2
      clear HJ2 HS2 e1 e2 ek
      gi_wp2
      go_end0
      exact ⟨⟨_, rfl⟩, .inl ⟨_, ⟨rfl, HS3.out⟩, HJ3.out⟩⟩
end Go.Proofs.Ytnammdkpejocmaa.Print
