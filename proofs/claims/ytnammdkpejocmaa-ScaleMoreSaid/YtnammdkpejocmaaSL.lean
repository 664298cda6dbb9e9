/- Check: whether payments are those of the years. -/
import Derived.Test.YtnammdkpejocmaaSK
import Derived.Test.YtnammdkpejocmaaRG
namespace Go.Proofs.Ytnammdkpejocmaa.Print
open Go.RowKit Go.Shelf Go.Proofs.YtnammdkpejocmaaW.PrintWords Go.Proofs.YtnammdkpejocmaaW.PrintLast Go.Proofs.YtnammdkpejocmaaW.PrintMore
set_option linter.unusedVariables false
set_option linter.unusedSimpArgs false
attribute [local go_sem] Oper.semAt_some

def CheckPost (r : Int × Int) (w : World) (e : Ending) (w' : World) : Prop := e = .returned (.tuple #[.int .i64 r.1, .int .i64 r.2]) ∧ Below w.heap.size w w'
/-- Check's own variables: the act, the payments, and the two results. -/
structure ChkAt (w W : World) (a : S23) (A2 : Option Addr) (n2 c2 : Nat) (x y : Int) : Prop where
  ba : W.heap[w.heap.size]? = some (actC a)
  bp : W.heap[w.heap.size + 1]? = some (.cells #[.slice A2 n2 c2] 30 (0, 0))
  b6 : W.heap[w.heap.size + 1 + 1]? = some (.cells #[.int .i64 x] 3 (0, 0))
  b7 : W.heap[w.heap.size + 1 + 1 + 1]? = some (.cells #[.int .i64 y] 24 (0, 0))
  bel : Below w.heap.size w W
theorem ChkAt.new (w : World) (a : S23) (A2 : Option Addr) (n2 c2 : Nat) : ChkAt w ((((w.alloc (actC a)).alloc (.cells #[.slice A2 n2 c2] 30)).alloc (.cells #[.int .i64 0] 3)).alloc (.cells #[.int .i64 0] 24)) a A2 n2 c2 0 0 where
  ba := blk_alloc (blk_alloc (blk_alloc (blk_new w _) _) _) _
  bp := by
    refine blk_alloc (blk_alloc ?_ _) _
    have := blk_new (w.alloc (actC a)) (.cells #[.slice A2 n2 c2] 30)
    rwa [World.size_alloc] at this
  b6 := by
    refine blk_alloc ?_ _
    have := blk_new ((w.alloc (actC a)).alloc (.cells #[.slice A2 n2 c2] 30)) (.cells #[.int .i64 0] 3)
    rwa [World.size_alloc, World.size_alloc] at this
  b7 := by
    have := blk_new (((w.alloc (actC a)).alloc (.cells #[.slice A2 n2 c2] 30)).alloc (.cells #[.int .i64 0] 3)) (.cells #[.int .i64 0] 24)
    rwa [World.size_alloc, World.size_alloc, World.size_alloc] at this
  bel := below_alloc (below_alloc (below_alloc (below_alloc (Below.refl _ _) _) _) _) _
section
variable {w W W' : World} {a : S23} {A2 : Option Addr} {n2 c2 : Nat} {x y : Int}
theorem ChkAt.keep (h : ChkAt w W a A2 n2 c2 x y) (hk : ∀ (g : Nat) (cs : Array Value) (t : TypeId), t ≠ 67 → W.heap[g]? = some (.cells cs t (0, 0)) → W'.heap[g]? = some (.cells cs t (0, 0))) (hb : Below w.heap.size w W') : ChkAt w W' a A2 n2 c2 x y where
  ba := hk _ _ _ (by decide) h.ba
  bp := hk _ _ _ (by decide) h.bp
  b6 := hk _ _ _ (by decide) h.b6
  b7 := hk _ _ _ (by decide) h.b7
  bel := hb
theorem ChkAt.below (h : ChkAt w W a A2 n2 c2 x y) (hb : Below W.heap.size W W') : ChkAt w W' a A2 n2 c2 x y :=
  h.keep (fun _ _ _ _ hg => blk_below hg hb) (bl_next' h.bel hb)
theorem ChkAt.set6 (h : ChkAt w W a A2 n2 c2 x y) (z : Int) : ChkAt w (W.setCell ⟨w.heap.size + 1 + 1, 0, none⟩ (.int .i64 z)) a A2 n2 c2 z y where
  ba := blk_set_ne' h.ba (by omega) 0 _
  bp := blk_set_ne' h.bp (by omega) 0 _
  b6 := blk_put h.b6 0 _ rfl
  b7 := blk_set_ne' h.b7 (by omega) 0 _
  bel := below_set h.bel (by omega)
theorem ChkAt.set7 (h : ChkAt w W a A2 n2 c2 x y) (z : Int) : ChkAt w (W.setCell ⟨w.heap.size + 1 + 1 + 1, 0, none⟩ (.int .i64 z)) a A2 n2 c2 x z where
  ba := blk_set_ne' h.ba (by omega) 0 _
  bp := blk_set_ne' h.bp (by omega) 0 _
  b6 := blk_set_ne' h.b6 (by omega) 0 _
  b7 := blk_put h.b7 0 _ rfl
  bel := below_set h.bel (by omega)
theorem ChkAt.own (h : ChkAt w W a A2 n2 c2 x y) {row : Option Nat} (hg : W.grownBy W' row) (hr : ∀ r, row = some r → w.heap.size ≤ r ∧ ∃ o : Obj, W.heap[r]? = some o ∧ o.isCells = false) : ChkAt w W' a A2 n2 c2 x y :=
  h.keep (fun _ _ _ _ hc => cells_kept hg (fun r e => (hr r e).2) hc) (h.bel.grown hg h.bel.size (fun k e => (hr k e).1))
theorem ChkAt.ef {P : Nat} (h : ChkAt w W a A2 n2 c2 x y) (he : EfP P W W') (hP : w.heap.size ≤ P) : ChkAt w W' a A2 n2 c2 x y := by
  obtain ⟨hg, ⟨cs, hc⟩, _⟩ := he
  exact h.keep (fun g cs' t ht hb => blk_grown hb hg (fun e => by injection e with e; exact blk_ne hb hc ht e)) (h.bel.grown hg h.bel.size (fun k e => by injection e with e; omega))
end
set_option maxHeartbeats 2000000 in
theorem check_err (a : S23) (A A2 : Option Addr) (c n2 c2 : Nat) (l : List S47) (w : World) (hr : Kd.C k47 w A l.length l) (hc : l.length ≤ c) (he : errY a l ≠ 0) :
    Calls Try.prog 17 #[actV a, .slice A l.length c, .slice A2 n2 c2] w (CheckPost (0, errY a l) w) := by
  have HR := Aside0.mk hr
  obtain ⟨er, her⟩ : ∃ er, er = errY a l := ⟨_, rfl⟩
  rw [← her] at he ⊢
  have HC : Aside0 (∀ W, Kd.C k47 W A l.length l → Calls Try.prog 32 #[actV a, .slice A l.length c] W fun e w' => e = .returned (.int .i64 er) ∧ Below W.heap.size W w') := ⟨fun W h => by rw [her]; exact error_any a A c l W h hc⟩
  have hd : (er != 0) = true := bne_iff_ne.2 he
  have hd2 : (er == 0) = false := beq_eq_false_iff_ne.2 he
  have H0 := Aside0.mk (ChkAt.new w a A2 n2 c2)
  clear hr her he
  go_enter Try.func17, Try.ntmps17
  go_wp2_with (go_at_call 32; refine (HC.out _ (Kd.C_below HR.out H0.out.bel)).mono ?_; rintro e W1 ⟨rfl, hb⟩; have H1 := Aside0.mk (H0.out.below hb); have r6 : W1.cell? ⟨w.heap.size + 1 + 1, 0, none⟩ = some (.int .i64 0) := cell_two H1.out.b6 0 rfl; have r7 : W1.cell? ⟨w.heap.size + 1 + 1 + 1, 0, none⟩ = some (.int .i64 0) := cell_two H1.out.b7 0 rfl; have f6 := blk_frozen H1.out.b6 0; have f7 := blk_frozen H1.out.b7 0; clear hb)
  have H2 := Aside0.mk ((H1.out.set6 0).set7 er)
  have g6 := cell_two H2.out.b6 0 rfl
  have g7 := cell_two H2.out.b7 0 rfl
  refine bodyPost_ret (v := .tuple #[.int .i64 0, .int .i64 er]) (by simp [results, Try.results17, go_sem, g6, g7]) rfl ⟨rfl, H2.out.bel⟩

def eq45 (x y : S45) : Bool := x.f0 == y.f0 && x.f1 == y.f1 && x.f2 == y.f2 && x.f3 == y.f3 && x.f4 == y.f4 && x.f5 == y.f5
theorem eq45_iff {x y : S45} : eq45 x y = true ↔ x = y := by
  obtain ⟨a0, a1, a2, a3, a4, a5⟩ := x
  obtain ⟨b0, b1, b2, b3, b4, b5⟩ := y
  simp [eq45, and_assoc]
/-- The first place that does not fit, and why. -/
def checkL : Nat → List S45 → List S45 → Int × Int
  | i, [], [] => (i, 0)
  | i, [], _ :: _ => (i, 11)
  | i, _ :: _, [] => (i, 4)
  | i, x :: r, y :: s => if eq45 y x = true then checkL (i + 1) r s else (i, 11)

def ChkM (R p : List S45) (k : Nat) : Prop := checkL 0 R p = checkL k (R.drop k) (p.drop k) ∧ k ≤ p.length

theorem ne_chain {x y : S45} (h : x ≠ y) : x.f0 = y.f0 → x.f1 = y.f1 → x.f2 = y.f2 → x.f3 = y.f3 → x.f4 = y.f4 → ¬ x.f5 = y.f5 := by
  obtain ⟨a0, a1, a2, a3, a4, a5⟩ := x
  obtain ⟨b0, b1, b2, b3, b4, b5⟩ := y
  simpa only [ne_eq, S45.mk.injEq, not_and] using h
theorem chk_more {R p : List S45} {k : Nat} (hm : checkL 0 R p = checkL k (R.drop k) (p.drop k)) (hR : R.drop k = []) (h : k < p.length) : checkL 0 R p = ((k : Int), 11) := by
  rw [hm, hR, List.drop_eq_getElem_cons h]
  rfl
theorem chk_fit {R p : List S45} {k : Nat} (hm : checkL 0 R p = checkL k (R.drop k) (p.drop k)) (hR : R.drop k = []) (h : p.length ≤ k) : checkL 0 R p = ((k : Int), 0) := by
  rw [hm, hR, show p.drop k = [] from List.drop_of_length_le h]
  rfl
theorem p_drop (p : List S45) (k : Nat) (h : k < p.length) : p.drop k = rd_T45 p k :: p.drop (k + 1) := by
  rw [List.drop_eq_getElem_cons h]
  simp [rd_T45, List.getD_eq_getElem?_getD, h]
theorem chk_next {R p : List S45} {k m : Nat} {q : S45} (hm : checkL 0 R p = checkL k (R.drop k) (p.drop k)) (hR : R.drop k = q :: R.drop (k + 1)) (hk : k < p.length) (he : rd_T45 p k = q) (e : m = k + 1) : ChkM R p m := by
  subst e
  refine ⟨?_, hk⟩
  rw [hm, hR, p_drop p k hk]
  simp only [checkL]
  rw [if_pos (eq45_iff.2 he)]
theorem chk_ne {R p : List S45} {k : Nat} {q : S45} (hm : checkL 0 R p = checkL k (R.drop k) (p.drop k)) (hR : R.drop k = q :: R.drop (k + 1)) (hk : k < p.length) (he : rd_T45 p k ≠ q) : checkL 0 R p = ((k : Int), 11) := by
  rw [hm, hR, p_drop p k hk]
  simp only [checkL]
  rw [if_neg (fun h => he (eq45_iff.1 h))]
theorem chk_end {R p : List S45} {k : Nat} {q : S45} (hm : checkL 0 R p = checkL k (R.drop k) (p.drop k)) (hR : R.drop k = q :: R.drop (k + 1)) (hk : k = p.length) : checkL 0 R p = ((p.length : Int), 4) := by
  rw [hm, hR, show p.drop k = [] from List.drop_of_length_le (by omega)]
  simp only [checkL]
  rw [hk]

set_option maxHeartbeats 4000000 in
set_option maxRecDepth 100000 in
theorem check_main (a : S23) (A A2 : Option Addr) (c c2 : Nat) (l : List S47) (p : List S45) (w : World) (hr : Kd.C k47 w A l.length l) (hc : l.length ≤ c) (hr2 : Kd.C k45 w A2 p.length p) (hc2 : p.length ≤ c2) (he : errY a l = 0) :
    Calls Try.prog 17 #[actV a, .slice A l.length c, .slice A2 p.length c2] w (CheckPost (checkL 0 (runP a 0 [] l) p) w) := by
  obtain ⟨ha, h16, hbad⟩ := err_fine he
  have HR := Aside0.mk hr
  have HR2 := Aside0.mk hr2
  have HC : Aside0 (∀ W, Kd.C k47 W A l.length l → Calls Try.prog 32 #[actV a, .slice A l.length c] W fun e w' => e = .returned (.int .i64 0) ∧ Below W.heap.size W w') := ⟨fun W h => by have := error_any a A c l W h hc; rwa [he] at this⟩
  have H0 := Aside0.mk (ChkAt.new w a A2 p.length c2)
  clear hr hr2 he
  refine (callsIn_wide (n := 8)).1 ?_
  refine callsIn_of_wp_marks Try.func17 rfl trivial ?_ rfl
  simp only [Try.ntmps17, List.size_toArray, List.length_cons, List.length_nil, Nat.reduceAdd, Nat.reduceSub, Array.replicate_succ, Array.replicate_zero, List.push_toArray, List.append_toArray, List.nil_append, List.cons_append]
  gi_wp2_with (first
    | (refine ⟨trivial, ?_⟩; gi_at_call 32; refine (callsIn_wide.2 (HC.out _ (Kd.C_below HR.out H0.out.bel))).mono ?_; rintro e W1 ⟨rfl, hb⟩; have H1 := Aside0.mk (H0.out.below hb); have a0 : W1.cell? ⟨w.heap.size, 0, none⟩ = some (.int .i64 a.f0) := cell_two H1.out.ba 0 rfl; have a1 : W1.cell? ⟨w.heap.size, 1, none⟩ = some (.int .i64 a.f1) := cell_two H1.out.ba 1 rfl; have a2 : W1.cell? ⟨w.heap.size, 2, none⟩ = some (.int .i64 a.f2) := cell_two H1.out.ba 2 rfl; have a3 : W1.cell? ⟨w.heap.size, 3, none⟩ = some (.int .i64 a.f3) := cell_two H1.out.ba 3 rfl; have a4 : W1.cell? ⟨w.heap.size, 4, none⟩ = some (.int .i64 a.f4) := cell_two H1.out.ba 4 rfl; have a5 : W1.cell? ⟨w.heap.size, 5, none⟩ = some (.int .i64 a.f5) := cell_two H1.out.ba 5 rfl; clear hb)
    | (refine ⟨trivial, ?_⟩; gi_at_call 33; refine (callsIn_wide.2 (years_any _ _ _ _ _)).mono ?_; rintro e W2 ⟨rfl, rfl⟩))
  have HST := Aside0.mk (started H1.out.bel a A l.length c)
  have H2 := Aside0.mk (H1.out.below (below_alloc (below_alloc (below_alloc (Below.refl _ _) (compC a)) (.cells #[.pointer (some ⟨W1.heap.size, 0, none⟩)] 64)) (.cells #[.slice A l.length c] 29)))
  clear H0 a0 a1 a2 a3 a4 a5
  generalize ((W1.alloc (.cells #[.int .i64 a.f0, .int .i64 a.f1, .int .i64 a.f2, .int .i64 a.f3, .int .i64 a.f4, .int .i64 a.f5, .int .i64 0, .slice none 0 0] 67)).alloc (.cells #[.pointer (some ⟨W1.heap.size, 0, none⟩)] 64)).alloc (.cells #[.slice A l.length c] 29) = V at HST H2 ⊢
  obtain ⟨P, hP⟩ : ∃ P, P = W1.heap.size := ⟨_, rfl⟩
  rw [← hP] at HST ⊢
  have hge := HST.out.ge
  clear hP H1
  have hVs := HST.out.bel.size
  obtain ⟨R, hR⟩ : ∃ R, R = runP a 0 [] l := ⟨_, rfl⟩
  have hRl : R.length = l.length := by rw [hR, runP_len]
  rw [← hR]
  refine range_st rfl (by omega) (gf := 43) (lb := #[.pointer (some ⟨P + 1, 0, none⟩), .pointer (some ⟨P + 1 + 1, 0, none⟩)]) rfl trivial (enters_of Try.func43 (by kernel_rfl) rfl) (encs := encY) (Kp := KpB w.heap.size) (Ef := EfP P) (Pre := preY a l) (S := fun xs W' => xs = fullL a l ∧ HasY w.heap.size P a (endP a 0 [] l) W') (Sp := fun _ => True)
    (fun W hg => started_seq HST.out hg ha hbad h16 HR.out hc) ef_keeps (fun h k => h.trans k) (kp_put hVs) (fun _ => rfl)
    (fun pre W => ChkAt w W a A2 p.length c2 0 0 ∧ ChkM R p pre.length) (fun cd pre W => cd = .ret ∧ ∃ x y, ChkAt w W a A2 p.length c2 x y ∧ checkL 0 R p = (x, y))
    (fun _ _ _ _ hs hg hr => ⟨hs.1.own hg (fun r e => ⟨Nat.le_trans hVs (hr r e).1, (hr r e).2⟩), hs.2⟩)
    (fun _ _ _ _ _ hs hg hr => by
      obtain ⟨e, x, y, h1, h2⟩ := hs
      exact ⟨e, x, y, h1.own hg (fun r e => ⟨Nat.le_trans hVs (hr r e).1, (hr r e).2⟩), h2⟩)
    (fun s A B h he => ⟨h.1.ef he hge, h.2⟩)
    (fun _ _ _ _ h he => by
      obtain ⟨e, x, y, h1, h2⟩ := h
      exact ⟨e, x, y, h1.ef he hge, h2⟩)
    (OwnFrom.and (fun _ _ _ _ hs _ _ => hs) (has_own _ _ _ _ _)) ⟨H2.out, rfl, Nat.zero_le _⟩
    (fun x a' W => ∃ Bx, W.heap[Bx]? = some (.cells #[.int .i64 x.2.f0, .int .i64 x.2.f1, .int .i64 x.2.f2, .int .i64 x.2.f3, .int .i64 x.2.f4, .int .i64 x.2.f5] 45 (0, 0)) ∧ a' = { tmps := #[actV a, .slice A l.length c, .slice A2 p.length c2, .pointer (some ⟨w.heap.size, 0, none⟩), undef, .pointer (some ⟨w.heap.size + 1, 0, none⟩), .pointer (some ⟨w.heap.size + 1 + 1, 0, none⟩), .pointer (some ⟨w.heap.size + 1 + 1 + 1, 0, none⟩), .int .i64 0, .pointer (some ⟨P, 0, none⟩), .int .i64 (x.1 : Int), .pointer (some ⟨Bx, 0, none⟩), actV a, .slice A l.length c, .int .i64 0, .int .i64 0, .bool false, undef, actV a, .agg #[.int .i64 a.f0, .int .i64 a.f1, .int .i64 a.f2, .int .i64 a.f3, .int .i64 a.f4, .int .i64 a.f5, .int .i64 0, .slice none 0 0], .pointer (some ⟨P, 0, none⟩), .pointer (some ⟨P, 0, none⟩), .slice A l.length c, .func (.func 43) #[] #[.pointer (some ⟨P + 1, 0, none⟩), .pointer (some ⟨P + 1 + 1, 0, none⟩)], .int .i64 (x.1 : Int), payV x.2, undef, undef, undef, undef, undef, undef, undef, undef, undef, undef, undef, undef, undef, undef, undef, undef, undef, undef, undef, undef, undef, undef, undef], defers := [] })
    (fun a' s W W' row hs hg hr => by
      obtain ⟨Bx, h1, h2⟩ := hs
      exact ⟨Bx, cells_kept hg (fun r e => (hr r e).2) h1, h2⟩) ?assign ?body ?done ?stop
  case assign =>
    intro lp pre x W K hi hK
    gi_wp2
    exact hK _ _ (KeepsOthers.alloc _ _) (kp_alloc hi.1.bel.size _) ⟨hi.1.below (below_alloc (Below.refl _ _) _), hi.2⟩ ⟨_, blk_new _ _, rfl⟩
  case body =>
    rintro lp pre x a' W ⟨hi, hm, hle⟩ ⟨Bx, hBx, rfl⟩ ⟨k, hk, rfl, rfl⟩
    have hkl : ((fullL a l).take k).length = k := by rw [List.length_take, fullL_len]; omega
    rw [hkl] at hm hle
    obtain ⟨q, hq⟩ : ∃ q, q = rd_T45 (runP a 0 [] l) k := ⟨_, rfl⟩
    rw [← hq] at hBx ⊢
    have HX : Aside0 (W.heap[Bx]? = some (.cells #[.int .i64 q.f0, .int .i64 q.f1, .int .i64 q.f2, .int .i64 q.f3, .int .i64 q.f4, .int .i64 q.f5] 45 (0, 0))) := ⟨hBx⟩
    have HI := Aside0.mk hi
    have HM := Aside0.mk hm
    have hRk : R.drop k = q :: R.drop (k + 1) := by
      rw [List.drop_eq_getElem_cons (by omega), hq, ← hR]
      simp [rd_T45, List.getD_eq_getElem?_getD, show k < R.length by omega]
    have HRk := Aside0.mk hRk
    have o5 : W.cell? ⟨w.heap.size + 1, 0, none⟩ = some (.slice A2 p.length c2) := cell_two hi.bp 0 rfl
    have r6 : W.cell? ⟨w.heap.size + 1 + 1, 0, none⟩ = some (.int .i64 0) := cell_two hi.b6 0 rfl
    have r7 : W.cell? ⟨w.heap.size + 1 + 1 + 1, 0, none⟩ = some (.int .i64 0) := cell_two hi.b7 0 rfl
    have f6 := blk_frozen hi.b6 0
    have f7 := blk_frozen hi.b7 0
    clear hBx hi hm hq hRk
    by_cases hkp : k = p.length
    · have hd : ((k : Int) == (p.length : Int)) = true := by rw [hkp]; simp
      gi_wp2
      exact ⟨(KeepsOthers.setCell _ _ _).trans (KeepsOthers.setCell _ _ _), rfl, _, _, (HI.out.set6 _).set7 _, chk_end HM.out HRk.out hkp⟩
    · have hd : ((k : Int) == (p.length : Int)) = false := beq_eq_false_iff_ne.2 (by omega)
      obtain ⟨ad, e, g0, g1, g2, g3, g4, g5⟩ := at_T45 (Kd.C_below HR2.out HI.out.bel) k (by omega) (by omega)
      cases e
      simp only [Int.toNat_natCast] at g0 g1 g2 g3 g4 g5
      have q0 : W.cell? ⟨Bx, 0, none⟩ = some (.int .i64 q.f0) := cell_two HX.out 0 rfl
      have q1 : W.cell? ⟨Bx, 1, none⟩ = some (.int .i64 q.f1) := cell_two HX.out 1 rfl
      have q2 : W.cell? ⟨Bx, 2, none⟩ = some (.int .i64 q.f2) := cell_two HX.out 2 rfl
      have q3 : W.cell? ⟨Bx, 3, none⟩ = some (.int .i64 q.f3) := cell_two HX.out 3 rfl
      have q4 : W.cell? ⟨Bx, 4, none⟩ = some (.int .i64 q.f4) := cell_two HX.out 4 rfl
      have q5 : W.cell? ⟨Bx, 5, none⟩ = some (.int .i64 q.f5) := cell_two HX.out 5 rfl
      have hklt : k < p.length := by omega
      have k0 : (0 : Int) ≤ (k : Int) := Int.natCast_nonneg k
      have k1 : (k : Int) < (p.length : Int) := by omega
      by_cases heq : rd_T45 p k = q
      · rw [heq] at g0 g1 g2 g3 g4 g5
        have HEQ := Aside0.mk heq
        clear heq
        gi_wp2
        refine round_region (fun W' => W'.cell? ⟨w.heap.size + 1, 0, none⟩ = some (.slice (some ad) p.length c2) ∧ W'.cell? (ad.add (k * 6)) = some (.int .i64 q.f0) ∧ W'.cell? ⟨(ad.add (k * 6)).block, (ad.add (k * 6)).off + 1, none⟩ = some (.int .i64 q.f1) ∧ W'.cell? ⟨(ad.add (k * 6)).block, (ad.add (k * 6)).off + 2, none⟩ = some (.int .i64 q.f2) ∧ W'.cell? ⟨(ad.add (k * 6)).block, (ad.add (k * 6)).off + 3, none⟩ = some (.int .i64 q.f3) ∧ W'.cell? ⟨(ad.add (k * 6)).block, (ad.add (k * 6)).off + 4, none⟩ = some (.int .i64 q.f4) ∧ W'.cell? ⟨(ad.add (k * 6)).block, (ad.add (k * 6)).off + 5, none⟩ = some (.int .i64 q.f5) ∧ W'.cell? ⟨Bx, 0, none⟩ = some (.int .i64 q.f0) ∧ W'.cell? ⟨Bx, 1, none⟩ = some (.int .i64 q.f1) ∧ W'.cell? ⟨Bx, 2, none⟩ = some (.int .i64 q.f2) ∧ W'.cell? ⟨Bx, 3, none⟩ = some (.int .i64 q.f3) ∧ W'.cell? ⟨Bx, 4, none⟩ = some (.int .i64 q.f4) ∧ W'.cell? ⟨Bx, 5, none⟩ = some (.int .i64 q.f5)) (by kernel_rfl) (by kernel_rfl) (fun ⟨_, _, h⟩ => h) ⟨o5, g0, g1, g2, g3, g4, g5, q0, q1, q2, q3, q4, q5⟩ (fun hHeld => ?_)
        refine wpAnyH_take (i := 0) (oi := { dst := some 33, op := Op.load 30 (Operand.tmp 5), type := 30, pos := "scale.go:179", after := #[], guard := none }) (v := ?vz0) rfl (by kernel_rfl) (by kernel_rfl) (by kernel_rfl) (fun _ _ _ h => h) (Or.inl ⟨by rfl, ?hyz0⟩) (by assumption) ?_
        case hyz0 => (intro wq hSw; (try dsimp only at hSw); go_simp; try (with_reducible rfl))
        try simp only [Act.put, List.setIfInBounds_toArray, List.set_cons_zero, List.set_cons_succ]
        refine wpAnyH_take (i := 1) (oi := { dst := some 34, op := Op.move (Operand.tmp 10), type := 3, pos := "scale.go:179", after := #[], guard := none }) (v := ?vz1) rfl (by kernel_rfl) (by kernel_rfl) (by kernel_rfl) (fun _ _ _ h => h) (Or.inl ⟨by rfl, ?hyz1⟩) (by assumption) ?_
        case hyz1 => (intro wq hSw; (try dsimp only at hSw); go_simp; try (with_reducible rfl))
        try simp only [Act.put, List.setIfInBounds_toArray, List.set_cons_zero, List.set_cons_succ]
        refine wpAnyH_take (i := 2) (oi := { dst := some 35, op := Op.indexAddr 30 (Operand.tmp 33) (Operand.tmp 34), type := 0, pos := "scale.go:179", after := #[{ on := 0, ground := Ground.data }, { on := 1, ground := Ground.data }], guard := none }) (v := ?vz2) rfl (by kernel_rfl) (by kernel_rfl) (by kernel_rfl) (fun _ _ _ h => h) (Or.inl ⟨by rfl, ?hyz2⟩) (by assumption) ?_
        case hyz2 => (intro wq hSw; (try dsimp only at hSw); go_simp; try (with_reducible rfl))
        try simp only [Act.put, List.setIfInBounds_toArray, List.set_cons_zero, List.set_cons_succ]
        refine wpAnyH_take (i := 3) (oi := { dst := some 36, op := Op.load 45 (Operand.tmp 35), type := 45, pos := "scale.go:179", after := #[{ on := 2, ground := Ground.data }], guard := none }) (v := ?vz3) rfl (by kernel_rfl) (by kernel_rfl) (by kernel_rfl) (fun _ _ _ h => h) (Or.inl ⟨by rfl, ?hyz3⟩) (by assumption) ?_
        case hyz3 => (intro wq hSw; (try dsimp only at hSw); go_simp; try (with_reducible rfl))
        try simp only [Act.put, List.setIfInBounds_toArray, List.set_cons_zero, List.set_cons_succ]
        refine wpAnyH_take (i := 4) (oi := { dst := some 37, op := Op.load 45 (Operand.tmp 11), type := 45, pos := "scale.go:179", after := #[], guard := none }) (v := ?vz4) rfl (by kernel_rfl) (by kernel_rfl) (by kernel_rfl) (fun _ _ _ h => h) (Or.inl ⟨by rfl, ?hyz4⟩) (by assumption) ?_
        case hyz4 => (intro wq hSw; (try dsimp only at hSw); go_simp; try (with_reducible rfl))
        try simp only [Act.put, List.setIfInBounds_toArray, List.set_cons_zero, List.set_cons_succ]
        refine wpAnyH_take (i := 5) (oi := { dst := some 38, op := Op.binOp BinOp.neq 45 (Operand.tmp 36) (Operand.tmp 37) 45, type := 4, pos := "scale.go:179", after := #[{ on := 3, ground := Ground.data }, { on := 4, ground := Ground.data }], guard := none }) (v := ?vz5) rfl (by kernel_rfl) (by kernel_rfl) (by kernel_rfl) (fun _ _ _ h => h) (Or.inl ⟨by rfl, ?hyz5⟩) (by assumption) ?_
        case hyz5 => (intro wq hSw; (try dsimp only at hSw); go_simp; try (with_reducible rfl))
        try simp only [Act.put, List.setIfInBounds_toArray, List.set_cons_zero, List.set_cons_succ]
        refine wpAnyH_take (i := 6) (oi := { dst := some 32, op := Op.assign (Operand.tmp 38), type := 4, pos := "scale.go:179", after := #[{ on := 5, ground := Ground.data }], guard := none }) (v := ?vz6) rfl (by kernel_rfl) (by kernel_rfl) (by kernel_rfl) (fun _ _ _ h => h) (Or.inl ⟨by rfl, ?hyz6⟩) (by assumption) ?_
        case hyz6 => (intro wq hSw; (try dsimp only at hSw); go_simp; try (with_reducible rfl))
        try simp only [Act.put, List.setIfInBounds_toArray, List.set_cons_zero, List.set_cons_succ]
        refine wpAnyH_done (by kernel_rfl) ?_ _
        gi_wp2
        exact ⟨KeepsOthers.drew _, ⟨below_drew1 (Below.refl _ _), fun _ _ _ h _ _ => h⟩, HI.out.below (below_drew1 (Below.refl _ _)), chk_next HM.out HRk.out hklt HEQ.out (by rw [List.length_append, hkl]; rfl)⟩
      · have HN := Aside0.mk heq
        clear heq
        gi_wp2
        refine round_region (fun W' => W'.cell? ⟨w.heap.size + 1, 0, none⟩ = some (.slice (some ad) p.length c2) ∧ W'.cell? (ad.add (k * 6)) = some (.int .i64 (rd_T45 p k).f0) ∧ W'.cell? ⟨(ad.add (k * 6)).block, (ad.add (k * 6)).off + 1, none⟩ = some (.int .i64 (rd_T45 p k).f1) ∧ W'.cell? ⟨(ad.add (k * 6)).block, (ad.add (k * 6)).off + 2, none⟩ = some (.int .i64 (rd_T45 p k).f2) ∧ W'.cell? ⟨(ad.add (k * 6)).block, (ad.add (k * 6)).off + 3, none⟩ = some (.int .i64 (rd_T45 p k).f3) ∧ W'.cell? ⟨(ad.add (k * 6)).block, (ad.add (k * 6)).off + 4, none⟩ = some (.int .i64 (rd_T45 p k).f4) ∧ W'.cell? ⟨(ad.add (k * 6)).block, (ad.add (k * 6)).off + 5, none⟩ = some (.int .i64 (rd_T45 p k).f5) ∧ W'.cell? ⟨Bx, 0, none⟩ = some (.int .i64 q.f0) ∧ W'.cell? ⟨Bx, 1, none⟩ = some (.int .i64 q.f1) ∧ W'.cell? ⟨Bx, 2, none⟩ = some (.int .i64 q.f2) ∧ W'.cell? ⟨Bx, 3, none⟩ = some (.int .i64 q.f3) ∧ W'.cell? ⟨Bx, 4, none⟩ = some (.int .i64 q.f4) ∧ W'.cell? ⟨Bx, 5, none⟩ = some (.int .i64 q.f5)) (by kernel_rfl) (by kernel_rfl) (fun ⟨_, _, h⟩ => h) ⟨o5, g0, g1, g2, g3, g4, g5, q0, q1, q2, q3, q4, q5⟩ (fun hHeld => ?_)
        refine wpAnyH_take (i := 0) (oi := { dst := some 33, op := Op.load 30 (Operand.tmp 5), type := 30, pos := "scale.go:179", after := #[], guard := none }) (v := ?vy0) rfl (by kernel_rfl) (by kernel_rfl) (by kernel_rfl) (fun _ _ _ h => h) (Or.inl ⟨by rfl, ?hyy0⟩) (by assumption) ?_
        case hyy0 => (intro wq hSw; (try dsimp only at hSw); go_simp; try (with_reducible rfl))
        try simp only [Act.put, List.setIfInBounds_toArray, List.set_cons_zero, List.set_cons_succ]
        refine wpAnyH_take (i := 1) (oi := { dst := some 34, op := Op.move (Operand.tmp 10), type := 3, pos := "scale.go:179", after := #[], guard := none }) (v := ?vy1) rfl (by kernel_rfl) (by kernel_rfl) (by kernel_rfl) (fun _ _ _ h => h) (Or.inl ⟨by rfl, ?hyy1⟩) (by assumption) ?_
        case hyy1 => (intro wq hSw; (try dsimp only at hSw); go_simp; try (with_reducible rfl))
        try simp only [Act.put, List.setIfInBounds_toArray, List.set_cons_zero, List.set_cons_succ]
        refine wpAnyH_take (i := 2) (oi := { dst := some 35, op := Op.indexAddr 30 (Operand.tmp 33) (Operand.tmp 34), type := 0, pos := "scale.go:179", after := #[{ on := 0, ground := Ground.data }, { on := 1, ground := Ground.data }], guard := none }) (v := ?vy2) rfl (by kernel_rfl) (by kernel_rfl) (by kernel_rfl) (fun _ _ _ h => h) (Or.inl ⟨by rfl, ?hyy2⟩) (by assumption) ?_
        case hyy2 => (intro wq hSw; (try dsimp only at hSw); go_simp; try (with_reducible rfl))
        try simp only [Act.put, List.setIfInBounds_toArray, List.set_cons_zero, List.set_cons_succ]
        refine wpAnyH_take (i := 3) (oi := { dst := some 36, op := Op.load 45 (Operand.tmp 35), type := 45, pos := "scale.go:179", after := #[{ on := 2, ground := Ground.data }], guard := none }) (v := ?vy3) rfl (by kernel_rfl) (by kernel_rfl) (by kernel_rfl) (fun _ _ _ h => h) (Or.inl ⟨by rfl, ?hyy3⟩) (by assumption) ?_
        case hyy3 => (intro wq hSw; (try dsimp only at hSw); go_simp; try (with_reducible rfl))
        try simp only [Act.put, List.setIfInBounds_toArray, List.set_cons_zero, List.set_cons_succ]
        refine wpAnyH_take (i := 4) (oi := { dst := some 37, op := Op.load 45 (Operand.tmp 11), type := 45, pos := "scale.go:179", after := #[], guard := none }) (v := ?vy4) rfl (by kernel_rfl) (by kernel_rfl) (by kernel_rfl) (fun _ _ _ h => h) (Or.inl ⟨by rfl, ?hyy4⟩) (by assumption) ?_
        case hyy4 => (intro wq hSw; (try dsimp only at hSw); go_simp; try (with_reducible rfl))
        try simp only [Act.put, List.setIfInBounds_toArray, List.set_cons_zero, List.set_cons_succ]
        refine wpAnyH_take (i := 5) (oi := { dst := some 38, op := Op.binOp BinOp.neq 45 (Operand.tmp 36) (Operand.tmp 37) 45, type := 4, pos := "scale.go:179", after := #[{ on := 3, ground := Ground.data }, { on := 4, ground := Ground.data }], guard := none }) (v := .bool true) rfl (by kernel_rfl) (by kernel_rfl) (by kernel_rfl) (fun _ _ _ h => h) (Or.inl ⟨by rfl, ?hyy5⟩) (by assumption) ?_
        case hyy5 => (intro wq hSw; (try dsimp only at hSw); go_simp; exact ne_chain HN.out)
        try simp only [Act.put, List.setIfInBounds_toArray, List.set_cons_zero, List.set_cons_succ]
        refine wpAnyH_take (i := 6) (oi := { dst := some 32, op := Op.assign (Operand.tmp 38), type := 4, pos := "scale.go:179", after := #[{ on := 5, ground := Ground.data }], guard := none }) (v := ?vy6) rfl (by kernel_rfl) (by kernel_rfl) (by kernel_rfl) (fun _ _ _ h => h) (Or.inl ⟨by rfl, ?hyy6⟩) (by assumption) ?_
        case hyy6 => (intro wq hSw; (try dsimp only at hSw); go_simp; try (with_reducible rfl))
        try simp only [Act.put, List.setIfInBounds_toArray, List.set_cons_zero, List.set_cons_succ]
        refine wpAnyH_done (by kernel_rfl) ?_ _
        gi_wp2
        exact ⟨((KeepsOthers.drew W).trans (KeepsOthers.setCell _ _ _)).trans (KeepsOthers.setCell _ _ _), rfl, _, _, ((HI.out.below (below_drew1 (Below.refl _ _))).set6 _).set7 _, chk_ne HM.out HRk.out hklt HN.out⟩
  case done =>
    rintro D xs W hD ⟨rfl, hS⟩ ⟨hi, hm, hle⟩ hK
    rw [fullL_len] at hm hle
    have HI := Aside0.mk hi
    have HM := Aside0.mk hm
    have HKd := Aside0.mk hK
    have HRd : Aside0 (R.drop l.length = []) := ⟨List.drop_of_length_le (by omega)⟩
    have o5 : W.cell? ⟨w.heap.size + 1, 0, none⟩ = some (.slice A2 p.length c2) := cell_two hi.bp 0 rfl
    have r6 : W.cell? ⟨w.heap.size + 1 + 1, 0, none⟩ = some (.int .i64 0) := cell_two hi.b6 0 rfl
    have r7 : W.cell? ⟨w.heap.size + 1 + 1 + 1, 0, none⟩ = some (.int .i64 0) := cell_two hi.b7 0 rfl
    have f6 := blk_frozen hi.b6 0
    have f7 := blk_frozen hi.b7 0
    have HRR := Aside0.mk hR
    clear hi hm hK hR hS
    by_cases hgt : l.length < p.length
    · have hd : decide ((l.length : Int) < (p.length : Int)) = true := decide_eq_true (by omega)
      have HC2 := Aside0.mk (chk_more HM.out HRd.out hgt)
      gi_wp2
      have H3 := Aside0.mk ((HI.out.set6 (l.length : Int)).set7 11)
      have hK := ((KeepsOthers.setCell W ⟨w.heap.size + 1 + 1, 0, none⟩ (.int .i64 (l.length : Int))).trans (KeepsOthers.setCell _ ⟨w.heap.size + 1 + 1 + 1, 0, none⟩ (.int .i64 11))).same D _ HKd.out rfl
      refine ⟨by simp, .inl ⟨_, _, rfl, run_takeDeferred hK, ?_⟩⟩
      have hkk := fun {g : Nat} {cs : Array Value} {t : TypeId} (h : ((W.setCell ⟨w.heap.size + 1 + 1, 0, none⟩ (.int .i64 (l.length : Int))).setCell ⟨w.heap.size + 1 + 1 + 1, 0, none⟩ (.int .i64 11)).heap[g]? = some (.cells cs t (0, 0))) => cells_kept (grownBy_putObj' _ D (.deferred none)) (fun r e => by cases e; exact ⟨_, hK, rfl⟩) h
      have g6 := cell_two (hkk H3.out.b6) 0 rfl
      have g7 := cell_two (hkk H3.out.b7) 0 rfl
      refine ⟨.tuple #[.int .i64 (l.length : Int), .int .i64 11], by simp [results, Try.f17, go_sem, g6, g7], by rw [← HRR.out, HC2.out], ?_⟩
      exact H3.out.bel.trans (belowK_b (w := w) (Nat.le_refl _) _ D _ _ (by omega) hK rfl rfl)
    · have hd : decide ((l.length : Int) < (p.length : Int)) = false := decide_eq_false (by omega)
      have HC2 := Aside0.mk (chk_fit HM.out HRd.out (by omega))
      gi_wp2
      have H3 := Aside0.mk ((HI.out.set6 (l.length : Int)).set7 0)
      have hK := ((KeepsOthers.setCell W ⟨w.heap.size + 1 + 1, 0, none⟩ (.int .i64 (l.length : Int))).trans (KeepsOthers.setCell _ ⟨w.heap.size + 1 + 1 + 1, 0, none⟩ (.int .i64 0))).same D _ HKd.out rfl
      refine ⟨by simp, .inl ⟨_, _, rfl, run_takeDeferred hK, ?_⟩⟩
      have hkk := fun {g : Nat} {cs : Array Value} {t : TypeId} (h : ((W.setCell ⟨w.heap.size + 1 + 1, 0, none⟩ (.int .i64 (l.length : Int))).setCell ⟨w.heap.size + 1 + 1 + 1, 0, none⟩ (.int .i64 0)).heap[g]? = some (.cells cs t (0, 0))) => cells_kept (grownBy_putObj' _ D (.deferred none)) (fun r e => by cases e; exact ⟨_, hK, rfl⟩) h
      have g6 := cell_two (hkk H3.out.b6) 0 rfl
      have g7 := cell_two (hkk H3.out.b7) 0 rfl
      refine ⟨.tuple #[.int .i64 (l.length : Int), .int .i64 0], by simp [results, Try.f17, go_sem, g6, g7], by rw [← HRR.out, HC2.out], ?_⟩
      exact H3.out.bel.trans (belowK_b (w := w) (Nat.le_refl _) _ D _ _ (by omega) hK rfl rfl)
  case stop =>
    rintro D cd pre W hD _ ⟨rfl, x, y, h1, h2⟩ hK
    have H1 := Aside0.mk h1
    have H2' := Aside0.mk h2
    have HRR := Aside0.mk hR
    clear h1 h2 hR
    gi_wp2
    refine ⟨by simp, .inl ⟨_, _, rfl, run_takeDeferred hK, ?_⟩⟩
    have hkk := fun {g : Nat} {cs : Array Value} {t : TypeId} (h : W.heap[g]? = some (.cells cs t (0, 0))) => cells_kept (grownBy_putObj' W D (.deferred none)) (fun r e => by cases e; exact ⟨_, hK, rfl⟩) h
    have g6 := cell_two (hkk H1.out.b6) 0 rfl
    have g7 := cell_two (hkk H1.out.b7) 0 rfl
    refine ⟨.tuple #[.int .i64 x, .int .i64 y], by simp [results, Try.f17, go_sem, g6, g7], by first | rw [H2'.out] | rw [← HRR.out, H2'.out], ?_⟩
    exact H1.out.bel.trans (belowK_b (w := w) (Nat.le_refl _) _ D _ _ (by omega) hK rfl rfl)
def checkS (a : S23) (l : List S47) (p : List S45) : Int × Int := if errY a l = 0 then checkL 0 (runP a 0 [] l) p else (0, errY a l)
theorem Check_any (a : S23) (A A2 : Option Addr) (c c2 : Nat) (l : List S47) (p : List S45) (w : World) (hr : Kd.C k47 w A l.length l) (hc : l.length ≤ c) (hr2 : Kd.C k45 w A2 p.length p) (hc2 : p.length ≤ c2) :
    Calls Try.prog 17 #[actV a, .slice A l.length c, .slice A2 p.length c2] w (CheckPost (checkS a l p) w) := by
  unfold checkS
  by_cases he : errY a l = 0
  · rw [if_pos he]
    exact check_main a A A2 c c2 l p w hr hc hr2 hc2 he
  · rw [if_neg he]
    exact check_err a A A2 c p.length c2 l w hr hc he
end Go.Proofs.Ytnammdkpejocmaa.Print
