/- ScaleMore: the walk. -/
import Derived.Test.YtnammdkpejocmaaWD
import Derived.Test.YtnammdkpejocmaaLX
namespace Go.Proofs.Ytnammdkpejocmaa.Print
open Go.RowKit Go.Proofs.YtnammdkpejocmaaW.PrintWords Go.Proofs.YtnammdkpejocmaaW.PrintLast Go.Proofs.YtnammdkpejocmaaW.PrintMore
set_option linter.unusedVariables false
set_option linter.unusedSimpArgs false
attribute [local go_sem] Oper.semAt_some min2_mn min_two
/-- A row of bits, as a number. -/
def bs_ (n m : Nat) : Array Bool := ((List.range n).map fun k => m.testBit k).toArray
theorem LM_ : (∀ (f : Operand → Value) (l : List Operand), l.toArray.map f = (l.map f).toArray) ∧ (∀ (f : Operand → Value) (x : Operand) (l : List Operand), (x :: l).map f = f x :: l.map f) ∧ (∀ f : Operand → Value, ([] : List Operand).map f = []) :=
  ⟨fun _ _ => List.map_toArray .., fun _ _ _ => List.map_cons .., fun _ => List.map_nil ..⟩
theorem N2_ : (∀ (xs : List Value) (i : Nat) (v : Value), xs.toArray.setIfInBounds i v = (xs.set i v).toArray) ∧ (∀ (x : Value) (xs : List Value) (v : Value), (x :: xs).set 0 v = v :: xs) ∧ (∀ (x : Value) (xs : List Value) (i : Nat) (v : Value), (x :: xs).set (i + 1) v = x :: xs.set i v) :=
  ⟨fun _ _ _ => List.setIfInBounds_toArray _ _ _, fun _ _ _ => List.set_cons_zero, fun _ _ _ _ => List.set_cons_succ⟩
theorem N1_ : ((∀ (xs : List Value) (i : Nat) (v : Value), xs.toArray.setIfInBounds i v = (xs.set i v).toArray) ∧ (∀ (x : Value) (xs : List Value) (v : Value), (x :: xs).set 0 v = v :: xs) ∧ (∀ (x : Value) (xs : List Value) (i : Nat) (v : Value), (x :: xs).set (i + 1) v = x :: xs.set i v)) ∧
    (∀ n : Int, IntKind.i64.wrap n = Go.RowKit.wrap64 n) ∧ (∀ n : Int, IntKind.i32.wrap n = Go.RowKit.wrap32 n) := ⟨N2_, i64_w, i32_w⟩
/-- What holds of the world before the year is chosen. -/
structure More0 (w W : World) (a : S23) (A1 : Option Addr) (c1 : Nat) (l : List S47) : Prop where
  act : W.heap[w.heap.size]? = some (.cells #[.int .i64 a.f0, .int .i64 a.f1, .int .i64 a.f2, .int .i64 a.f3, .int .i64 a.f4, .int .i64 a.f5] 23 (0, 0))
  lb : W.heap[w.heap.size + 1]? = some (.cells #[.slice A1 l.length c1] 29 (0, 0))
  yrs : Kd.C k47 W A1 l.length l
  bel : Below w.heap.size w W
theorem More0.next {w W W' : World} {a : S23} {A1 : Option Addr} {c1 : Nat} {l : List S47} (h : More0 w W a A1 c1 l) (hb : Below W.heap.size W W') : More0 w W' a A1 c1 l where
  act := blk_below h.act hb
  lb := blk_below h.lb hb
  yrs := Kd.C_below h.yrs hb
  bel := bl_next' h.bel hb
theorem more0 {w : World} {a : S23} {A1 : Option Addr} {c1 : Nat} {l : List S47} (hr : Kd.C k47 w A1 l.length l) : More0 w ((w.alloc (actC a)).alloc (.cells #[.slice A1 l.length c1] 29)) a A1 c1 l where
  act := blk_alloc (blk_new w (actC a)) _
  lb := by
    have := blk_new (w.alloc (actC a)) (.cells #[.slice A1 l.length c1] 29)
    simpa using this
  yrs := Kd.C_alloc (Kd.C_alloc hr _) _
  bel := below_alloc (below_alloc (Below.refl _ _) _) _
structure MoreAt (w W : World) (a : S23) (A1 : Option Addr) (c1 : Nat) (l : List S47) (BK k : Nat) (A2 : Option Addr) (R : List S45) : Prop where
  act : W.heap[w.heap.size]? = some (.cells #[.int .i64 a.f0, .int .i64 a.f1, .int .i64 a.f2, .int .i64 a.f3, .int .i64 a.f4, .int .i64 a.f5] 23 (0, 0))
  lb : W.heap[w.heap.size + 1]? = some (.cells #[.slice A1 l.length c1] 29 (0, 0))
  kb : W.heap[BK]? = some (.cells #[.int .i64 (k : Int)] 3 (0, 0))
  yrs : Kd.C k47 W A1 l.length l
  pay : Kd.C k45 W A2 l.length R
  bel : Below w.heap.size w W
theorem MoreAt.next {w W W' : World} {a : S23} {A1 : Option Addr} {c1 : Nat} {l : List S47} {BK k : Nat} {A2 : Option Addr} {R : List S45} (h : MoreAt w W a A1 c1 l BK k A2 R) (hb : Below W.heap.size W W') : MoreAt w W' a A1 c1 l BK k A2 R where
  act := blk_below h.act hb
  lb := blk_below h.lb hb
  kb := blk_below h.kb hb
  yrs := Kd.C_below h.yrs hb
  pay := Kd.C_below h.pay hb
  bel := bl_next' h.bel hb
set_option maxHeartbeats 4000000 in
set_option maxRecDepth 1000000 in
theorem more_big (a : S23) (A1 : Option Addr) (c1 : Nat) (l : List S47) (x by_ : Int) (w : World) (hr : Kd.C k47 w A1 l.length l) (h : 24 < l.length ∨ l.length = 0) :
    Calls Try.prog 8 #[actV a, .slice A1 l.length c1, .int .u8 x, .int .u32 by_] w fun e w' => e = .returned (.bool true) ∧ Below w.heap.size w w' := by
  have H0 := Aside0.mk (more0 (a := a) (c1 := c1) hr)
  have hm := Kd.C_max hr
  have b0 := cell_two H0.out.lb 0 rfl
  clear hr
  rcases h with h | h
  · have d1 : decide ((l.length : Int) > 24) = true := decide_eq_true (by omega)
    go_enter Try.func8, Try.ntmps8
    go_wp2_with (go_at_call 14; refine (alive_any _).mono ?_; rintro e W1 ⟨rfl, hb⟩; have HB1 := Aside0.mk (bl_next' H0.out.bel hb); clear hb)
    go_ret
    exact ⟨rfl, HB1.out⟩
  · have d1 : decide ((l.length : Int) > 24) = false := decide_eq_false (by omega)
    have d2 : ((l.length : Int) == 0) = true := by rw [h]; rfl
    clear h
    go_enter Try.func8, Try.ntmps8
    go_wp2_with (go_at_call 14; refine (alive_any _).mono ?_; rintro e W1 ⟨rfl, hb⟩; have HB1 := Aside0.mk (bl_next' H0.out.bel hb); clear hb)
    go_ret
    exact ⟨rfl, HB1.out⟩
set_option maxHeartbeats 4000000 in
set_option maxRecDepth 1000000 in
theorem more_err (a : S23) (A1 : Option Addr) (c1 : Nat) (l : List S47) (x by_ er : Int) (w : World) (hr : Kd.C k47 w A1 l.length l) (hc : l.length ≤ c1) (h24 : l.length ≤ 24) (h0 : l.length ≠ 0) (he : er ≠ 0) (hR : runS a l = ([], er)) :
    Calls Try.prog 8 #[actV a, .slice A1 l.length c1, .int .u8 x, .int .u32 by_] w fun e w' => e = .returned (.bool true) ∧ Below w.heap.size w w' := by
  have H0 := Aside0.mk (more0 (a := a) (c1 := c1) hr)
  have HRun := Aside0.mk (fun (W : World) (h : Kd.C k47 W A1 l.length l) => by have := Run_any a A1 c1 l W h hc; rw [hR] at this; exact this)
  have d1 : decide ((l.length : Int) > 24) = false := decide_eq_false (by omega)
  have d2 : ((l.length : Int) == 0) = false := beq_eq_false_iff_ne.2 (by omega)
  have d3 : (er != 0) = true := bne_iff_ne.2 he
  have s0 : ((w.alloc (actC a)).alloc (.cells #[.slice A1 l.length c1] 29)).cell? ⟨w.heap.size, 0, none⟩ = some (.int .i64 a.f0) := cell_two H0.out.act 0 rfl
  have s1 : ((w.alloc (actC a)).alloc (.cells #[.slice A1 l.length c1] 29)).cell? ⟨w.heap.size, 1, none⟩ = some (.int .i64 a.f1) := cell_two H0.out.act 1 rfl
  have s2 : ((w.alloc (actC a)).alloc (.cells #[.slice A1 l.length c1] 29)).cell? ⟨w.heap.size, 2, none⟩ = some (.int .i64 a.f2) := cell_two H0.out.act 2 rfl
  have s3 : ((w.alloc (actC a)).alloc (.cells #[.slice A1 l.length c1] 29)).cell? ⟨w.heap.size, 3, none⟩ = some (.int .i64 a.f3) := cell_two H0.out.act 3 rfl
  have s4 : ((w.alloc (actC a)).alloc (.cells #[.slice A1 l.length c1] 29)).cell? ⟨w.heap.size, 4, none⟩ = some (.int .i64 a.f4) := cell_two H0.out.act 4 rfl
  have s5 : ((w.alloc (actC a)).alloc (.cells #[.slice A1 l.length c1] 29)).cell? ⟨w.heap.size, 5, none⟩ = some (.int .i64 a.f5) := cell_two H0.out.act 5 rfl
  have b0 : ((w.alloc (actC a)).alloc (.cells #[.slice A1 l.length c1] 29)).cell? ⟨w.heap.size + 1, 0, none⟩ = some (.slice A1 l.length c1) := cell_two H0.out.lb 0 rfl
  clear hr hR he h0
  go_enter Try.func8, Try.ntmps8
  go_wp2_with (first
    | (go_at_call 15; refine (HRun.out _ H0.out.yrs).mono ?_; rintro e W1 ⟨v0, rfl, hv, hb⟩; obtain ⟨A2, c2, rfl, hc2, hC2⟩ := Kd.R_reads hv; have HB1 := Aside0.mk (bl_next' H0.out.bel hb); clear hv hb hC2 hc2)
    | (go_at_call 14; refine (alive_any _).mono ?_; rintro e W3 ⟨rfl, hb⟩; have HB3 := Aside0.mk (bl_next' HB1.out hb); clear hb))
  go_ret
  exact ⟨rfl, HB3.out⟩
set_option maxHeartbeats 60000000 in
set_option maxRecDepth 1000000 in
theorem more_main (a : S23) (A1 : Option Addr) (c1 : Nat) (l : List S47) (x by_ p1 : Int) (R M : List S45) (k : Nat) (w : World) (hr : Kd.C k47 w A1 l.length l) (hc : l.length ≤ c1) (h16 : l.length ≤ 16) (h0 : l.length ≠ 0) (he : errY a l = 0)
    (hx : 0 ≤ x ∧ x ≤ 255) (hby : 0 ≤ by_ ∧ by_ ≤ 4294967295) (hk : x % (l.length : Int) = (k : Int)) (hkl : k < l.length) (hR : runP a 0 [] l = R)
    (hy2 : -1099511627776 ≤ (rd_T47 l k).f2 ∧ (rd_T47 l k).f2 ≤ 1099511627776) (hp1 : mn 1099511627776 ((rd_T47 l k).f2 + by_) = p1) (hM : runP a 0 [] (putY l k p1) = M) (hok : ∀ n : Int, -1099511627776 ≤ n → n ≤ 1099511627776 → errY a (putY l k n) = 0) (hpb : -1099511627776 ≤ p1 ∧ p1 ≤ 1099511627776)
    (m1 : (rd_T45 R k).f2 ≤ (rd_T45 M k).f2) (m2 : (rd_T45 R k).f5 ≤ (rd_T45 M k).f5)
    (m3 : ∀ i : Nat, i < k → rd_T45 M i = rd_T45 R i) (m4 : ∀ i : Nat, i < l.length → (rd_T45 R i).f4 ≤ (rd_T45 M i).f4 ∧ (rd_T45 M i).f3 ≤ (rd_T45 R i).f3 ∧ (rd_T45 M i).f1 = (rd_T45 R i).f1)
    (ow bal : Int) (hneed : neededS a l k = if ow = 0 then (0, 4) else (ow - bal, 0)) (how : ow = (rd_T45 R k).f1 + if 0 < k then (rd_T45 R ((k - 1 : Nat) : Int)).f3 else 0) (howb : 0 ≤ ow ∧ ow ≤ 10995116277760) (hbalb : -109951162777600 ≤ bal ∧ bal ≤ 109951162777600)
    (hnone : ow = 0 → (rd_T45 R k).f2 = 0) (E S : List S45) (hE : runP a 0 [] (putY l k (ow - bal)) = E) (hS : runP a 0 [] (putY l k (ow - bal - 1)) = S)
    (en : (rd_T45 E k).f2 = ow ∧ (rd_T45 E k).f3 = 0 ∧ (rd_T45 E k).f5 = 0) (sh : ow ≠ 0 → (rd_T45 S k).f2 = ow - 1) :
    Calls Try.prog 8 #[actV a, .slice A1 l.length c1, .int .u8 x, .int .u32 by_] w fun e w' => e = .returned (.bool true) ∧ Below w.heap.size w w' := by
  have H0 := Aside0.mk (more0 (a := a) (c1 := c1) hr)
  have hRl : R.length = l.length := by rw [← hR]; exact runP_len a 0 [] l
  have HRL := Aside0.mk hRl
  have HRun : Aside0 (∀ (W : World), Kd.C k47 W A1 l.length l → Calls Try.prog 15 #[actV a, .slice A1 l.length c1] W (fun e w' => ∃ (A' : Option Addr) (c' : Nat), e = .returned (.tuple #[.slice A' l.length c', .int .i64 0]) ∧ l.length ≤ c' ∧ Kd.C k45 w' A' l.length R ∧ Below W.heap.size W w')) := ⟨fun W h1 => by
    have := Run_any a A1 c1 l W h1 hc
    unfold runS at this
    rw [if_pos he] at this
    refine this.mono ?_
    rintro e w' ⟨v0, rfl, hv, hb⟩
    obtain ⟨A', c', rfl, hc', hC'⟩ := Kd.R_reads hv
    rw [hR, hRl] at hc' hC'
    refine ⟨A', c', ?_, hc', hC', hb⟩
    rw [hR, hRl]⟩
  have HWith : Aside0 (∀ (W : World) (BK : Nat) (A2 : Option Addr) (n : Int), MoreAt w W a A1 c1 l BK k A2 R → -1099511627776 ≤ n → n ≤ 1099511627776 → Calls Try.prog 24 #[.int .i64 n, .pointer (some ⟨w.heap.size + 1, 0, none⟩), .pointer (some ⟨BK, 0, none⟩), .pointer (some ⟨w.heap.size, 0, none⟩)] W fun e w' => ∃ A c, e = .returned (.tuple #[.slice A l.length c, .bool true]) ∧ l.length ≤ c ∧ Kd.C k45 w' A l.length (runP a 0 [] (putY l k n)) ∧ Below W.heap.size W w') := ⟨fun W BK A2 n h h1 h2 => more_with a A1 c1 l k n W (w.heap.size + 1) BK w.heap.size h.lb h.kb h.act h.yrs hc hkl h16 (hok n h1 h2)⟩
  have HFirst : Aside0 (∀ (W : World), Kd.C k47 W A1 l.length l → Calls Try.prog 15 #[actV a, .slice A1 (k + 1) c1] W (fun e w' => ∃ (A' : Option Addr) (c' : Nat), e = .returned (.tuple #[.slice A' (k + 1) c', .int .i64 0]) ∧ k + 1 ≤ c' ∧ Kd.C k45 w' A' (k + 1) (R.take (k + 1)) ∧ Below W.heap.size W w')) := ⟨fun W h1 => by
    have hl2 : (l.take (k + 1)).length = k + 1 := by rw [List.length_take]; omega
    have hr2 : (R.take (k + 1)).length = k + 1 := by rw [List.length_take]; omega
    have h2 := Kd.C_take h1 (show k + 1 ≤ l.length by omega)
    have := Run_any a A1 c1 (l.take (k + 1)) W h2 (by omega)
    obtain ⟨ha, h16', hbad⟩ := err_fine he
    have he2 : errY a (l.take (k + 1)) = 0 := by
      unfold errY
      rw [if_pos ha, if_neg (by omega), if_neg (by rw [take_bad _ hbad]; decide)]
    unfold runS at this
    rw [if_pos he2, hl2, runP_take, hR] at this
    refine this.mono ?_
    rintro e w' ⟨v0, rfl, hv, hb⟩
    obtain ⟨A', c', rfl, hc', hC'⟩ := Kd.R_reads hv
    rw [hr2] at hc' hC'
    refine ⟨A', c', ?_, hc', hC', hb⟩
    rw [hr2]⟩
  have HPay : Aside0 (∀ (W : World) (A A' : Option Addr) (c c' : Nat), Kd.C k45 W A (k + 1) (R.take (k + 1)) → k + 1 ≤ c → Kd.C k45 W A' l.length R → k + 1 ≤ c' → Calls Try.prog 21 #[.slice A (k + 1) c, .slice A' (k + 1) c'] W (fun e w' => e = .returned (.bool true) ∧ Below W.heap.size W w')) := ⟨fun W A A' c c' h1 h2 h3 h4 => by
    have hr2 : (R.take (k + 1)).length = k + 1 := by rw [List.length_take]; omega
    have h5 := Kd.C_take (by rw [← hRl] at h3; exact h3) (show k + 1 ≤ R.length by omega)
    have := gasworksref13_Payments.calls 200 A c (R.take (k + 1)) A' c' (R.take (k + 1)) true W (by rw [hr2]; exact h1) (by omega) h5 (by omega) (Pay_fk 100 _ (by omega))
    rw [hr2] at this
    exact this.mono fun e w' h => ⟨h.1, h.2.below⟩⟩
  have HNeed : Aside0 (∀ (W : World), Kd.C k47 W A1 l.length l → Calls Try.prog 19 #[actV a, .slice A1 l.length c1, .int .i64 (k : Int)] W (CheckPost (if ow = 0 then (0, 4) else (ow - bal, 0)) W)) := ⟨fun W h => by
    have := Needed_any a A1 c1 l (k : Int) W h hc
    rw [hneed] at this
    exact this⟩
  have hwb : wrap64 (ow - bal) = ow - bal := by unfold wrap64; omega
  have HOW := Aside0.mk how
  have HNONE := Aside0.mk hnone
  have HEE := Aside0.mk hE
  have HSS := Aside0.mk hS
  have HEN := Aside0.mk en
  have HSH := Aside0.mk sh
  clear how hnone hE hS en sh hneed hwb
  have d1 : decide ((l.length : Int) > 24) = false := decide_eq_false (by omega)
  have d2 : ((l.length : Int) == 0) = false := beq_eq_false_iff_ne.2 (by omega)
  have nz : ¬ ((l.length : Int) = 0) := by omega
  have s0 : ((w.alloc (actC a)).alloc (.cells #[.slice A1 l.length c1] 29)).cell? ⟨w.heap.size, 0, none⟩ = some (.int .i64 a.f0) := cell_two H0.out.act 0 rfl
  have s1 : ((w.alloc (actC a)).alloc (.cells #[.slice A1 l.length c1] 29)).cell? ⟨w.heap.size, 1, none⟩ = some (.int .i64 a.f1) := cell_two H0.out.act 1 rfl
  have s2 : ((w.alloc (actC a)).alloc (.cells #[.slice A1 l.length c1] 29)).cell? ⟨w.heap.size, 2, none⟩ = some (.int .i64 a.f2) := cell_two H0.out.act 2 rfl
  have s3 : ((w.alloc (actC a)).alloc (.cells #[.slice A1 l.length c1] 29)).cell? ⟨w.heap.size, 3, none⟩ = some (.int .i64 a.f3) := cell_two H0.out.act 3 rfl
  have s4 : ((w.alloc (actC a)).alloc (.cells #[.slice A1 l.length c1] 29)).cell? ⟨w.heap.size, 4, none⟩ = some (.int .i64 a.f4) := cell_two H0.out.act 4 rfl
  have s5 : ((w.alloc (actC a)).alloc (.cells #[.slice A1 l.length c1] 29)).cell? ⟨w.heap.size, 5, none⟩ = some (.int .i64 a.f5) := cell_two H0.out.act 5 rfl
  have b0 : ((w.alloc (actC a)).alloc (.cells #[.slice A1 l.length c1] 29)).cell? ⟨w.heap.size + 1, 0, none⟩ = some (.slice A1 l.length c1) := cell_two H0.out.lb 0 rfl
  have HM := Aside0.mk hM
  have HP1 := Aside0.mk hp1
  have M1 := Aside0.mk m1
  have M2 := Aside0.mk m2
  have M3 := Aside0.mk m3
  have M4 := Aside0.mk m4
  have HE := Aside0.mk he
  have HRR := Aside0.mk hR
  have HKX := Aside0.mk hk
  clear hr hR he h0 hM hp1 m1 m2 m3 m4 hok hRl
  go_enter Try.func8, Try.ntmps8
  go_upto_region 9 with (first
    | (go_at_call 15; refine (HRun.out _ H0.out.yrs).mono ?_; rintro e W1 ⟨A2, c2, rfl, hc2, hC2, hb⟩; have H1 := Aside0.mk (H0.out.next hb); have HC2 := Aside0.mk hC2; have Hc2 := Aside0.mk hc2; clear hb hC2 hc2; clear s0 s1 s2 s3 s4 s5 b0; have s0 : W1.cell? ⟨w.heap.size, 0, none⟩ = some (.int .i64 a.f0) := cell_two H1.out.act 0 rfl; have s1 : W1.cell? ⟨w.heap.size, 1, none⟩ = some (.int .i64 a.f1) := cell_two H1.out.act 1 rfl; have s2 : W1.cell? ⟨w.heap.size, 2, none⟩ = some (.int .i64 a.f2) := cell_two H1.out.act 2 rfl; have s3 : W1.cell? ⟨w.heap.size, 3, none⟩ = some (.int .i64 a.f3) := cell_two H1.out.act 3 rfl; have s4 : W1.cell? ⟨w.heap.size, 4, none⟩ = some (.int .i64 a.f4) := cell_two H1.out.act 4 rfl; have s5 : W1.cell? ⟨w.heap.size, 5, none⟩ = some (.int .i64 a.f5) := cell_two H1.out.act 5 rfl; have b0 : W1.cell? ⟨w.heap.size + 1, 0, none⟩ = some (.slice A1 l.length c1) := cell_two H1.out.lb 0 rfl))
  have H2 : Aside0 (MoreAt w (W1.alloc (.cells #[.int .i64 (k : Int)] 3)) a A1 c1 l W1.heap.size k A2 R) := ⟨⟨blk_alloc H1.out.act _, blk_alloc H1.out.lb _, blk_new W1 _, Kd.C_alloc H1.out.yrs _, Kd.C_alloc HC2.out _, below_alloc H1.out.bel _⟩⟩
  clear s0 s1 s2 s3 s4 s5 b0
  generalize W1.alloc (.cells #[.int .i64 (k : Int)] 3) = W2 at H2 ⊢
  generalize W1.heap.size = BK at H2 ⊢
  have k0 : (0 : Int) ≤ (k : Int) := Int.natCast_nonneg k
  have k1 : (k : Int) < (l.length : Int) := by omega
  have v1 : IntKind.i64.wrap by_ = by_ := IntWalk.i64_in _ (by omega)
  have v2 : wrap64 ((rd_T47 l k).f2 + by_) = (rd_T47 l k).f2 + by_ := by unfold wrap64; omega
  have v3 := HP1.out
  obtain ⟨ad, e, g0, g1, g2⟩ := at_T47 H2.out.yrs k k0 k1
  cases e
  simp only [Int.toNat_natCast] at g0 g1 g2
  have b0 : W2.cell? ⟨w.heap.size + 1, 0, none⟩ = some (.slice (some ad) l.length c1) := cell_two H2.out.lb 0 rfl
  have b1 : W2.cell? ⟨BK, 0, none⟩ = some (.int .i64 (k : Int)) := cell_two H2.out.kb 0 rfl
  go_upto_region 11 with (first
    | (go_at_call 24; refine (HWith.out _ _ _ p1 H2.out hpb.1 hpb.2).mono ?_; rintro e W3 ⟨A3, c3, rfl, hc3, hC3, hb⟩; have H3 := Aside0.mk (H2.out.next hb); rw [HM.out] at hC3; have HC3 := Aside0.mk hC3; have Hc3 := Aside0.mk hc3; clear hb hC3 hc3 g0 g1 g2 b0 b1 v1 v2 v3))
  have b1 : W3.cell? ⟨BK, 0, none⟩ = some (.int .i64 (k : Int)) := cell_two H3.out.kb 0 rfl
  obtain ⟨ad2, e2, p0, p1', p2, p3, p4, p5⟩ := at_T45 H3.out.pay k k0 k1
  cases e2
  obtain ⟨ad3, e3, q0, q1, q2, q3, q4, q5⟩ := at_T45 HC3.out k k0 k1
  cases e3
  simp only [Int.toNat_natCast] at p0 p1' p2 p3 p4 p5 q0 q1 q2 q3 q4 q5
  have n1 : decide ((rd_T45 M k).f2 < (rd_T45 R k).f2) = false := decide_eq_false (by have := M1.out; omega)
  have n2 : decide ((rd_T45 M k).f5 < (rd_T45 R k).f5) = false := decide_eq_false (by have := M2.out; omega)
  go_big_region
  have H4 := Aside0.mk (H3.out.next (below_drew (Below.refl _ W3)))
  have HC4 := Aside0.mk (Kd.C_drew HC3.out)
  clear p0 p1' p2 p3 p4 p5 q0 q1 q2 q3 q4 q5 n1 n2 b1
  generalize W3.drew = W4 at H4 HC4 ⊢
  go_wp2_with (fail)
  go_loopw [102] (fun i wr => ∃ j : Nat, i = .int .i64 (j : Int) ∧ j ≤ l.length ∧ Aside0 (MoreAt w wr a (some ad) c1 l BK k (some ad2) R) ∧ Aside0 (Kd.C k45 wr (some ad3) l.length M)) (fun i _ => l.length - (intOf i).toNat)
  case atStart => exact ⟨0, rfl, by omega, H4, HC4⟩
  case round =>
    clear H4 HC4
    obtain ⟨j, rfl, hjn, HS, HT⟩ := hrel
    by_cases hlt : j < l.length
    · have e0 : decide ((j : Int) < (l.length : Int)) = true := decide_eq_true (by omega)
      have j0 : (0 : Int) ≤ (j : Int) := Int.natCast_nonneg j
      have j1 : (j : Int) < (l.length : Int) := by omega
      have b1 : wr.cell? ⟨BK, 0, none⟩ = some (.int .i64 (k : Int)) := cell_two HS.out.kb 0 rfl
      obtain ⟨ad2', e2, p0, p1', p2, p3, p4, p5⟩ := at_T45 HS.out.pay j j0 j1
      cases e2
      obtain ⟨ad3', e3, q0, q1, q2, q3, q4, q5⟩ := at_T45 HT.out j j0 j1
      cases e3
      simp only [Int.toNat_natCast] at p0 p1' p2 p3 p4 p5 q0 q1 q2 q3 q4 q5
      have mm := M4.out j hlt
      by_cases hik : j < k
      · have e1 : decide ((j : Int) < (k : Int)) = true := decide_eq_true (by omega)
        rw [M3.out j hik] at q0 q1 q2 q3 q4 q5
        have n1 : decide ((rd_T45 R j).f4 < (rd_T45 R j).f4) = false := decide_eq_false (by omega)
        have n2 : decide ((rd_T45 R j).f3 > (rd_T45 R j).f3) = false := decide_eq_false (by omega)
        clear mm
        as_aux_lemma =>
          go_wp2_with (fail)
          go_big_region
          go_wp2_with (fail)
          go_roundw
          case rel => exact ⟨j + 1, by go_num, by omega, ⟨HS.out.next (below_drew (Below.refl _ wr))⟩, ⟨Kd.C_drew HT.out⟩⟩
          case measure => simp [intOf]; omega
      · have e1 : decide ((j : Int) < (k : Int)) = false := decide_eq_false (by omega)
        have n1 : decide ((rd_T45 M j).f4 < (rd_T45 R j).f4) = false := decide_eq_false (by omega)
        have n2 : decide ((rd_T45 M j).f3 > (rd_T45 R j).f3) = false := decide_eq_false (by omega)
        have n3 : ((rd_T45 M j).f1 != (rd_T45 R j).f1) = false := by rw [mm.2.2]; simp
        clear mm
        as_aux_lemma =>
          go_wp2_with (fail)
          go_big_region
          go_wp2_with (fail)
          go_roundw
          case rel => exact ⟨j + 1, by go_num, by omega, ⟨HS.out.next (below_drew (Below.refl _ wr))⟩, ⟨Kd.C_drew HT.out⟩⟩
          case measure => simp [intOf]; omega
    · have e0 : decide ((j : Int) < (l.length : Int)) = false := decide_eq_false (by omega)
      go_wp2_with (fail)
      clear e0 hlt hjn
      have H6 := Aside0.mk (HS.out.next (below_drew (Below.refl _ wr)))
      have k2 : (k : Int) + 1 ≤ (c1 : Int) := by omega
      have k3 : k + 1 ≤ c1 := by omega
      have k4 : (0 : Int) ≤ (k : Int) + 1 := by omega
      have k5 : ((k : Int) + 1).toNat = k + 1 := by omega
      have k6 : wrap64 ((k : Int) + 1) = (k : Int) + 1 := by unfold wrap64; clear k5; omega
      refine start_ (n := 11) (S := fun w' => w'.cell? ⟨w.heap.size, 0, none⟩ = some (.int .i64 a.f0) ∧ w'.cell? ⟨w.heap.size, 1, none⟩ = some (.int .i64 a.f1) ∧ w'.cell? ⟨w.heap.size, 2, none⟩ = some (.int .i64 a.f2) ∧ w'.cell? ⟨w.heap.size, 3, none⟩ = some (.int .i64 a.f3) ∧ w'.cell? ⟨w.heap.size, 4, none⟩ = some (.int .i64 a.f4) ∧ w'.cell? ⟨w.heap.size, 5, none⟩ = some (.int .i64 a.f5) ∧ w'.cell? ⟨w.heap.size + 1, 0, none⟩ = some (.slice (some ad) l.length c1) ∧ w'.cell? ⟨BK, 0, none⟩ = some (.int .i64 (k : Int))) (ds := []) (bs_ 11 0) (by kernel_rfl) rfl rfl (⟨cell_two H6.out.act 0 rfl, cell_two H6.out.act 1 rfl, cell_two H6.out.act 2 rfl, cell_two H6.out.act 3 rfl, cell_two H6.out.act 4 rfl, cell_two H6.out.act 5 rfl, cell_two H6.out.lb 0 rfl, cell_two H6.out.kb 0 rfl⟩) (fun hHeld => ?_)
      generalize wr.drew = W6 at H6 hHeld ⊢
      refine take_ (i := 0) (N := some 160) (v := ?_) (a' := ?_) (bs_ 11 1) rfl rfl (by kernel_rfl) (fun _ _ _ h => h) (Or.inl ⟨by rfl, ?_⟩) hHeld ?_ ?_; rotate_left; (· rintro w' ⟨s0, s1, s2, s3, s4, s5, s6, s7⟩; go_simp; with_reducible rfl); rotate_left; (· simp only [Act.put, N1_]; rfl)
      refine take_ (i := 1) (N := some 161) (v := ?_) (a' := ?_) (bs_ 11 3) rfl rfl (by kernel_rfl) (fun _ _ _ h => h) (Or.inl ⟨by rfl, ?_⟩) hHeld ?_ ?_; rotate_left; (· rintro w' ⟨s0, s1, s2, s3, s4, s5, s6, s7⟩; go_simp; with_reducible rfl); rotate_left; (· simp only [Act.put, N1_]; rfl)
      refine take_ (i := 2) (N := some 162) (v := ?_) (a' := ?_) (bs_ 11 7) rfl rfl (by kernel_rfl) (fun _ _ _ h => h) (Or.inl ⟨by rfl, ?_⟩) hHeld ?_ ?_; rotate_left; (· rintro w' ⟨s0, s1, s2, s3, s4, s5, s6, s7⟩; go_simp; with_reducible rfl); rotate_left; (· simp only [Act.put, N1_]; rfl)
      refine pure_ (i := 3) (N := some 163) (v := ?_) (a' := ?_) (bs_ 11 15) rfl rfl (by kernel_rfl) (fun _ _ _ h => h) (Or.inl ⟨by rfl, ?_⟩) ?_ ?_; rotate_left; (· intro w'; go_simp; with_reducible rfl); rotate_left; (· simp only [Act.put, N1_]; rfl)
      refine pure_ (i := 4) (N := some 164) (v := ?_) (a' := ?_) (bs_ 11 31) rfl rfl (by kernel_rfl) (fun _ _ _ h => h) (Or.inl ⟨by rfl, ?_⟩) ?_ ?_; rotate_left; (· intro w'; go_simp; with_reducible rfl); rotate_left; (· simp only [Act.put, N1_]; rfl)
      refine one_ (i := 5) (N := some 165) (bs_ 11 63) rfl rfl (by kernel_rfl) (by decide) (fun K hK => ?_)
      refine goes_ Try.func15 (by kernel_rfl) rfl #[(.agg #[.int .i64 a.f0, .int .i64 a.f1, .int .i64 a.f2, .int .i64 a.f3, .int .i64 a.f4, .int .i64 a.f5]), .slice (some ad) (k + 1) c1] (by rfl) rfl rfl (by (try simp only [LM_]); try rfl) ?_
      refine (HFirst.out _ H6.out.yrs).mono ?_
      rintro e W7 ⟨A7, c7, rfl, hc7, hC7, hb⟩
      refine ⟨_, rfl, ?_⟩
      have H7 := Aside0.mk (H6.out.next hb)
      have HC7 := Aside0.mk hC7
      have Hc7 := Aside0.mk hc7
      clear hb hHeld hC7 hc7
      refine hK.out _ _ ⟨cell_two H7.out.act 0 rfl, cell_two H7.out.act 1 rfl, cell_two H7.out.act 2 rfl, cell_two H7.out.act 3 rfl, cell_two H7.out.act 4 rfl, cell_two H7.out.act 5 rfl, cell_two H7.out.lb 0 rfl, cell_two H7.out.kb 0 rfl⟩ (fun hHeld => ?_)
      clear hK K
      refine norm_ (a' := ?_) ?_ ?_; rotate_left; (· show Act.put _ (some 165) _ = _; simp only [Act.put, N1_]; rfl)
      refine pure_ (i := 6) (N := some 159) (v := ?_) (a' := ?_) (bs_ 11 127) rfl rfl (by kernel_rfl) (fun _ _ _ h => h) (Or.inl ⟨by rfl, ?_⟩) ?_ ?_; rotate_left; (· intro w'; go_simp; with_reducible rfl); rotate_left; (· simp only [Act.put, N1_]; rfl)
      refine pure_ (i := 7) (N := some 166) (v := ?_) (a' := ?_) (bs_ 11 255) rfl rfl (by kernel_rfl) (fun _ _ _ h => h) (Or.inl ⟨by rfl, ?_⟩) ?_ ?_; rotate_left; (· intro w'; go_simp; with_reducible rfl); rotate_left; (· simp only [Act.put, N1_]; rfl)
      refine pure_ (i := 8) (N := some 167) (v := ?_) (a' := ?_) (bs_ 11 511) rfl rfl (by kernel_rfl) (fun _ _ _ h => h) (Or.inl ⟨by rfl, ?_⟩) ?_ ?_; rotate_left; (· intro w'; go_simp; with_reducible rfl); rotate_left; (· simp only [Act.put, N1_]; rfl)
      refine pure_ (i := 9) (N := some 16) (v := ?_) (a' := ?_) (bs_ 11 1023) rfl rfl (by kernel_rfl) (fun _ _ _ h => h) (Or.inl ⟨by rfl, ?_⟩) ?_ ?_; rotate_left; (· intro w'; go_simp; with_reducible rfl); rotate_left; (· simp only [Act.put, N1_]; rfl)
      refine pure_ (i := 10) (N := some 17) (v := ?_) (a' := ?_) (bs_ 11 2047) rfl rfl (by kernel_rfl) (fun _ _ _ h => h) (Or.inl ⟨by rfl, ?_⟩) ?_ ?_; rotate_left; (· intro w'; go_simp; with_reducible rfl); rotate_left; (· simp only [Act.put, N1_]; rfl)
      refine done_ (by kernel_rfl) ?_
      clear hHeld k5 k6
      have b1 : W7.cell? ⟨BK, 0, none⟩ = some (.int .i64 (k : Int)) := cell_two H7.out.kb 0 rfl
      have i1 : (0 : Int) ≤ (k : Int) + 1 := by omega
      have i2 : k + 1 ≤ c2 := by have := Hc2.out; omega
      have i3 : (k : Int) + 1 ≤ (c2 : Int) := by omega
      go_upto_region 22 with (first
        | (go_at_call 21; with_reducible refine (HPay.out _ _ _ _ _ HC7.out Hc7.out H7.out.pay i2).mono ?_; rintro e W8 ⟨rfl, hb⟩; have H8 := Aside0.mk (H7.out.next hb); clear hb b1))
      clear i1 i2 i3 k2 k3 k4
      have s0 : W8.cell? ⟨w.heap.size, 0, none⟩ = some (.int .i64 a.f0) := cell_two H8.out.act 0 rfl
      have s1 : W8.cell? ⟨w.heap.size, 1, none⟩ = some (.int .i64 a.f1) := cell_two H8.out.act 1 rfl
      have s2 : W8.cell? ⟨w.heap.size, 2, none⟩ = some (.int .i64 a.f2) := cell_two H8.out.act 2 rfl
      have s3 : W8.cell? ⟨w.heap.size, 3, none⟩ = some (.int .i64 a.f3) := cell_two H8.out.act 3 rfl
      have s4 : W8.cell? ⟨w.heap.size, 4, none⟩ = some (.int .i64 a.f4) := cell_two H8.out.act 4 rfl
      have s5 : W8.cell? ⟨w.heap.size, 5, none⟩ = some (.int .i64 a.f5) := cell_two H8.out.act 5 rfl
      have b0 : W8.cell? ⟨w.heap.size + 1, 0, none⟩ = some (.slice (some ad) l.length c1) := cell_two H8.out.lb 0 rfl
      have b1 : W8.cell? ⟨BK, 0, none⟩ = some (.int .i64 (k : Int)) := cell_two H8.out.kb 0 rfl
      obtain ⟨n1, n2, hnd⟩ : ∃ n1 n2 : Int, (n1, n2) = if ow = 0 then (0, 4) else (ow - bal, 0) := ⟨_, _, rfl⟩
      rw [← hnd] at HNeed
      have HND := Aside0.mk hnd
      clear hnd
      go_upto_region 23 with (first
        | (go_at_call 19; refine (HNeed.out _ H8.out.yrs).mono ?_; rintro e W9 ⟨rfl, hb⟩; have H9 := Aside0.mk (H8.out.next hb); clear hb s0 s1 s2 s3 s4 s5 b0 b1))
      have b1 : W9.cell? ⟨BK, 0, none⟩ = some (.int .i64 (k : Int)) := cell_two H9.out.kb 0 rfl
      obtain ⟨ad2', e2, p0, p1', p2, p3, p4, p5⟩ := at_T45 H9.out.pay k k0 k1
      cases e2
      simp only [Int.toNat_natCast] at p0 p1' p2 p3 p4 p5
      go_upto_if 192 with (fail)
      go_cut [20] (fun v20 wc => v20 = .int .i64 ow ∧ wc = W9)
      case first =>
        by_cases hk0 : 0 < k
        · have ho := HOW.out
          rw [if_pos hk0] at ho
          obtain ⟨km, hkm⟩ : ∃ km, km = k - 1 := ⟨_, rfl⟩
          rw [← hkm] at ho
          obtain ⟨ad3', e3, q0, q1, q2, q3, q4, q5⟩ := at_T45 H9.out.pay km (by omega) (by omega)
          cases e3
          simp only [Int.toNat_natCast] at q0 q1 q2 q3 q4 q5
          have v1 : wrap64 ((k : Int) - 1) = (km : Int) := by unfold wrap64; omega
          have v2 : wrap64 ((rd_T45 R k).f1 + (rd_T45 R (km : Int)).f3) = ow := by rw [ho]; unfold wrap64; omega
          have v3 : (k : Int) - 1 = (km : Int) := by omega
          have k2 : (0 : Int) ≤ (km : Int) := Int.natCast_nonneg km
          have k3 : (km : Int) < (l.length : Int) := by omega
          have k4 : decide ((k : Int) > 0) = true := decide_eq_true (by omega)
          clear ho hkm
          as_aux_lemma =>
            go_wp2_with (fail)
            go_meet
            case rel => exact ⟨by rw [v2], rfl⟩
        · have ho := HOW.out
          rw [if_neg hk0] at ho
          have v1 : (rd_T45 R k).f1 = ow := by rw [ho]; simp
          have k4 : decide ((k : Int) > 0) = false := decide_eq_false (by omega)
          clear ho
          as_aux_lemma =>
            go_wp2_with (fail)
            go_meet
            case rel => exact ⟨by rw [v1], rfl⟩
      case rest =>
        obtain ⟨rfl, rfl⟩ := hcut
        as_aux_lemma =>
          by_cases how0 : ow = 0
          · have hnd := HND.out
            rw [if_pos how0] at hnd
            cases hnd
            have hz := HNONE.out how0
            rw [hz] at p2
            have z1 : (ow == 0) = true := by rw [how0]; rfl
            clear how0 hz
            go_wp2_with (first
              | (go_at_call 14; refine (alive_any _).mono ?_; rintro e W17 ⟨rfl, hb⟩; have HB17 := Aside0.mk (bl_next' H9.out.bel hb); clear hb))
            go_ret
            exact ⟨rfl, HB17.out⟩
          · have hnd := HND.out
            rw [if_neg how0] at hnd
            cases hnd
            have z1 : (ow == 0) = false := beq_eq_false_iff_ne.2 how0
            by_cases hin : ow - bal ≤ 1099511627776 ∧ -1099511627776 < ow - bal
            · have z2 : decide (ow - bal > 1099511627776) = false := decide_eq_false (by omega)
              have z3 : decide (ow - bal ≤ -1099511627776) = false := decide_eq_false (by omega)
              have z4 : wrap64 (ow - bal - 1) = ow - bal - 1 := by unfold wrap64; omega
              have z5 : wrap64 (ow - 1) = ow - 1 := by unfold wrap64; omega
              obtain ⟨E2, E3, E5⟩ := HEN.out
              have S2 := HSH.out how0
              have hin1 : -1099511627776 ≤ ow - bal := by omega
              have hin2 : ow - bal ≤ 1099511627776 := by omega
              have hin3 : -1099511627776 ≤ ow - bal - 1 := by omega
              have hin4 : ow - bal - 1 ≤ 1099511627776 := by omega
              have hb : k < l.length := hkl
              generalize hnn : ow - bal = nn at *
              go_wp2_with (first
                | (go_at_call 24; have hgu := H10.out; clear hgu; refine (HWith.out _ _ _ (nn - 1) H10.out hin3 hin4).mono ?_; rintro e W11 ⟨A11, c11, rfl, hc11, hC11, hb⟩; have H11 := Aside0.mk (H10.out.next hb); rw [HSS.out] at hC11; have HC11 := Aside0.mk (Kd.C_below HC10.out hb); have HD11 := Aside0.mk hC11; clear hb hC11 hc11; have b1 : W11.cell? ⟨BK, 0, none⟩ = some (.int .i64 (k : Int)) := cell_two H11.out.kb 0 rfl; obtain ⟨ad4, e2, p0, p1', p2, p3, p4, p5⟩ := at_T45 HC11.out k k0 k1; cases e2; obtain ⟨ad5, e3, q0, q1, q2, q3, q4, q5⟩ := at_T45 HD11.out k k0 k1; cases e3; simp only [Int.toNat_natCast] at p0 p1' p2 p3 p4 p5 q0 q1 q2 q3 q4 q5; rw [E2] at p2; rw [E3] at p3; rw [E5] at p5; rw [S2] at q2)
                | (go_at_call 24; refine (HWith.out _ _ _ nn H9.out hin1 hin2).mono ?_; rintro e W10 ⟨A10, c10, rfl, hc10, hC10, hb⟩; have H10 := Aside0.mk (H9.out.next hb); rw [HEE.out] at hC10; have HC10 := Aside0.mk hC10; clear hb hC10 hc10 p0 p1' p2 p3 p4 p5 b1)
                | (go_at_call 14; refine (alive_any _).mono ?_; rintro e W17 ⟨rfl, hb⟩; have HB17 := Aside0.mk (bl_next' H11.out.bel hb); clear hb))
              go_ret
              exact ⟨rfl, HB17.out⟩
            · by_cases hbig : ow - bal > 1099511627776
              · have z2 : decide (ow - bal > 1099511627776) = true := decide_eq_true hbig
                go_wp2_with (first
                  | (go_at_call 14; refine (alive_any _).mono ?_; rintro e W17 ⟨rfl, hb⟩; have HB17 := Aside0.mk (bl_next' H9.out.bel hb); clear hb))
                go_ret
                exact ⟨rfl, HB17.out⟩
              · have z2 : decide (ow - bal > 1099511627776) = false := decide_eq_false hbig
                have z3 : decide (ow - bal ≤ -1099511627776) = true := decide_eq_true (by omega)
                go_wp2_with (first
                  | (go_at_call 14; refine (alive_any _).mono ?_; rintro e W17 ⟨rfl, hb⟩; have HB17 := Aside0.mk (bl_next' H9.out.bel hb); clear hb))
                go_ret
                exact ⟨rfl, HB17.out⟩
end Go.Proofs.Ytnammdkpejocmaa.Print
