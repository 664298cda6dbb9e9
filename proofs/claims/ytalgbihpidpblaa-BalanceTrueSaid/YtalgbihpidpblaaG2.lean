/- The walks of the law (walks). -/
import Derived.Test.YtalgbihpidpblaaG1
import Derived.Laws.ResultCell
namespace Go.Proofs.Ytalgbihpidpblaa.Print
open Go.RowKit Go.Shelf Go.Proofs.YtalgbihpidpblaaW.PrintWords Go.Proofs.YtalgbihpidpblaaW.PrintLast Go.Proofs.YtalgbihpidpblaaW.PrintMore
set_option linter.unusedVariables false
set_option linter.unusedSimpArgs false

theorem put_any (w0 W : World) (AT TR WD PL N RC : Nat) (pl : Int) (A3 : Option Addr) (c3 : Nat) (wd : List Int) (s : Wk) (tv fv : Value) (h : PutAt w0 W AT TR WD PL N RC pl A3 c3 wd s tv fv) (hs : WkOk s) (x : Int) (hx : 0 ≤ x ∧ x < 8)
    (hC : Kd.C (Kd.int .u8) w0 A3 wd.length wd) (hwl : 0 < wd.length) (hwb : ∀ i : Int, 0 ≤ i → i < wd.length → 0 ≤ rd wd i ∧ rd wd i ≤ 255) (hwm : wd.length ≤ 9223372036854775807) :
    Calls Try.prog 42 #[.int .i64 x, .pointer (some ⟨AT, 0, none⟩), .pointer (some ⟨TR, 0, none⟩), .pointer (some ⟨WD, 0, none⟩), .pointer (some ⟨PL, 0, none⟩), .pointer (some ⟨N, 0, none⟩)] W fun e W' =>
      e = .returned (.tuple #[]) ∧ ∃ tv' fv', PutAt w0 W' AT TR WD PL N RC pl A3 c3 wd (putS wd s x) tv' fv' := by
  by_cases hn : x ≠ s.at_ ∧ s.tr.length < 16
  · exact put_main w0 W AT TR WD PL N RC pl A3 c3 wd s tv fv h hs x hx hn.1 hn.2 hC hwl hwb hwm
  · refine (put_skip w0 W AT TR WD PL N RC pl A3 c3 wd s tv fv h hs x hx hn).mono ?_
    rintro e W' ⟨rfl, hp⟩
    have : putS wd s x = ⟨x, s.n, s.tr, s.fl⟩ := if_neg hn
    rw [this]
    exact ⟨rfl, tv, fv, hp⟩

/-- What the walks come to. -/
def walkGo (pl : Int) (st gs wd : List Int) : Nat → Nat → Int → Wk → List S47 × List Int
  | 0, _, b, s => ((putS wd s b).fl, (putS wd s b).tr)
  | d + 1, i, b, s =>
    if rd st i ≥ 200 ∨ s.tr.length = 15 then
      if (putS wd s b).tr.length ≥ 15 then ((putS wd s b).fl, (putS wd s b).tr)
      else walkGo pl st gs wd d (i + 1) (rd st i % pl) ⟨rd st i % pl, rd gs ((i : Int) % (gs.length : Int)), (putS wd s b).tr, (putS wd s b).fl⟩
    else walkGo pl st gs wd d (i + 1) b (if s.tr.length < 15 then putS wd s (rd st i % pl) else s)
def walksS (pl : Int) (st gs wd : List Int) : List S47 × List Int := walkGo pl st gs wd (min st.length 14) 0 0 ⟨0, rd gs 0, [], []⟩

theorem walk_step (pl : Int) (st gs wd : List Int) (M i : Nat) (b : Int) (s : Wk) (h : i < M) : walkGo pl st gs wd (M - i) i b s =
    if rd st i ≥ 200 ∨ s.tr.length = 15 then
      if (putS wd s b).tr.length ≥ 15 then ((putS wd s b).fl, (putS wd s b).tr)
      else walkGo pl st gs wd (M - (i + 1)) (i + 1) (rd st i % pl) ⟨rd st i % pl, rd gs ((i : Int) % (gs.length : Int)), (putS wd s b).tr, (putS wd s b).fl⟩
    else walkGo pl st gs wd (M - (i + 1)) (i + 1) b (if s.tr.length < 15 then putS wd s (rd st i % pl) else s) := by
  have e : M - i = (M - (i + 1)) + 1 := by omega
  rw [e]
  rfl
theorem put_ok (wd : List Int) (s : Wk) (x : Int) (hs : WkOk s) (hx : 0 ≤ x ∧ x < 8) : WkOk (putS wd s x) := by
  obtain ⟨h1, h2, h3, h4⟩ := hs
  unfold putS
  split
  · rename_i h
    exact ⟨hx, h2, by simp; omega, by simp [h4]⟩
  · exact ⟨hx, h2, h3, h4⟩

theorem wk0 (g : Int) (hg : 0 ≤ g ∧ g ≤ 65535) : WkOk ⟨0, g, [], []⟩ := ⟨⟨Int.le_refl _, (by decide : (0 : Int) < 8)⟩, hg, by simp, rfl⟩
theorem put_start (w : World) (pl : Int) (A3 : Option Addr) (c3 : Nat) (wd : List Int) (g x y : Int) (AT N : Nat) (hAN : (AT = w.heap.size + 1 + 1 + 1 + 1 ∧ N = w.heap.size + 1 + 1 + 1 + 1 + 1 ∧ x = 0 ∧ y = g) ∨ (AT = w.heap.size + 1 + 1 + 1 + 1 + 1 ∧ N = w.heap.size + 1 + 1 + 1 + 1 ∧ x = g ∧ y = 0)) (V : World)
    (hV : V = ((((((w.alloc (.cells #[.slice A3 wd.length c3] 39)).alloc (.cells #[.int .i64 0, .slice none 0 0] 24)).alloc (.cells #[.int .i64 pl, .slice none 0 0] 24)).alloc (.cells #[.slice none 0 0] 27)).alloc (.cells #[.int .i64 x] 3)).alloc (.cells #[.int .i64 y] 3)).drew) :
    PutAt w V AT (w.heap.size + 1 + 1 + 1) w.heap.size (w.heap.size + 1 + 1) N (w.heap.size + 1) pl A3 c3 wd ⟨0, g, [], []⟩ (.slice none 0 0) (.slice none 0 0) := by
  have k0 : V.heap[w.heap.size]? = some (.cells #[.slice A3 wd.length c3] 39 (0, 0)) := by
    rw [hV]; exact blk_drew (blk_alloc (blk_alloc (blk_alloc (blk_alloc (blk_alloc (blk_new w _) _) _) _) _) _)
  have k1 : V.heap[w.heap.size + 1]? = some (.cells #[.int .i64 0, .slice none 0 0] 24 (0, 0)) := by
    rw [hV]
    refine blk_drew (blk_alloc (blk_alloc (blk_alloc (blk_alloc ?_ _) _) _) _)
    have := blk_new (w.alloc (.cells #[.slice A3 wd.length c3] 39)) (.cells #[.int .i64 0, .slice none 0 0] 24)
    simpa using this
  have k2 : V.heap[w.heap.size + 1 + 1]? = some (.cells #[.int .i64 pl, .slice none 0 0] 24 (0, 0)) := by
    rw [hV]
    refine blk_drew (blk_alloc (blk_alloc (blk_alloc ?_ _) _) _)
    have := blk_new ((w.alloc (.cells #[.slice A3 wd.length c3] 39)).alloc (.cells #[.int .i64 0, .slice none 0 0] 24)) (.cells #[.int .i64 pl, .slice none 0 0] 24)
    simpa using this
  have k3 : V.heap[w.heap.size + 1 + 1 + 1]? = some (.cells #[.slice none 0 0] 27 (0, 0)) := by
    rw [hV]
    refine blk_drew (blk_alloc (blk_alloc ?_ _) _)
    have := blk_new (((w.alloc (.cells #[.slice A3 wd.length c3] 39)).alloc (.cells #[.int .i64 0, .slice none 0 0] 24)).alloc (.cells #[.int .i64 pl, .slice none 0 0] 24)) (.cells #[.slice none 0 0] 27)
    simpa using this
  have k4 : V.heap[w.heap.size + 1 + 1 + 1 + 1]? = some (.cells #[.int .i64 x] 3 (0, 0)) := by
    rw [hV]
    refine blk_drew (blk_alloc ?_ _)
    have := blk_new ((((w.alloc (.cells #[.slice A3 wd.length c3] 39)).alloc (.cells #[.int .i64 0, .slice none 0 0] 24)).alloc (.cells #[.int .i64 pl, .slice none 0 0] 24)).alloc (.cells #[.slice none 0 0] 27)) (.cells #[.int .i64 x] 3)
    simpa using this
  have k5 : V.heap[w.heap.size + 1 + 1 + 1 + 1 + 1]? = some (.cells #[.int .i64 y] 3 (0, 0)) := by
    rw [hV]
    have := blk_new (((((w.alloc (.cells #[.slice A3 wd.length c3] 39)).alloc (.cells #[.int .i64 0, .slice none 0 0] 24)).alloc (.cells #[.int .i64 pl, .slice none 0 0] 24)).alloc (.cells #[.slice none 0 0] 27)).alloc (.cells #[.int .i64 x] 3)) (.cells #[.int .i64 y] 3)
    refine blk_drew ?_
    simpa using this
  have kb : Below w.heap.size w V := by
    rw [hV]
    refine below_drew ?_
    exact below_alloc (below_alloc (below_alloc (below_alloc (below_alloc (below_alloc (Below.refl _ _) _) _) _) _) _) _
  have kA : V.heap[AT]? = some (.cells #[.int .i64 0] 3 (0, 0)) := by rcases hAN with ⟨rfl, rfl, rfl, rfl⟩ | ⟨rfl, rfl, rfl, rfl⟩ <;> assumption
  have kN : V.heap[N]? = some (.cells #[.int .i64 g] 3 (0, 0)) := by rcases hAN with ⟨rfl, rfl, rfl, rfl⟩ | ⟨rfl, rfl, rfl, rfl⟩ <;> assumption
  exact {
    bat := kA
    bn := kN
    btr := k3
    bwd := k0
    bpl := k2
    brc := k1
    ne := by omega
    ne2 := by omega
    gat := by omega
    gtr := by omega
    gpl := by omega
    gn := by omega
    tr := Kd.R_nil _ _ _ _ _
    fl := Kd.R_nil _ _ _ _ _
    bel := kb }

theorem store_n {w0 W : World} {AT TR WD PL N RC : Nat} {pl : Int} {A3 : Option Addr} {c3 : Nat} {wd : List Int} {s : Wk} {tv fv : Value} (h : PutAt w0 W AT TR WD PL N RC pl A3 c3 wd s tv fv) (g : Int) :
    PutAt w0 (W.setCell ⟨N, 0, none⟩ (.int .i64 g)) AT TR WD PL N RC pl A3 c3 wd ⟨s.at_, g, s.tr, s.fl⟩ tv fv where
  bat := blk_set_ne h.bat h.ne.symm 0 _
  bn := blk_put h.bn 0 (.int .i64 g) rfl
  btr := blk_set_ne h.btr (blk_ne h.bn h.btr (by decide)) 0 _
  bwd := blk_set_ne h.bwd (blk_ne h.bn h.bwd (by decide)) 0 _
  bpl := blk_set_ne h.bpl (blk_ne h.bn h.bpl (by decide)) 0 _
  brc := blk_set_ne h.brc (blk_ne h.bn h.brc (by decide)) 0 _
  ne := h.ne
  ne2 := h.ne2
  gat := h.gat
  gtr := h.gtr
  gpl := h.gpl
  gn := h.gn
  tr := Kd.R_far h.tr (fun _ hk => hk.2) _
  fl := Kd.R_set h.fl h.bn (by decide) 0 _
  bel := h.bel.setCell h.gn _

theorem results_two_row {P : Program} {fn : Func} {p u : Tmp} {ty : TypeId} (h : fn.results = #[.cell p ty, .tmp u]) (tmps : Array Value) (w : World) (g : Nat) (t : TypeId) (cs : Array Value) (fr : Nat × Nat) (d : TypeDesc) (v : Value)
    (hp : tmps.getD p undef = .pointer (some ⟨g, 0, none⟩)) (hv : tmps.getD u undef = v) (hg : w.heap[g]? = some (.cells cs t fr))
    (hu : P.underlying ty = some d) (hd : (match d with | .struct _ | .array _ _ => true | _ => false) = true) (hi : (P.info? ty).map (·.size) = some cs.size) :
    (results fn tmps).run P w = .ok (.tuple #[.agg cs, v]) w := by
  rw [results_cell_tmp h, hp, hv]
  simp [asAddr, Result.andThen, run_loadVar_row w g t ty cs fr d hg hu hd hi]

theorem out_row {w0 W : World} {AT TR WD PL N RC : Nat} {pl : Int} {A3 : Option Addr} {c3 : Nat} {wd : List Int} {s : Wk} {tv fv : Value} (h : PutAt w0 W AT TR WD PL N RC pl A3 c3 wd s tv fv) (hr : w0.heap.size ≤ RC) :
    ((W.setCell ⟨RC, 0, none⟩ (.int .i64 pl)).setCell ⟨RC, 1, none⟩ fv).heap[RC]? = some (.cells #[.int .i64 pl, fv] 24 (0, 0)) ∧
    Kd.R k47 47 ((W.setCell ⟨RC, 0, none⟩ (.int .i64 pl)).setCell ⟨RC, 1, none⟩ fv) w0.heap.size (fun _ => True) fv s.fl ∧
    Kd.R (Kd.int .i64) 3 ((W.setCell ⟨RC, 0, none⟩ (.int .i64 pl)).setCell ⟨RC, 1, none⟩ fv) w0.heap.size (fun _ => True) tv s.tr ∧
    Below w0.heap.size w0 ((W.setCell ⟨RC, 0, none⟩ (.int .i64 pl)).setCell ⟨RC, 1, none⟩ fv) :=
  ⟨blk_put (blk_put h.brc 0 _ rfl) 1 _ rfl, Kd.R_set (Kd.R_set h.fl h.brc (by decide) 0 _) (blk_put h.brc 0 (.int .i64 pl) rfl) (by decide) 1 _,
    Kd.R_mono (Kd.R_set (Kd.R_set h.tr h.brc (by decide) 0 _) (blk_put h.brc 0 (.int .i64 pl) rfl) (by decide) 1 _) (fun _ _ => trivial), (h.bel.setCell hr _).setCell hr _⟩

set_option maxHeartbeats 4000000 in
set_option maxRecDepth 100000 in
theorem walks_any (pl : Int) (A1 A2 A3 : Option Addr) (c1 c2 c3 : Nat) (st gs wd : List Int) (w : World) (h2 : 2 ≤ pl) (h8 : pl ≤ 8)
    (r1 : Kd.C (Kd.int .u8) w A1 st.length st) (r2 : Kd.C (Kd.int .u16) w A2 gs.length gs) (r3 : Kd.C (Kd.int .u8) w A3 wd.length wd)
    (l1 : 0 < st.length) (l2 : 0 < gs.length) (l3 : 0 < wd.length) (m1 : st.length ≤ 9223372036854775807) (m2 : gs.length ≤ 9223372036854775807) (m3 : wd.length ≤ 9223372036854775807)
    (b1 : ∀ i : Int, 0 ≤ i → i < st.length → 0 ≤ rd st i ∧ rd st i ≤ 255) (b2 : ∀ i : Int, 0 ≤ i → i < gs.length → 0 ≤ rd gs i ∧ rd gs i ≤ 65535) (b3 : ∀ i : Int, 0 ≤ i → i < wd.length → 0 ≤ rd wd i ∧ rd wd i ≤ 255) :
    Calls Try.prog 21 #[.int .i64 pl, .slice A1 st.length c1, .slice A2 gs.length c2, .slice A3 wd.length c3] w fun e w' => ∃ v1_ v2_ : Value, e = .returned (.tuple #[.agg #[.int .i64 pl, v1_], v2_]) ∧
      Kd.R k47 47 w' w.heap.size (fun _ => True) v1_ (walksS pl st gs wd).1 ∧ Kd.R (Kd.int .i64) 3 w' w.heap.size (fun _ => True) v2_ (walksS pl st gs wd).2 ∧ Below w.heap.size w w' := by
  have R1 := Aside0.mk r1
  have R2 := Aside0.mk r2
  have R3 := Aside0.mk r3
  have B1 := Aside0.mk b1
  have B2 := Aside0.mk b2
  have B3 := Aside0.mk b3
  obtain ⟨R, hR⟩ : ∃ R, R = walksS pl st gs wd := ⟨_, rfl⟩
  rw [← hR]
  have HR := Aside0.mk hR
  clear hR
  obtain ⟨ad1, e, _⟩ := Kd.at_int r1 0 (by decide) (by omega)
  cases e
  obtain ⟨ad2, e, g0⟩ := Kd.at_int r2 0 (by decide) (by omega)
  cases e
  have g0' : w.cell? (ad2.add 0) = some (.int .u16 (rd gs 0)) := g0
  have ez : ad2.add 0 = ad2 := by cases ad2 with | mk b o s => unfold Addr.add; cases s <;> simp
  rw [ez] at g0'
  have bg := b2 0 (by decide) (by omega)
  have hb2 := World.block_lt_of_cell? _ _ g0'
  have u4 : Below w.heap.size w ((((w.alloc (.cells #[.slice A3 wd.length c3] 39)).alloc (.cells #[.int .i64 0, .slice none 0 0] 24)).alloc (.cells #[.int .i64 pl, .slice none 0 0] 24)).alloc (.cells #[.slice none 0 0] 27)) := below_alloc (below_alloc (below_alloc (below_alloc (Below.refl _ _) _) _) _) _
  have g4 := (u4.cell hb2).trans g0'
  have g5 := ((below_alloc u4 (.cells #[.int .i64 0] 3)).cell hb2).trans g0'
  have g6 := ((below_alloc (below_alloc u4 (.cells #[.int .i64 0] 3)) (.cells #[.int .i64 0] 3)).cell hb2).trans g0'
  clear u4
  have lg : (0 : Int) < (gs.length : Int) := by omega
  clear r1 r2 r3 b1 b2 b3 g0 ez
  go_enter Try.func21, Try.ntmps21
  go_wp2_with (fail)
  go_upto_region 3 with (fail)
  go_cut [12, 13, 14] (fun v12 v13 v14 wc => ∃ (AT N : Nat), v12 = .int .i64 0 ∧ v13 = .pointer (some ⟨AT, 0, none⟩) ∧ v14 = .pointer (some ⟨N, 0, none⟩) ∧ Aside0 (PutAt w wc AT (w.heap.size + 1 + 1 + 1) w.heap.size (w.heap.size + 1 + 1) N (w.heap.size + 1) pl A3 c3 wd ⟨0, rd gs 0, [], []⟩ (.slice none 0 0) (.slice none 0 0)))
  case first =>
    go_big_region
    all_goals
      go_wp2_with (fail)
      go_meet
      case rel => first | exact ⟨_, _, rfl, rfl, rfl, ⟨put_start w pl A3 c3 wd (rd gs 0) _ _ _ _ (.inl ⟨rfl, rfl, rfl, rfl⟩) _ rfl⟩⟩ | exact ⟨_, _, rfl, rfl, rfl, ⟨put_start w pl A3 c3 wd (rd gs 0) _ _ _ _ (.inr ⟨rfl, rfl, rfl, rfl⟩) _ rfl⟩⟩
  case rest =>
    obtain ⟨AT, N, rfl, rfl, rfl, H⟩ := hcut
    obtain ⟨M, hM⟩ : ∃ M, M = min st.length 14 := ⟨_, rfl⟩
    have hM1 : M ≤ st.length := by omega
    have hM2 : M ≤ 14 := by omega
    have hM3 : st.length ≤ M ∨ 14 ≤ M := by omega
    have hst : R = walkGo pl st gs wd (M - 0) 0 0 ⟨0, rd gs 0, [], []⟩ := by rw [HR.out, hM]; rfl
    have HST := Aside0.mk hst
    clear g0' g4 g5 g6 hb2 hM hst
    go_wp2_with (fail)
    go_loopw [12, 16] (fun b iv wr => ∃ (i : Nat) (bg : Int) (s : Wk) (tv fv : Value), b = .int .i64 bg ∧ iv = .int .i64 (i : Int) ∧ i ≤ M ∧ (0 ≤ bg ∧ bg < pl) ∧ Aside0 (WkOk s) ∧ Aside0 (PutAt w wr AT (w.heap.size + 1 + 1 + 1) w.heap.size (w.heap.size + 1 + 1) N (w.heap.size + 1) pl A3 c3 wd s tv fv) ∧ Aside0 (R = walkGo pl st gs wd (M - i) i bg s)) (fun _ iv _ => M - (intOf iv).toNat)
    case atStart => exact ⟨0, 0, ⟨0, rd gs 0, [], []⟩, _, _, rfl, rfl, by omega, ⟨by omega, by omega⟩, ⟨wk0 _ bg⟩, H, HST⟩
    case round =>
      obtain ⟨i, bg, s, tv, fv, rfl, rfl, hi, hbg, HS, HP, HW⟩ := hrel
      obtain ⟨At, ct, rfl⟩ := Kd.R_slice HP.out.tr
      obtain ⟨Af, cf, rfl⟩ := Kd.R_slice HP.out.fl
      by_cases hlt : i < M
      · have d1 : decide ((i : Int) < (st.length : Int)) = true := decide_eq_true (by omega)
        have d2 : decide ((i : Int) < 14) = true := decide_eq_true (by omega)
        have v0 := B1.out i (by omega) (by omega)
        obtain ⟨ad, e, q1⟩ := Kd.at_int (Kd.C_below R1.out HP.out.bel) i (by omega) (by omega)
        cases e
        have q1' : wr.cell? (ad1.add i) = some (.int .u8 (rd st i)) := q1
        have q2 : wr.cell? ⟨w.heap.size + 1 + 1 + 1, 0, none⟩ = some (.slice At s.tr.length ct) := cell_two HP.out.btr 0 rfl
        clear q1
        obtain ⟨v, hv⟩ : ∃ v, v = rd st i := ⟨_, rfl⟩
        rw [← hv] at v0 q1'
        have HV := Aside0.mk hv
        clear hv
        have x0 : 0 ≤ v % pl := Int.emod_nonneg _ (by omega)
        have x1 : v % pl < pl := Int.emod_lt_of_pos _ (by omega)
        by_cases ha : 200 ≤ v ∨ s.tr.length = 15
        · obtain ⟨s1, hs1⟩ : ∃ s1, s1 = putS wd s bg := ⟨_, rfl⟩
          have hok1 : WkOk s1 := by rw [hs1]; exact put_ok wd s bg HS.out ⟨hbg.1, by omega⟩
          have hstep := walk_step pl st gs wd M i bg s hlt
          rw [← HW.out, if_pos (by rw [← HV.out]; exact ha), ← hs1, ← HV.out] at hstep
          have HSTEP := Aside0.mk hstep
          have HOK1 := Aside0.mk hok1
          have HS1 := Aside0.mk hs1
          clear hstep hok1 hs1
          have j0 : 0 ≤ (i : Int) % (gs.length : Int) := Int.emod_nonneg _ (by omega)
          have j1 : (i : Int) % (gs.length : Int) < (gs.length : Int) := Int.emod_lt_of_pos _ lg
          obtain ⟨ad', e, gu⟩ := Kd.at_int R2.out _ j0 j1
          cases e
          have ug := B2.out _ j0 j1
          have ej : ((i : Int) % (gs.length : Int)).toNat = i % gs.length := by omega
          rw [ej] at gu
          obtain ⟨u, hu⟩ : ∃ u, u = rd gs ((i : Int) % (gs.length : Int)) := ⟨_, rfl⟩
          rw [← hu] at ug gu
          have gu' : w.cell? (ad2.add (i % gs.length)) = some (.int .u16 u) := gu
          have gb := World.block_lt_of_cell? _ _ gu'
          have HU := Aside0.mk hu
          clear hu gu ej
          have l16 := HS.out.2.2.1
          have n16 := HOK1.out.2.2.1
          have cases2 : decide (200 ≤ v) = true ∨ (decide (200 ≤ v) = false ∧ ((s.tr.length : Int) == 15) = true) := by
            by_cases h : 200 ≤ v
            · exact .inl (decide_eq_true h)
            · exact .inr ⟨decide_eq_false h, by rcases ha with h' | h'; exact absurd h' h; rw [h']; rfl⟩
          clear ha
          by_cases h15 : 15 ≤ s1.tr.length
          · have hd : decide ((15 : Int) ≤ (s1.tr.length : Int)) = true := decide_eq_true (by omega)
            have hrs := HSTEP.out
            rw [if_pos h15] at hrs
            have HRS := Aside0.mk hrs
            clear hrs h15
            rcases cases2 with k1 | ⟨k1, k2⟩
            all_goals
              go_wp2_with (go_at_call 42; refine (put_any w _ AT _ _ _ N _ pl A3 c3 wd s _ _ HP.out HS.out bg ⟨hbg.1, by omega⟩ R3.out l3 B3.out m3).mono ?_; rintro e W1 ⟨rfl, tv1, fv1, h1⟩; rw [← HS1.out] at h1; obtain ⟨At1, ct1, rfl⟩ := Kd.R_slice h1.tr; obtain ⟨Af1, cf1, rfl⟩ := Kd.R_slice h1.fl; have H1 := Aside0.mk h1; have p1 : W1.cell? ⟨AT, 0, none⟩ = some (.int .i64 s1.at_) := cell_two h1.bat 0 rfl; have p2 : W1.cell? ⟨N, 0, none⟩ = some (.int .i64 s1.n) := cell_two h1.bn 0 rfl; have p3 := blk_frozen h1.bat 0; have p4 := blk_frozen h1.bn 0; have p5 := h1.ne; have p6 := (h1.bel.cell gb).trans gu'; have p6' := ((below_set (g := AT) (j := 0) (v := .int .i64 (v % pl)) h1.bel h1.gat).cell gb).trans gu'; have p7 : W1.cell? ⟨w.heap.size + 1 + 1 + 1, 0, none⟩ = some (.slice At1 s1.tr.length ct1) := cell_two h1.btr 0 rfl; have p8 : W1.cell? ⟨w.heap.size + 1 + 1, 0, none⟩ = some (.int .i64 pl) := cell_two h1.bpl 0 rfl; have p9 : W1.cell? ⟨w.heap.size + 1 + 1, 1, none⟩ = some (.slice Af1 s1.fl.length cf1) := cell_two h1.bpl 1 rfl; have pa : W1.cell? ⟨w.heap.size + 1, 0, none⟩ = some (.int .i64 0) := cell_two h1.brc 0 rfl; have pb : W1.cell? ⟨w.heap.size + 1, 1, none⟩ = some (.slice none 0 0) := cell_two h1.brc 1 rfl; have pc := blk_frozen h1.brc 0; have pd := blk_frozen h1.brc 1; clear h1 HP q2)
              go_big_region
              have H2 : Aside0 (PutAt w (((W1.setCell ⟨AT, 0, none⟩ (.int .i64 (v % pl))).setCell ⟨N, 0, none⟩ (.int .i64 u)).drew) AT (w.heap.size + 1 + 1 + 1) w.heap.size (w.heap.size + 1 + 1) N (w.heap.size + 1) pl A3 c3 wd ⟨v % pl, u, s1.tr, s1.fl⟩ (.slice At1 s1.tr.length ct1) (.slice Af1 s1.fl.length cf1)) := ⟨put_drew (store_n (store_at H1.out _) _)⟩
              clear p1 p2 p3 p4 p5 p6 p6' p7 p8 p9 pa pb pc pd H1
              generalize ((W1.setCell ⟨AT, 0, none⟩ (.int .i64 (v % pl))).setCell ⟨N, 0, none⟩ (.int .i64 u)).drew = W2 at H2 ⊢
              have p7 : W2.cell? ⟨w.heap.size + 1 + 1 + 1, 0, none⟩ = some (.slice At1 s1.tr.length ct1) := cell_two H2.out.btr 0 rfl
              have p8 : W2.cell? ⟨w.heap.size + 1 + 1, 0, none⟩ = some (.int .i64 pl) := cell_two H2.out.bpl 0 rfl
              have p9 : W2.cell? ⟨w.heap.size + 1 + 1, 1, none⟩ = some (.slice Af1 s1.fl.length cf1) := cell_two H2.out.bpl 1 rfl
              have pa : W2.cell? ⟨w.heap.size + 1, 0, none⟩ = some (.int .i64 0) := cell_two H2.out.brc 0 rfl
              have pb : W2.cell? ⟨w.heap.size + 1, 1, none⟩ = some (.slice none 0 0) := cell_two H2.out.brc 1 rfl
              have pc := blk_frozen H2.out.brc 0
              have pd := blk_frozen H2.out.brc 1
              go_wp2_with (fail)
              go_big_region
              go_wp2_with (fail)
              refine bodyPost_ret (results_two_row rfl _ _ (w.heap.size + 1) 24 #[.int .i64 pl, .slice Af1 s1.fl.length cf1] (0, 0) _ (.slice At1 s1.tr.length ct1) rfl rfl ?_ Try.underlying24 rfl (by kernel_rfl)) rfl ?_
              · exact blk_drew (out_row H2.out (Nat.le_succ _)).1
              · have ho := out_row H2.out (Nat.le_succ _)
                exact ⟨_, _, rfl, by rw [HRS.out]; exact Kd.R_drew ho.2.1, by rw [HRS.out]; exact Kd.R_drew ho.2.2.1, ho.2.2.2.drew⟩
          · have hd : decide ((15 : Int) ≤ (s1.tr.length : Int)) = false := decide_eq_false (by omega)
            have hrs := HSTEP.out
            rw [if_neg h15] at hrs
            have HRS := Aside0.mk hrs
            clear hrs h15
            rcases cases2 with k1 | ⟨k1, k2⟩
            all_goals
              go_wp2_with (go_at_call 42; refine (put_any w _ AT _ _ _ N _ pl A3 c3 wd s _ _ HP.out HS.out bg ⟨hbg.1, by omega⟩ R3.out l3 B3.out m3).mono ?_; rintro e W1 ⟨rfl, tv1, fv1, h1⟩; rw [← HS1.out] at h1; obtain ⟨At1, ct1, rfl⟩ := Kd.R_slice h1.tr; obtain ⟨Af1, cf1, rfl⟩ := Kd.R_slice h1.fl; have H1 := Aside0.mk h1; have p1 : W1.cell? ⟨AT, 0, none⟩ = some (.int .i64 s1.at_) := cell_two h1.bat 0 rfl; have p2 : W1.cell? ⟨N, 0, none⟩ = some (.int .i64 s1.n) := cell_two h1.bn 0 rfl; have p3 := blk_frozen h1.bat 0; have p4 := blk_frozen h1.bn 0; have p5 := h1.ne; have p6 := (h1.bel.cell gb).trans gu'; have p6' := ((below_set (g := AT) (j := 0) (v := .int .i64 (v % pl)) h1.bel h1.gat).cell gb).trans gu'; have p7 : W1.cell? ⟨w.heap.size + 1 + 1 + 1, 0, none⟩ = some (.slice At1 s1.tr.length ct1) := cell_two h1.btr 0 rfl; have p8 : W1.cell? ⟨w.heap.size + 1 + 1, 0, none⟩ = some (.int .i64 pl) := cell_two h1.bpl 0 rfl; have p9 : W1.cell? ⟨w.heap.size + 1 + 1, 1, none⟩ = some (.slice Af1 s1.fl.length cf1) := cell_two h1.bpl 1 rfl; have pa : W1.cell? ⟨w.heap.size + 1, 0, none⟩ = some (.int .i64 0) := cell_two h1.brc 0 rfl; have pb : W1.cell? ⟨w.heap.size + 1, 1, none⟩ = some (.slice none 0 0) := cell_two h1.brc 1 rfl; have pc := blk_frozen h1.brc 0; have pd := blk_frozen h1.brc 1; clear h1 HP q2)
              go_big_region
              have H2 : Aside0 (PutAt w (((W1.setCell ⟨AT, 0, none⟩ (.int .i64 (v % pl))).setCell ⟨N, 0, none⟩ (.int .i64 u)).drew) AT (w.heap.size + 1 + 1 + 1) w.heap.size (w.heap.size + 1 + 1) N (w.heap.size + 1) pl A3 c3 wd ⟨v % pl, u, s1.tr, s1.fl⟩ (.slice At1 s1.tr.length ct1) (.slice Af1 s1.fl.length cf1)) := ⟨put_drew (store_n (store_at H1.out _) _)⟩
              clear p1 p2 p3 p4 p5 p6 p6' p7 p8 p9 pa pb pc pd H1
              generalize ((W1.setCell ⟨AT, 0, none⟩ (.int .i64 (v % pl))).setCell ⟨N, 0, none⟩ (.int .i64 u)).drew = W2 at H2 ⊢
              have p7 : W2.cell? ⟨w.heap.size + 1 + 1 + 1, 0, none⟩ = some (.slice At1 s1.tr.length ct1) := cell_two H2.out.btr 0 rfl
              go_wp2_with (fail)
              go_roundw
              case rel => exact ⟨i + 1, v % pl, ⟨v % pl, u, s1.tr, s1.fl⟩, _, _, rfl, by go_num, by omega, ⟨x0, x1⟩, ⟨⟨⟨x0, by show v % pl < 8; omega⟩, ug, HOK1.out.2.2.1, HOK1.out.2.2.2⟩⟩, H2, ⟨by rw [HU.out]; exact HRS.out⟩⟩
              case measure => simp [intOf]; omega
        · have ha1 : decide (200 ≤ v) = false := decide_eq_false (fun h => ha (.inl h))
          have ha2 : ((s.tr.length : Int) == 15) = false := beq_eq_false_iff_ne.2 (fun h => ha (.inr (by omega)))
          have l16 := HS.out.2.2.1
          have hstep := walk_step pl st gs wd M i bg s hlt
          rw [← HW.out, if_neg (by rw [← HV.out]; exact ha), ← HV.out] at hstep
          by_cases hb : s.tr.length < 15
          · have hb1 : decide ((s.tr.length : Int) < 15) = true := decide_eq_true (by omega)
            rw [if_pos hb] at hstep
            have HSTEP := Aside0.mk hstep
            clear ha hb hstep
            go_wp2_with (go_at_call 42; refine (put_any w _ AT _ _ _ N _ pl A3 c3 wd s _ _ HP.out HS.out (v % pl) ⟨x0, by omega⟩ R3.out l3 B3.out m3).mono ?_; rintro e W1 ⟨rfl, tv1, fv1, h1⟩; have H1 := Aside0.mk h1; clear h1)
            go_roundw
            case rel => exact ⟨i + 1, bg, putS wd s (v % pl), tv1, fv1, rfl, by go_num, by omega, hbg, ⟨put_ok wd s _ HS.out ⟨x0, by omega⟩⟩, H1, HSTEP⟩
            case measure => simp [intOf]; omega
          · have hb1 : decide ((s.tr.length : Int) < 15) = false := decide_eq_false (by omega)
            rw [if_neg hb] at hstep
            have HSTEP := Aside0.mk hstep
            clear ha hb hstep
            go_wp2_with (fail)
            go_roundw
            case rel => exact ⟨i + 1, bg, s, _, _, rfl, by go_num, by omega, hbg, HS, HP, HSTEP⟩
            case measure => simp [intOf]; omega
      · have him : i = M := by omega
        have hrs : R = ((putS wd s bg).fl, (putS wd s bg).tr) := by rw [HW.out, him, Nat.sub_self]; rfl
        obtain ⟨s1, hs1⟩ : ∃ s1, s1 = putS wd s bg := ⟨_, rfl⟩
        rw [← hs1] at hrs
        have HRS := Aside0.mk hrs
        have HS1 := Aside0.mk hs1
        have d1 : st.length ≤ i ∨ (i < st.length ∧ 14 ≤ i) := by omega
        clear him hrs hs1 hlt
        rcases d1 with d1 | ⟨d1, d2⟩
        all_goals
          go_wp2_with (go_at_call 42; refine (put_any w _ AT _ _ _ N _ pl A3 c3 wd s _ _ HP.out HS.out bg ⟨hbg.1, by omega⟩ R3.out l3 B3.out m3).mono ?_; rintro e W1 ⟨rfl, tv1, fv1, h1⟩; rw [← HS1.out] at h1; obtain ⟨At1, ct1, rfl⟩ := Kd.R_slice h1.tr; obtain ⟨Af1, cf1, rfl⟩ := Kd.R_slice h1.fl; have H1 := Aside0.mk h1; have p1 : W1.cell? ⟨AT, 0, none⟩ = some (.int .i64 s1.at_) := cell_two h1.bat 0 rfl; have p2 : W1.cell? ⟨N, 0, none⟩ = some (.int .i64 s1.n) := cell_two h1.bn 0 rfl; have p3 := blk_frozen h1.bat 0; have p4 := blk_frozen h1.bn 0; have p5 := h1.ne; have p7 : W1.cell? ⟨w.heap.size + 1 + 1 + 1, 0, none⟩ = some (.slice At1 s1.tr.length ct1) := cell_two h1.btr 0 rfl; have p8 : W1.cell? ⟨w.heap.size + 1 + 1, 0, none⟩ = some (.int .i64 pl) := cell_two h1.bpl 0 rfl; have p9 : W1.cell? ⟨w.heap.size + 1 + 1, 1, none⟩ = some (.slice Af1 s1.fl.length cf1) := cell_two h1.bpl 1 rfl; have pa : W1.cell? ⟨w.heap.size + 1, 0, none⟩ = some (.int .i64 0) := cell_two h1.brc 0 rfl; have pb : W1.cell? ⟨w.heap.size + 1, 1, none⟩ = some (.slice none 0 0) := cell_two h1.brc 1 rfl; have pc := blk_frozen h1.brc 0; have pd := blk_frozen h1.brc 1; clear h1 HP)
          go_big_region
          go_wp2_with (fail)
          refine bodyPost_ret (results_two_row rfl _ _ (w.heap.size + 1) 24 #[.int .i64 pl, .slice Af1 s1.fl.length cf1] (0, 0) _ (.slice At1 s1.tr.length ct1) rfl rfl ?_ Try.underlying24 rfl (by kernel_rfl)) rfl ?_
          · exact blk_drew (out_row H1.out (Nat.le_succ _)).1
          · have ho := out_row H1.out (Nat.le_succ _)
            exact ⟨_, _, rfl, by rw [HRS.out]; exact Kd.R_drew ho.2.1, by rw [HRS.out]; exact Kd.R_drew ho.2.2.1, ho.2.2.2.drew⟩
end Go.Proofs.Ytalgbihpidpblaa.Print
