/- 'append([]T{}, xs...)' in a region that draws no order. -/
import Derived.Test.YtbjinkkmakhbaaaCP
import Derived.Test.YtbjinkkmakhbaaaEH
import Derived.Test.YtbjinkkmakhbaaaPN
import Derived.Test.YtbjinkkmakhbaaaRV
namespace Go.Proofs.Ytbjinkkmakhbaaa.Print
open Go.RowKit Go.Shelf Go.Proofs.YtbjinkkmakhbaaaW.PrintWords Go.Proofs.YtbjinkkmakhbaaaW.PrintLast Go.Proofs.YtbjinkkmakhbaaaW.PrintMore
set_option linter.unusedVariables false
set_option linter.unusedSimpArgs false
/-- 'append([]T{}, xs...)'. -/
theorem copy_list {P : Program} {ops : Array Oper} {rest : List Oper} {o : Oper} {a : Act} {Q : Exit → Act → World → Prop} {α : Type} (d : Kd α) {W : World} (base g : Nat)
    (hgd : o.guard = none) (s x : Operand) (t e : TypeId) (z : Value) (bytes : Nat)
    (ho : o.op = .call { callee := .builtin .append, args := #[s, x], argTypes := #[t, t] })
    (ht : P.underlying t = some (.slice e)) (hinfo : (P.info? e).map (fun i => (i.zero, i.size, i.bytes)) = some (some z, d.sz, bytes)) (hz : z.cells.size = d.sz) (hs0 : 0 < d.sz) (hb0 : 0 < bytes)
    (ys : List α) (A : Option Addr) (c : Nat) (hs : a.eval s = .slice (some ⟨g, 0, none⟩) 0 0) (hx : a.eval x = .slice A ys.length c)
    (hO : d.R e W base (fun _ => True) (.slice (some ⟨g, 0, none⟩) 0 0) []) (hC : d.C W A ys.length ys) (hKM : ∀ w' x cs, d.K W x cs → d.M w' base (fun _ => False) x cs)
    (hbase : base ≤ W.heap.size) (hl : ys.length * bytes ≤ 140737488355328)
    (h : ∀ A1 c1 w1, d.R e w1 base (fun _ => True) (.slice A1 ys.length c1) ys → Below W.heap.size W w1 → wpList P ops Q rest (a.put o.dst (.slice A1 ys.length c1)) w1) :
    wpList P ops Q (o :: rest) a W := by
  obtain ⟨i0, hi, hzz⟩ := Option.map_eq_some_iff.1 hinfo
  simp only [Prod.mk.injEq] at hzz
  obtain ⟨hz0, hz1, hz2⟩ := hzz
  have hlen : ys.length ≤ 140737488355328 := Nat.le_trans (Nat.le_mul_of_pos_right _ hb0) hl
  have hrun : ∃ A1 c1 w1, (Builtin.append_ #[t, t] o.type #[.slice (some ⟨g, 0, none⟩) 0 0, .slice A ys.length c]).run P W = .ok (.slice A1 ys.length c1) w1 ∧ d.R e w1 base (fun _ => True) (.slice A1 ys.length c1) ys ∧ Below W.heap.size W w1 := by
    by_cases h0 : ys.length = 0
    · obtain rfl : ys = [] := List.eq_nil_of_length_eq_zero h0
      refine ⟨some ⟨g, 0, none⟩, 0, W, ?_, hO, Below.refl _ _⟩
      rcases A with _ | ad
      · simp [Builtin.append_, run_underlying ht, sizeOf, typeInfo, hi, Builtin.lenOf, Builtin.firstCells, storeCells]
      · have hf := run_firstCells_some (P := P) W i0.size 0 ad 0 c [] (by simp) (by simp)
        simp [Builtin.append_, run_underlying ht, sizeOf, typeInfo, hi, Builtin.lenOf, hf, storeCells]
    · have hp : 0 < ys.length := by omega
      obtain ⟨ad, rfl, _⟩ := hC.2.2 hp
      obtain ⟨news, hnr, hnc⟩ := ReadsRow.inner_ hC
      obtain ⟨v1, w1, hr, hown, hg⟩ := run_append_arg_grows (P := P) (w := W) t o.type e i0 z d.sz bytes ht hi hz0 hz1 hz2 hz hs0 ⟨g, 0, none⟩ 0 0 [] (by simp) (by simp) ad ys.length c news hnr.1 hnc (by omega) (by simp only [maxLen]; omega) (by simpa using hl)
      rw [Nat.zero_add, List.nil_append] at hown
      have hB : Below W.heap.size W w1 := ⟨hg.os, hg.tape, hg.output, hg.size, fun k hk => hg.block k hk (by simp)⟩
      rcases hown.2 with ⟨_, hn⟩ | ⟨b, cap, cur, rfl, hb, hrest⟩
      · exact absurd (by simpa [hnr.1] using hn) h0
      · refine ⟨_, _, w1, hr, ⟨fun _ _ => trivial, news, ⟨hown.1, .inr ⟨b, cap, cur, rfl, Nat.le_trans hbase hb, hrest⟩⟩, ?_⟩, hB⟩
        exact hnr.imp_ (fun p c hp => d.M_mono (fun k hk => ⟨trivial, hk.1.elim⟩) (d.M_bound (hKM w1 p c hp)))
  obtain ⟨A1, c1, w1, hr1, h1, hB⟩ := hrun
  refine wpList_plain hgd fun K hK => ?_
  unfold Oper.wp execOp
  simp only [ho, resolve, invoke, builtin, Sem.run_bind, Sem.run_pure, Result.andThen_ok, List.map_toArray, List.map_cons, List.map_nil, hs, hx, hr1]
  exact hK _ _ (h A1 c1 w1 h1 hB)
end Go.Proofs.Ytbjinkkmakhbaaa.Print

namespace Go.Proofs.Ytbjinkkmakhbaaa.Print
open Go.RowKit Go.Shelf Go.Proofs.YtbjinkkmakhbaaaW.PrintWords Go.Proofs.YtbjinkkmakhbaaaW.PrintLast Go.Proofs.YtbjinkkmakhbaaaW.PrintMore
set_option linter.unusedVariables false
set_option linter.unusedSimpArgs false
attribute [local go_sem] Oper.semAt_some max2_int min2_int max_two min_two
section
variable {lo hi : Int} {A : Option Addr} {c : Nat} {js : List S50} {A' : Option Addr} {c' : Nat} {ms : List S54} {SB : Nat} {s0 s1 : Int} {XB : Nat} {x0 x1 : Int} {AJ : Option Addr} {cJ : Nat} {yj : List S50} {AM : Option Addr} {cM : Nat} {ym : List S54}
theorem XAt.elemD {w W : World} {gM : Nat} (h : XAt w W lo hi A c js A' c' ms SB s0 s1 XB x0 x1 AJ cJ yj (some ⟨gM, 0, none⟩) cM ym) (i : Nat) (hi' : i < ms.length) :
    W.cell? ⟨gM, i * 4 + 1, none⟩ = some (.int .i64 (rd_T54 ym i).f1) ∧ W.frozen? ⟨gM, i * 4 + 1, none⟩ = false := by
  obtain ⟨cc, hcl, hM, hcell, hf⟩ := Kd.R_elem h.mr z54 (i : Int) (Int.natCast_nonneg i) (by omega)
  obtain rfl := k54_openM hM
  rw [Int.toNat_natCast] at hcell hf
  exact ⟨hcell 1 _ rfl, hf 1⟩
theorem XAt.putD {w W : World} {gM : Nat} (h : XAt w W lo hi A c js A' c' ms SB s0 s1 XB x0 x1 AJ cJ yj (some ⟨gM, 0, none⟩) cM ym) (hr : Kd.C k50 w A js.length js) (hr' : Kd.C k54 w A' ms.length ms) (i : Nat) (hi' : i < ms.length) (v : Int) :
    XAt w (W.setCell ⟨gM, i * 4 + 1, none⟩ (.int .i64 v)) lo hi A c js A' c' ms SB s0 s1 XB x0 x1 AJ cJ yj (some ⟨gM, 0, none⟩) cM (ym.set i ⟨(rd_T54 ym i).f0, v, (rd_T54 ym i).f2, (rd_T54 ym i).f3⟩) := by
  obtain ⟨hge, cs, hcs⟩ := R54_blk1 h.mr
  have n1 : gM ≠ w.heap.size := blk_ne hcs h.en.net.blk (by decide)
  have n2 : gM ≠ SB := blk_ne hcs h.en.sp (by decide)
  have n3 : XB ≠ gM := blk_ne h.xb hcs (by decide)
  obtain ⟨cc, hcl, hM, hcell, hf⟩ := Kd.R_elem h.mr z54 (i : Int) (Int.natCast_nonneg i) (by omega)
  obtain rfl := k54_openM hM
  have hs := Kd.R_seg h.mr (i : Int) (Int.natCast_nonneg i) (by omega) hcl hcell (seg := [.int .i64 v]) (j := 1) (x' := ⟨(rd_T54 ym i).f0, v, (rd_T54 ym i).f2, (rd_T54 ym i).f3⟩) (okp := fun _ => False) (by show 1 + 1 ≤ 4; decide) (k54_mkM _ _ _ ⟨(rd_T54 ym i).f0, v, (rd_T54 ym i).f2, (rd_T54 ym i).f3⟩) (fun _ hk => hk.elim)
  rw [Int.toNat_natCast] at hs
  exact ⟨h.en.put n1 n2 hge hr hr' _ _, blk_far h.xb n3 _, h.xge, Kd.R_set h.jr hcs (by decide) _ _, hs.1⟩
/-- Four stores to the box of a network. -/
theorem EnAt0.put4 {w W : World} (h : EnAt0 w W lo hi A c js A' c' ms SB s0 s1) (hr : Kd.C k50 w A js.length js) (hr' : Kd.C k54 w A' ms.length ms) {B : Nat} {v0 v1 v2 v3 : Value} (hx : W.heap[B]? = some (.cells #[v0, v1, v2, v3] 27 (0, 0))) (hg : w.heap.size < B) (e0 e1 e2 e3 : Value) :
    EnAt0 w ((((W.setCell ⟨B, 0, none⟩ e0).setCell ⟨B, 1, none⟩ e1).setCell ⟨B, 2, none⟩ e2).setCell ⟨B, 3, none⟩ e3) lo hi A c js A' c' ms SB s0 s1 ∧ ((((W.setCell ⟨B, 0, none⟩ e0).setCell ⟨B, 1, none⟩ e1).setCell ⟨B, 2, none⟩ e2).setCell ⟨B, 3, none⟩ e3).heap[B]? = some (.cells #[e0, e1, e2, e3] 27 (0, 0)) := by
  have h1 : B ≠ SB := blk_ne hx h.sp (by decide)
  have h2 : B ≠ w.heap.size := by omega
  exact ⟨(((h.put h2 h1 (by omega) hr hr' 0 _).put h2 h1 (by omega) hr hr' 1 _).put h2 h1 (by omega) hr hr' 2 _).put h2 h1 (by omega) hr hr' 3 _, blk_put (blk_put (blk_put (blk_put hx 0 _ rfl) 1 _ rfl) 2 _ rfl) 3 _ rfl⟩
theorem far4 {W : World} {B G : Nat} {cs : Array Value} {t : TypeId} (h : W.heap[G]? = some (.cells cs t (0, 0))) (hne : G ≠ B) (e0 e1 e2 e3 : Value) : ((((W.setCell ⟨B, 0, none⟩ e0).setCell ⟨B, 1, none⟩ e1).setCell ⟨B, 2, none⟩ e2).setCell ⟨B, 3, none⟩ e3).heap[G]? = some (.cells cs t (0, 0)) :=
  blk_far (blk_far (blk_far (blk_far h hne _) hne _) hne _) hne _
/-- The greater network, and the one with higher pressure. -/
structure MoAt (w W : World) (lo hi : Int) (A : Option Addr) (c : Nat) (js : List S50) (A' : Option Addr) (c' : Nat) (ms : List S54) (SB : Nat) (s0 s1 : Int) (XB : Nat) (AJ : Option Addr) (cJ : Nat) (yj : List S50) (AM : Option Addr) (cM : Nat) (ym : List S54) (HB : Nat) (h0 h1 : Int) : Prop where
  x : XAt w W lo hi A c js A' c' ms SB s0 s1 XB lo hi AJ cJ yj AM cM ym
  hb : W.heap[HB]? = some (.cells #[.int .i64 h0, .int .i64 h1, .slice A js.length c, .slice A' ms.length c'] 27 (0, 0))
  hne : HB ≠ XB
  hge : w.heap.size < HB
variable {HB : Nat} {h0 h1 : Int}
theorem MoAt.next {w W W' : World} (h : MoAt w W lo hi A c js A' c' ms SB s0 s1 XB AJ cJ yj AM cM ym HB h0 h1) (hb : Below W.heap.size W W') : MoAt w W' lo hi A c js A' c' ms SB s0 s1 XB AJ cJ yj AM cM ym HB h0 h1 := ⟨h.x.next hb, blk_below h.hb hb, h.hne, h.hge⟩
theorem MoAt.putJ {w W : World} {gJ : Nat} (h : MoAt w W lo hi A c js A' c' ms SB s0 s1 XB (some ⟨gJ, 0, none⟩) cJ yj AM cM ym HB h0 h1) (hr : Kd.C k50 w A js.length js) (hr' : Kd.C k54 w A' ms.length ms) (i : Nat) (hi' : i < js.length) (a b : Int) :
    MoAt w ((W.setCell ⟨gJ, i * 5, none⟩ (.int .i64 a)).setCell ⟨gJ, i * 5 + 1, none⟩ (.int .i64 b)) lo hi A c js A' c' ms SB s0 s1 XB (some ⟨gJ, 0, none⟩) cJ (yj.set i ⟨⟨a, b⟩, (rd_T50 yj i).f1, (rd_T50 yj i).f2, (rd_T50 yj i).f3⟩) AM cM ym HB h0 h1 := by
  obtain ⟨_, cs, hcs⟩ := R50_blk1 h.x.jr
  have n3 : HB ≠ gJ := blk_ne h.hb hcs (by decide)
  exact ⟨h.x.putJ hr hr' i hi' a b, blk_far (blk_far h.hb n3 _) n3 _, h.hne, h.hge⟩
theorem MoAt.putD {w W : World} {gM : Nat} (h : MoAt w W lo hi A c js A' c' ms SB s0 s1 XB AJ cJ yj (some ⟨gM, 0, none⟩) cM ym HB h0 h1) (hr : Kd.C k50 w A js.length js) (hr' : Kd.C k54 w A' ms.length ms) (i : Nat) (hi' : i < ms.length) (v : Int) :
    MoAt w (W.setCell ⟨gM, i * 4 + 1, none⟩ (.int .i64 v)) lo hi A c js A' c' ms SB s0 s1 XB AJ cJ yj (some ⟨gM, 0, none⟩) cM (ym.set i ⟨(rd_T54 ym i).f0, v, (rd_T54 ym i).f2, (rd_T54 ym i).f3⟩) HB h0 h1 := by
  obtain ⟨_, cs, hcs⟩ := R54_blk1 h.x.mr
  have n3 : HB ≠ gM := blk_ne h.hb hcs (by decide)
  exact ⟨h.x.putD hr hr' i hi' v, blk_far h.hb n3 _, h.hne, h.hge⟩
theorem MoAt.high {w W : World} (h : MoAt w W lo hi A c js A' c' ms SB s0 s1 XB AJ cJ yj AM cM ym HB h0 h1) (hr : Kd.C k50 w A js.length js) (hr' : Kd.C k54 w A' ms.length ms) (a b : Int) :
    MoAt w ((W.setCell ⟨HB, 0, none⟩ (.int .i64 a)).setCell ⟨HB, 1, none⟩ (.int .i64 b)) lo hi A c js A' c' ms SB s0 s1 XB AJ cJ yj AM cM ym HB a b := by
  have h1 : HB ≠ SB := blk_ne h.hb h.x.en.sp (by decide)
  have hg := h.hge
  have h2 : HB ≠ w.heap.size := by omega
  have n3 : XB ≠ HB := fun e => h.hne e.symm
  refine ⟨⟨(h.x.en.put h2 h1 (by omega) hr hr' 0 _).put h2 h1 (by omega) hr hr' 1 _, blk_far (blk_far h.x.xb n3 _) n3 _, h.x.xge, ?_, ?_⟩, blk_put (blk_put h.hb 0 _ rfl) 1 _ rfl, h.hne, h.hge⟩
  · exact Kd.R_set (Kd.R_set h.x.jr h.hb (by decide) 0 _) (blk_set h.hb 0 _) (by decide) 1 _
  · exact Kd.R_set (Kd.R_set h.x.mr h.hb (by decide) 0 _) (blk_set h.hb 0 _) (by decide) 1 _
/-- The network without what is drawn behind shut valves. -/
structure CAt (w W : World) (lo hi : Int) (A : Option Addr) (c : Nat) (js : List S50) (A' : Option Addr) (c' : Nat) (ms : List S54) (SB : Nat) (s0 s1 : Int) (XB : Nat) (AJ : Option Addr) (cJ : Nat) (yj : List S50) : Prop where
  en : EnAt0 w W lo hi A c js A' c' ms SB s0 s1
  xb : W.heap[XB]? = some (.cells #[.int .i64 lo, .int .i64 hi, .slice AJ js.length cJ, .slice A' ms.length c'] 27 (0, 0))
  xge : w.heap.size < XB
  jr : Kd.R k50 50 W w.heap.size (fun _ => True) (.slice AJ js.length cJ) yj
theorem CAt.next {w W W' : World} (h : CAt w W lo hi A c js A' c' ms SB s0 s1 XB AJ cJ yj) (hb : Below W.heap.size W W') : CAt w W' lo hi A c js A' c' ms SB s0 s1 XB AJ cJ yj := ⟨h.en.next hb, blk_below h.xb hb, h.xge, Kd.R_below h.jr hb⟩
theorem CAt.fill {w W : World} (h : EnAt0 w W lo hi A c js A' c' ms SB s0 s1) (hr : Kd.C k50 w A js.length js) (hr' : Kd.C k54 w A' ms.length ms) {v2 : Value} (hx : W.heap[XB]? = some (.cells #[.int .i64 lo, .int .i64 hi, v2, .slice A' ms.length c'] 27 (0, 0))) (hg : w.heap.size < XB)
    (hj : Kd.R k50 50 W w.heap.size (fun _ => True) (.slice AJ js.length cJ) yj) : CAt w (W.setCell ⟨XB, 2, none⟩ (.slice AJ js.length cJ)) lo hi A c js A' c' ms SB s0 s1 XB AJ cJ yj := by
  have h1 : XB ≠ SB := blk_ne hx h.sp (by decide)
  have h2 : XB ≠ w.heap.size := by omega
  exact ⟨h.put h2 h1 (by omega) hr hr' 2 _, blk_put hx 2 _ rfl, hg, Kd.R_set hj hx (by decide) 2 _⟩
theorem CAt.elem {w W : World} {gJ : Nat} (h : CAt w W lo hi A c js A' c' ms SB s0 s1 XB (some ⟨gJ, 0, none⟩) cJ yj) (i : Nat) (hi' : i < js.length) :
    (W.cell? ⟨gJ, i * 5, none⟩ = some (.int .i64 (rd_T50 yj i).f0.f0) ∧ W.cell? ⟨gJ, i * 5 + 1, none⟩ = some (.int .i64 (rd_T50 yj i).f0.f1) ∧ W.cell? ⟨gJ, i * 5 + 4, none⟩ = some (.int .i64 (rd_T50 yj i).f3)) ∧ W.frozen? ⟨gJ, i * 5, none⟩ = false ∧ W.frozen? ⟨gJ, i * 5 + 1, none⟩ = false ∧ W.frozen? ⟨gJ, i * 5 + 4, none⟩ = false := by
  obtain ⟨cc, hcl, hM, hcell, hf⟩ := Kd.R_elem h.jr z50 (i : Int) (Int.natCast_nonneg i) (by omega)
  obtain rfl := k50_openM hM
  rw [Int.toNat_natCast] at hcell hf
  exact ⟨⟨hcell 0 _ rfl, hcell 1 _ rfl, hcell 4 _ rfl⟩, hf 0, hf 1, hf 4⟩
theorem CAt.put2 {w W : World} {gJ : Nat} (h : CAt w W lo hi A c js A' c' ms SB s0 s1 XB (some ⟨gJ, 0, none⟩) cJ yj) (hr : Kd.C k50 w A js.length js) (hr' : Kd.C k54 w A' ms.length ms) (i : Nat) (hi' : i < js.length) (a b : Int) :
    CAt w ((W.setCell ⟨gJ, i * 5, none⟩ (.int .i64 a)).setCell ⟨gJ, i * 5 + 1, none⟩ (.int .i64 b)) lo hi A c js A' c' ms SB s0 s1 XB (some ⟨gJ, 0, none⟩) cJ (yj.set i ⟨⟨a, b⟩, (rd_T50 yj i).f1, (rd_T50 yj i).f2, (rd_T50 yj i).f3⟩) := by
  obtain ⟨hge, cs, hcs⟩ := R50_blk1 h.jr
  have n1 : gJ ≠ w.heap.size := blk_ne hcs h.en.net.blk (by decide)
  have n2 : gJ ≠ SB := blk_ne hcs h.en.sp (by decide)
  have n3 : XB ≠ gJ := blk_ne h.xb hcs (by decide)
  obtain ⟨cc, hcl, hM, hcell, hf⟩ := Kd.R_elem h.jr z50 (i : Int) (Int.natCast_nonneg i) (by omega)
  obtain rfl := k50_openM hM
  have hs := Kd.R_seg h.jr (i : Int) (Int.natCast_nonneg i) (by omega) hcl hcell (seg := [.int .i64 a, .int .i64 b]) (j := 0) (x' := ⟨⟨a, b⟩, (rd_T50 yj i).f1, (rd_T50 yj i).f2, (rd_T50 yj i).f3⟩) (okp := fun _ => False) (by show 0 + 2 ≤ 5; decide) (k50_mkM _ _ _ ⟨⟨a, b⟩, (rd_T50 yj i).f1, (rd_T50 yj i).f2, (rd_T50 yj i).f3⟩) (fun _ hk => hk.elim)
  rw [Int.toNat_natCast] at hs
  exact ⟨(h.en.put n1 n2 hge hr hr' _ _).put n1 n2 hge hr hr' _ _, blk_far (blk_far h.xb n3 _) n3 _, h.xge, hs.1⟩
theorem CAt.put {w W : World} {gJ : Nat} (h : CAt w W lo hi A c js A' c' ms SB s0 s1 XB (some ⟨gJ, 0, none⟩) cJ yj) (hr : Kd.C k50 w A js.length js) (hr' : Kd.C k54 w A' ms.length ms) (i : Nat) (hi' : i < js.length) (a b g : Int) :
    CAt w (((W.setCell ⟨gJ, i * 5, none⟩ (.int .i64 a)).setCell ⟨gJ, i * 5 + 1, none⟩ (.int .i64 b)).setCell ⟨gJ, i * 5 + 4, none⟩ (.int .i64 g)) lo hi A c js A' c' ms SB s0 s1 XB (some ⟨gJ, 0, none⟩) cJ (yj.set i ⟨⟨a, b⟩, (rd_T50 yj i).f1, (rd_T50 yj i).f2, g⟩) := by
  obtain ⟨hge, cs, hcs⟩ := R50_blk1 h.jr
  have n1 : gJ ≠ w.heap.size := blk_ne hcs h.en.net.blk (by decide)
  have n2 : gJ ≠ SB := blk_ne hcs h.en.sp (by decide)
  have n3 : XB ≠ gJ := blk_ne h.xb hcs (by decide)
  obtain ⟨cc, hcl, hM, hcell, hf⟩ := Kd.R_elem h.jr z50 (i : Int) (Int.natCast_nonneg i) (by omega)
  obtain rfl := k50_openM hM
  have hs := Kd.R_seg h.jr (i : Int) (Int.natCast_nonneg i) (by omega) hcl hcell (seg := [.int .i64 a, .int .i64 b]) (j := 0) (x' := ⟨⟨a, b⟩, (rd_T50 yj i).f1, (rd_T50 yj i).f2, (rd_T50 yj i).f3⟩) (okp := fun _ => False) (by show 0 + 2 ≤ 5; decide) (k50_mkM _ _ _ ⟨⟨a, b⟩, (rd_T50 yj i).f1, (rd_T50 yj i).f2, (rd_T50 yj i).f3⟩) (fun _ hk => hk.elim)
  rw [Int.toNat_natCast] at hs
  have hl : yj.length = js.length := (Kd.R_reads' h.jr).1.symm
  obtain ⟨cc2, hcl2, hM2, hcell2, hf2⟩ := Kd.R_elem hs.1 z50 (i : Int) (Int.natCast_nonneg i) (by omega)
  obtain rfl := k50_openM hM2
  have hs2 := Kd.R_seg hs.1 (i : Int) (Int.natCast_nonneg i) (by omega) hcl2 hcell2 (seg := [.int .i64 g]) (j := 4) (x' := ⟨⟨a, b⟩, (rd_T50 yj i).f1, (rd_T50 yj i).f2, g⟩) (okp := fun _ => False) (by show 4 + 1 ≤ 5; decide) (by
    have e : List.getD (yj.set i ⟨⟨a, b⟩, (rd_T50 yj i).f1, (rd_T50 yj i).f2, (rd_T50 yj i).f3⟩) ((i : Int).toNat) z50 = ⟨⟨a, b⟩, (rd_T50 yj i).f1, (rd_T50 yj i).f2, (rd_T50 yj i).f3⟩ := by
      have := rd_set50 (l := yj) (k := i) (by omega) ⟨⟨a, b⟩, (rd_T50 yj i).f1, (rd_T50 yj i).f2, (rd_T50 yj i).f3⟩ i
      rw [if_pos rfl] at this
      exact this
    rw [e]
    exact k50_mkM _ _ _ ⟨⟨a, b⟩, (rd_T50 yj i).f1, (rd_T50 yj i).f2, g⟩) (fun _ hk => hk.elim)
  rw [Int.toNat_natCast, List.set_set] at hs2
  exact ⟨((h.en.put n1 n2 hge hr hr' _ _).put n1 n2 hge hr hr' _ _).put n1 n2 hge hr hr' _ _, blk_far (blk_far (blk_far h.xb n3 _) n3 _) n3 _, h.xge, hs2.1⟩
end
end Go.Proofs.Ytbjinkkmakhbaaa.Print
