/- The law PipeEnds, walked. -/
import Derived.Test.YtbjinkkmakhbaaaPX
namespace Go.Proofs.Ytbjinkkmakhbaaa.Print
open Go.RowKit Go.Shelf Go.Proofs.YtbjinkkmakhbaaaW.PrintWords Go.Proofs.YtbjinkkmakhbaaaW.PrintLast Go.Proofs.YtbjinkkmakhbaaaW.PrintMore
set_option linter.unusedVariables false
set_option linter.unusedSimpArgs false
attribute [local go_sem] Oper.semAt_some
section
variable {lo hi : Int} {A : Option Addr} {c : Nat} {js : List S50} {A' : Option Addr} {c' : Nat} {ms : List S54} {SB : Nat} {s0 s1 : Int}
/-- The law's own cells: the network's box, and the span's. -/
structure EnAt0 (w W : World) (lo hi : Int) (A : Option Addr) (c : Nat) (js : List S50) (A' : Option Addr) (c' : Nat) (ms : List S54) (SB : Nat) (s0 s1 : Int) : Prop where
  net : NetAt w W w.heap.size lo hi A c js A' c' ms
  sp : W.heap[SB]? = some (.cells #[.int .i64 s0, .int .i64 s1] 23 (0, 0))
  sge : w.heap.size < SB
theorem EnAt0.next {w W W' : World} (h : EnAt0 w W lo hi A c js A' c' ms SB s0 s1) (hb : Below W.heap.size W W') : EnAt0 w W' lo hi A c js A' c' ms SB s0 s1 := ⟨h.net.next hb, blk_below h.sp hb, h.sge⟩
/-- A store to a block that is neither of both, and younger than the call. -/
theorem EnAt0.put {w W : World} (h : EnAt0 w W lo hi A c js A' c' ms SB s0 s1) {g : Nat} (h1 : g ≠ w.heap.size) (h2 : g ≠ SB) (h3 : w.heap.size ≤ g) (hr : Kd.C k50 w A js.length js) (hr' : Kd.C k54 w A' ms.length ms) (i : Nat) (v : Value) : EnAt0 w (W.setCell ⟨g, i, none⟩ v) lo hi A c js A' c' ms SB s0 s1 := by
  have hb := h.net.bel.setCell (p := ⟨g, i, none⟩) h3 v
  exact ⟨⟨blk_far h.net.blk (fun e => h1 e.symm) _, Kd.C_below hr hb, Kd.C_below hr' hb, hb⟩, blk_far h.sp (fun e => h2 e.symm) _, h.sge⟩
/-- The law's own network, in its box. -/
structure XAt (w W : World) (lo hi : Int) (A : Option Addr) (c : Nat) (js : List S50) (A' : Option Addr) (c' : Nat) (ms : List S54) (SB : Nat) (s0 s1 : Int) (XB : Nat) (x0 x1 : Int) (AJ : Option Addr) (cJ : Nat) (yj : List S50) (AM : Option Addr) (cM : Nat) (ym : List S54) : Prop where
  en : EnAt0 w W lo hi A c js A' c' ms SB s0 s1
  xb : W.heap[XB]? = some (.cells #[.int .i64 x0, .int .i64 x1, .slice AJ js.length cJ, .slice AM ms.length cM] 27 (0, 0))
  xge : w.heap.size < XB
  jr : Kd.R k50 50 W w.heap.size (fun _ => True) (.slice AJ js.length cJ) yj
  mr : Kd.R k54 54 W w.heap.size (fun _ => True) (.slice AM ms.length cM) ym
variable {XB : Nat} {x0 x1 : Int} {AJ : Option Addr} {cJ : Nat} {yj : List S50} {AM : Option Addr} {cM : Nat} {ym : List S54}
theorem XAt.next {w W W' : World} (h : XAt w W lo hi A c js A' c' ms SB s0 s1 XB x0 x1 AJ cJ yj AM cM ym) (hb : Below W.heap.size W W') : XAt w W' lo hi A c js A' c' ms SB s0 s1 XB x0 x1 AJ cJ yj AM cM ym := ⟨h.en.next hb, blk_below h.xb hb, h.xge, Kd.R_below h.jr hb, Kd.R_below h.mr hb⟩
/-- What the network's box holds of pressure, is stored. -/
theorem XAt.src {w W : World} (h : XAt w W lo hi A c js A' c' ms SB s0 s1 XB x0 x1 AJ cJ yj AM cM ym) (hr : Kd.C k50 w A js.length js) (hr' : Kd.C k54 w A' ms.length ms) (a b : Int) : XAt w ((W.setCell ⟨XB, 0, none⟩ (.int .i64 a)).setCell ⟨XB, 1, none⟩ (.int .i64 b)) lo hi A c js A' c' ms SB s0 s1 XB a b AJ cJ yj AM cM ym := by
  have h1 : XB ≠ SB := blk_ne h.xb h.en.sp (by decide)
  have h2 : XB ≠ w.heap.size := by have := h.xge; omega
  have hx := h.xge
  refine ⟨(h.en.put h2 h1 (by omega) hr hr' 0 _).put h2 h1 (by omega) hr hr' 1 _, blk_put (blk_put h.xb 0 _ rfl) 1 _ rfl, hx, ?_, ?_⟩
  · exact Kd.R_set (Kd.R_set h.jr h.xb (by decide) 0 _) (blk_set h.xb 0 _) (by decide) 1 _
  · exact Kd.R_set (Kd.R_set h.mr h.xb (by decide) 0 _) (blk_set h.xb 0 _) (by decide) 1 _
/-- The network's box, filled with copies. -/
theorem XAt.fill {w W : World} (h : EnAt0 w W lo hi A c js A' c' ms SB s0 s1) (hr : Kd.C k50 w A js.length js) (hr' : Kd.C k54 w A' ms.length ms) {v2 v3 : Value} (hx : W.heap[XB]? = some (.cells #[.int .i64 x0, .int .i64 x1, v2, v3] 27 (0, 0))) (hg : w.heap.size < XB)
    (hj : Kd.R k50 50 W w.heap.size (fun _ => True) (.slice AJ js.length cJ) yj) (hm : Kd.R k54 54 W w.heap.size (fun _ => True) (.slice AM ms.length cM) ym) :
    XAt w ((W.setCell ⟨XB, 2, none⟩ (.slice AJ js.length cJ)).setCell ⟨XB, 3, none⟩ (.slice AM ms.length cM)) lo hi A c js A' c' ms SB s0 s1 XB x0 x1 AJ cJ yj AM cM ym := by
  have h1 : XB ≠ SB := blk_ne hx h.sp (by decide)
  have h2 : XB ≠ w.heap.size := by omega
  refine ⟨(h.put h2 h1 (by omega) hr hr' 2 _).put h2 h1 (by omega) hr hr' 3 _, blk_put (blk_put hx 2 _ rfl) 3 _ rfl, hg, ?_, ?_⟩
  · exact Kd.R_set (Kd.R_set hj hx (by decide) 2 _) (blk_set hx 2 _) (by decide) 3 _
  · exact Kd.R_set (Kd.R_set hm hx (by decide) 2 _) (blk_set hx 2 _) (by decide) 3 _
theorem R50_blk1 {W : World} {base g n c : Nat} {ok : Nat → Prop} {xs : List S50} (h : Kd.R k50 50 W base ok (.slice (some ⟨g, 0, none⟩) n c) xs) : base ≤ g ∧ ∃ cs, W.heap[g]? = some (.cells cs 50 (0, 0)) := by
  obtain ⟨_, hb, _, q, hq, cs, hc⟩ := (Kd.R_bound h).1 g rfl
  have e : q = 50 := by
    have : q ∈ [50] := hq
    simpa using this
  subst e
  exact ⟨hb, cs, hc⟩
theorem R54_blk1 {W : World} {base g n c : Nat} {ok : Nat → Prop} {xs : List S54} (h : Kd.R k54 54 W base ok (.slice (some ⟨g, 0, none⟩) n c) xs) : base ≤ g ∧ ∃ cs, W.heap[g]? = some (.cells cs 54 (0, 0)) := by
  obtain ⟨_, hb, _, q, hq, cs, hc⟩ := (Kd.R_bound h).1 g rfl
  have e : q = 54 := by
    have : q ∈ [54] := hq
    simpa using this
  subst e
  exact ⟨hb, cs, hc⟩
/-- Junction i of the law's own network. -/
theorem XAt.elemJ {w W : World} {gJ : Nat} (h : XAt w W lo hi A c js A' c' ms SB s0 s1 XB x0 x1 (some ⟨gJ, 0, none⟩) cJ yj AM cM ym) (i : Nat) (hi' : i < js.length) :
    W.cell? ⟨gJ, i * 5, none⟩ = some (.int .i64 (rd_T50 yj i).f0.f0) ∧ W.cell? ⟨gJ, i * 5 + 1, none⟩ = some (.int .i64 (rd_T50 yj i).f0.f1) ∧ W.frozen? ⟨gJ, i * 5, none⟩ = false ∧ W.frozen? ⟨gJ, i * 5 + 1, none⟩ = false := by
  obtain ⟨cc, hcl, hM, hcell, hf⟩ := Kd.R_elem h.jr z50 (i : Int) (Int.natCast_nonneg i) (by omega)
  obtain rfl := k50_openM hM
  rw [Int.toNat_natCast] at hcell hf
  exact ⟨hcell 0 _ rfl, hcell 1 _ rfl, hf 0, hf 1⟩
theorem XAt.putJ {w W : World} {gJ : Nat} (h : XAt w W lo hi A c js A' c' ms SB s0 s1 XB x0 x1 (some ⟨gJ, 0, none⟩) cJ yj AM cM ym) (hr : Kd.C k50 w A js.length js) (hr' : Kd.C k54 w A' ms.length ms) (i : Nat) (hi' : i < js.length) (a b : Int) :
    XAt w ((W.setCell ⟨gJ, i * 5, none⟩ (.int .i64 a)).setCell ⟨gJ, i * 5 + 1, none⟩ (.int .i64 b)) lo hi A c js A' c' ms SB s0 s1 XB x0 x1 (some ⟨gJ, 0, none⟩) cJ (yj.set i ⟨⟨a, b⟩, (rd_T50 yj i).f1, (rd_T50 yj i).f2, (rd_T50 yj i).f3⟩) AM cM ym := by
  obtain ⟨hge, cs, hcs⟩ := R50_blk1 h.jr
  have n1 : gJ ≠ w.heap.size := blk_ne hcs h.en.net.blk (by decide)
  have n2 : gJ ≠ SB := blk_ne hcs h.en.sp (by decide)
  have n3 : XB ≠ gJ := blk_ne h.xb hcs (by decide)
  obtain ⟨cc, hcl, hM, hcell, hf⟩ := Kd.R_elem h.jr z50 (i : Int) (Int.natCast_nonneg i) (by omega)
  obtain rfl := k50_openM hM
  have hs := Kd.R_seg h.jr (i : Int) (Int.natCast_nonneg i) (by omega) hcl hcell (seg := [.int .i64 a, .int .i64 b]) (j := 0) (x' := ⟨⟨a, b⟩, (rd_T50 yj i).f1, (rd_T50 yj i).f2, (rd_T50 yj i).f3⟩) (okp := fun _ => False) (by show 0 + 2 ≤ 5; decide) (k50_mkM _ _ _ ⟨⟨a, b⟩, (rd_T50 yj i).f1, (rd_T50 yj i).f2, (rd_T50 yj i).f3⟩) (fun _ hk => hk.elim)
  rw [Int.toNat_natCast] at hs
  have hcs1 := blk_set hcs (i * 5) (.int .i64 a)
  refine ⟨(h.en.put n1 n2 hge hr hr' _ _).put n1 n2 hge hr hr' _ _, blk_far (blk_far h.xb n3 _) n3 _, h.xge, hs.1, ?_⟩
  exact Kd.R_set (Kd.R_set h.mr hcs (by decide) _ _) hcs1 (by decide) _ _
/-- Main k of the law's own network. -/
theorem XAt.elemM {w W : World} {gM : Nat} (h : XAt w W lo hi A c js A' c' ms SB s0 s1 XB x0 x1 AJ cJ yj (some ⟨gM, 0, none⟩) cM ym) (i : Nat) (hi' : i < ms.length) :
    W.cell? ⟨gM, i * 4, none⟩ = some (.int .i64 (rd_T54 ym i).f0) ∧ W.cell? ⟨gM, i * 4 + 2, none⟩ = some (.int .i64 (rd_T54 ym i).f2) ∧ W.frozen? ⟨gM, i * 4 + 2, none⟩ = false := by
  obtain ⟨cc, hcl, hM, hcell, hf⟩ := Kd.R_elem h.mr z54 (i : Int) (Int.natCast_nonneg i) (by omega)
  obtain rfl := k54_openM hM
  rw [Int.toNat_natCast] at hcell hf
  exact ⟨hcell 0 _ rfl, hcell 2 _ rfl, hf 2⟩
theorem XAt.putM {w W : World} {gM : Nat} (h : XAt w W lo hi A c js A' c' ms SB s0 s1 XB x0 x1 AJ cJ yj (some ⟨gM, 0, none⟩) cM ym) (hr : Kd.C k50 w A js.length js) (hr' : Kd.C k54 w A' ms.length ms) (i : Nat) (hi' : i < ms.length) (v : Int) :
    XAt w (W.setCell ⟨gM, i * 4 + 2, none⟩ (.int .i64 v)) lo hi A c js A' c' ms SB s0 s1 XB x0 x1 AJ cJ yj (some ⟨gM, 0, none⟩) cM (ym.set i ⟨(rd_T54 ym i).f0, (rd_T54 ym i).f1, v, (rd_T54 ym i).f3⟩) := by
  obtain ⟨hge, cs, hcs⟩ := R54_blk1 h.mr
  have n1 : gM ≠ w.heap.size := blk_ne hcs h.en.net.blk (by decide)
  have n2 : gM ≠ SB := blk_ne hcs h.en.sp (by decide)
  have n3 : XB ≠ gM := blk_ne h.xb hcs (by decide)
  obtain ⟨cc, hcl, hM, hcell, hf⟩ := Kd.R_elem h.mr z54 (i : Int) (Int.natCast_nonneg i) (by omega)
  obtain rfl := k54_openM hM
  have hs := Kd.R_seg h.mr (i : Int) (Int.natCast_nonneg i) (by omega) hcl hcell (seg := [.int .i64 v]) (j := 2) (x' := ⟨(rd_T54 ym i).f0, (rd_T54 ym i).f1, v, (rd_T54 ym i).f3⟩) (okp := fun _ => False) (by show 2 + 1 ≤ 4; decide) (k54_mkM _ _ _ ⟨(rd_T54 ym i).f0, (rd_T54 ym i).f1, v, (rd_T54 ym i).f3⟩) (fun _ hk => hk.elim)
  rw [Int.toNat_natCast] at hs
  exact ⟨h.en.put n1 n2 hge hr hr' _ _, blk_far h.xb n3 _, h.xge, Kd.R_set h.jr hcs (by decide) _ _, hs.1⟩
theorem XAt.lens {w W : World} (h : XAt w W lo hi A c js A' c' ms SB s0 s1 XB x0 x1 AJ cJ yj AM cM ym) : yj.length = js.length ∧ ym.length = ms.length := ⟨(Kd.R_reads' h.jr).1.symm, (Kd.R_reads' h.mr).1.symm⟩
end
/-- The junctions, the first i of them turned. -/
def mixJ (d : Bool) (js : List S50) (i : Nat) : List S50 := (js.take i).map (endJ d) ++ js.drop i
theorem mixJ_0 (d : Bool) (js : List S50) : mixJ d js 0 = js := by simp [mixJ]
theorem mixJ_all (d : Bool) (js : List S50) : mixJ d js js.length = js.map (endJ d) := by simp [mixJ]
theorem mixJ_get (d : Bool) (js : List S50) (i : Nat) (h : i < js.length) : rd_T50 (mixJ d js i) i = rd_T50 js i := by
  unfold mixJ
  rw [rd_T50_eq _ _ h, rd_T50_eq _ _ (by simp; omega), List.getElem_append_right (by simp; omega)]
  simp [Nat.min_eq_left (Nat.le_of_lt h)]
theorem mixJ_len (d : Bool) (js : List S50) (i : Nat) : (mixJ d js i).length = js.length := by simp [mixJ]; omega
theorem rd_set50 {l : List S50} {k : Nat} (h : k < l.length) (x : S50) (q : Nat) : rd_T50 (l.set k x) q = if q = k then x else rd_T50 l q := by
  unfold rd_T50
  rw [Int.toNat_natCast, List.getD_eq_getElem?_getD, List.getD_eq_getElem?_getD, List.getElem?_set]
  by_cases e : q = k
  · subst e; simp [h]
  · rw [if_neg (fun e2 => e e2.symm), if_neg e]
theorem mixJ_succ (d : Bool) (js : List S50) (i : Nat) (h : i < js.length) : mixJ d js (i + 1) = (mixJ d js i).set i (endJ d (rd_T50 js i)) := by
  unfold mixJ
  rw [rd_T50_eq _ _ h, List.take_succ_eq_append_getElem h, List.map_append, List.set_append_right _ _ (by simp; omega), List.length_map, List.length_take, Nat.min_eq_left (Nat.le_of_lt h), Nat.sub_self, List.drop_eq_getElem_cons h, List.set_cons_zero, List.append_assoc]
  rfl
def shutD (o : Int) (m : S54) : S54 := if m.f2 = 2 then ⟨m.f0, m.f1, o, m.f3⟩ else m
def mixM (o : Int) (ms : List S54) (i : Nat) : List S54 := (ms.take i).map (shutD o) ++ ms.drop i
theorem mixM_0 (o : Int) (ms : List S54) : mixM o ms 0 = ms := by simp [mixM]
theorem mixM_len (o : Int) (ms : List S54) (i : Nat) : (mixM o ms i).length = ms.length := by simp [mixM]; omega
theorem mixM_get (o : Int) (ms : List S54) (i : Nat) (h : i < ms.length) : rd_T54 (mixM o ms i) i = rd_T54 ms i := by
  unfold mixM
  rw [rd_T54_eq _ _ h, rd_T54_eq _ _ (by simp; omega), List.getElem_append_right (by simp; omega)]
  simp [Nat.min_eq_left (Nat.le_of_lt h)]
theorem mixM_succ (o : Int) (ms : List S54) (i : Nat) (h : i < ms.length) : mixM o ms (i + 1) = (mixM o ms i).set i (shutD o (rd_T54 ms i)) := by
  unfold mixM
  rw [rd_T54_eq _ _ h, List.take_succ_eq_append_getElem h, List.map_append, List.set_append_right _ _ (by simp; omega), List.length_map, List.length_take, Nat.min_eq_left (Nat.le_of_lt h), Nat.sub_self, List.drop_eq_getElem_cons h, List.set_cons_zero, List.append_assoc]
  rfl
theorem rd_set54 {l : List S54} {k : Nat} (h : k < l.length) (x : S54) (q : Nat) : rd_T54 (l.set k x) q = if q = k then x else rd_T54 l q := by
  unfold rd_T54
  rw [Int.toNat_natCast, List.getD_eq_getElem?_getD, List.getD_eq_getElem?_getD, List.getElem?_set]
  by_cases e : q = k
  · subst e; simp [h]
  · rw [if_neg (fun e2 => e e2.symm), if_neg e]
theorem mixM_keep (o : Int) (ms : List S54) (i : Nat) (h : i < ms.length) (h2 : (rd_T54 ms i).f2 ≠ 2) : mixM o ms (i + 1) = mixM o ms i := by
  rw [mixM_succ o ms i h]
  unfold shutD
  rw [if_neg h2]
  have hl : i < (mixM o ms i).length := by rw [mixM_len]; exact h
  have e := mixM_get o ms i h
  rw [← e, rd_T54_eq _ _ hl]
  exact List.set_getElem_self hl
theorem mixM_all (o : Int) (ms : List S54) : Turned ms (mixM o ms ms.length) o (fun _ => false) where
  len := mixM_len o ms _
  at_ := fun k hk => by
    have e : rd_T54 (mixM o ms ms.length) k = shutD o (rd_T54 ms k) := by
      unfold mixM
      rw [rd_T54_eq _ _ hk, rd_T54_eq _ _ (by simp; omega)]
      simp
    rw [e, if_neg (by decide)]
    unfold shutD
    split <;> exact ⟨rfl, rfl, rfl, rfl⟩
theorem Turned.open_ {ms zs : List S54} {o : Int} {P : Nat → Bool} (h : Turned ms zs o P) {k : Nat} (hk : k < ms.length) : Turned ms (zs.set k ⟨(rd_T54 zs k).f0, (rd_T54 zs k).f1, 0, (rd_T54 zs k).f3⟩) o (fun q => P q || q == k) where
  len := by rw [List.length_set]; exact h.len
  at_ := fun q hq => by
    rw [rd_set54 (by rw [h.len]; exact hk)]
    have h1 := h.at_ q hq
    by_cases e : q = k
    · subst e
      rw [if_pos rfl]
      refine ⟨h1.1, h1.2.1, h1.2.2.1, ?_⟩
      simp
    · rw [if_neg e]
      have : (q == k) = false := by simpa using e
      simp only [this, Bool.or_false]
      exact h1
/-- The way from j: what was passed, and what is left. -/
def WayAt (js : List S50) (ms : List S54) (j : Nat) (P : Nat → Bool) (i : Nat) : Prop := ∀ k, PipeMath.behind (netM js ms) k j = (P k || PipeMath.behind (netM js ms) k i)
theorem way_step {js : List S50} {ms : List S54} {j : Nat} {P : Nat → Bool} {k : Nat} (h : WayAt js ms j P (k + 1)) : WayAt js ms j (fun q => P q || q == k) ((netM js ms).par k) := fun q => by
  have e : PipeMath.behind (netM js ms) q (k + 1) = (k == q || PipeMath.behind (netM js ms) q ((netM js ms).par k)) := by rw [PipeMath.behind]
  have e2 : (k == q) = (q == k) := by rw [Bool.eq_iff_iff, beq_iff_eq, beq_iff_eq]; exact eq_comm
  rw [h q, e, e2, Bool.or_assoc]
theorem way_done {js : List S50} {ms : List S54} {j : Nat} {P : Nat → Bool} (h : WayAt js ms j P 0) : (fun k => PipeMath.behind (netM js ms) k j) = P := funext fun k => by
  have e : PipeMath.behind (netM js ms) k 0 = false := by rw [PipeMath.behind]
  rw [h k, e, Bool.or_false]
theorem par_is {lo hi : Int} {js : List S50} {ms : List S54} (hok : NetOk lo hi js ms) {k : Nat} (hk : k < ms.length) : (rd_T54 ms k).f0 = (((netM js ms).par k : Nat) : Int) ∧ (netM js ms).par k ≤ k := by
  have := (mains_ok hok.mok k hk).1
  refine ⟨?_, (netM js ms).le k⟩
  show _ = ((min (rd_T54 ms k).f0.toNat k : Nat) : Int)
  omega
theorem gets_le {lo hi : Int} {js : List S50} {ms : List S54} (hok : NetOk lo hi js ms) {j : Nat} (hj : j ≤ ms.length) : loP js ms lo j ≤ hiP js ms hi j := by
  rw [loP_m hok hj, hiP_m hok hj]
  refine PipeMath.at_mono (netM js ms) (fun k h => ?_) (fun i => ?_) (fun i => need_nn hok true i) hok.src.2.1 j
  · unfold PipeMath.onlyWay at h
    unfold PipeMath.allOpen
    cases h1 : (valM ms).opn k <;> cases h2 : (valM ms).doubt k <;> simp [h1, h2] at h ⊢
  · have := junction_ok hok.jok i
    unfold needM endE
    simp
    omega
theorem press_case (lo hi : Int) (js : List S50) (ms : List S54) (o : Int) : (∃ e : Int, pressS lo hi js ms o = (0, 0, e) ∧ (e = 1 ∨ e = 2 ∨ e = 4)) ∨ ∃ j : Nat, o = (j : Int) ∧ NetOk lo hi js ms ∧ j ≤ ms.length ∧ statusP ms j ≠ 0 ∧ pressS lo hi js ms o = (loP js ms lo j, hiP js ms hi j, 0) := by
  unfold pressS
  by_cases hn : netB lo hi js ms = true
  · rw [if_pos hn]
    have hok := net_ok hn
    by_cases hj : withinB o 0 ((js.length : Int) - 1) = true
    · rw [if_pos hj]
      have hj2 := hj
      simp only [withinB, Bool.and_eq_true, decide_eq_true_eq] at hj2
      obtain ⟨k, rfl⟩ := Int.eq_ofNat_of_zero_le hj2.1
      have := hok.ml
      rw [Int.toNat_natCast]
      by_cases hs : statusP ms k = 0
      · rw [if_pos hs]
        exact .inl ⟨4, rfl, by omega⟩
      · rw [if_neg hs]
        exact .inr ⟨k, rfl, hok, by omega, hs, rfl⟩
    · rw [if_neg hj]
      exact .inl ⟨2, rfl, by omega⟩
  · rw [if_neg hn]
    exact .inl ⟨1, rfl, by omega⟩
set_option maxHeartbeats 8000000 in
set_option maxRecDepth 100000 in
theorem ends_walk (lo hi : Int) (A : Option Addr) (c : Nat) (js : List S50) (A' : Option Addr) (c' : Nat) (ms : List S54) (o : Int) (w : World) (hr : Kd.C k50 w A js.length js) (hc : js.length ≤ c) (hr' : Kd.C k54 w A' ms.length ms) (hc' : ms.length ≤ c') (how : (Lit.int .i64 o).wf = true) :
    Calls Try.prog 6 #[.agg #[.int .i64 lo, .int .i64 hi, .slice A js.length c, .slice A' ms.length c'], .int .i64 o] w fun e w' => e = .returned (.bool true) ∧ Below w.heap.size w w' := by
  clear how
  have H0 : Aside0 (NetAt w (w.alloc (.cells (netC lo hi A js.length c A' ms.length c') 27)) w.heap.size lo hi A c js A' c' ms) := ⟨⟨blk_new w _, Kd.C_alloc hr _, Kd.C_alloc hr' _, below_alloc (Below.refl _ _) _⟩⟩
  have s0 := cell_two H0.out.blk 0 rfl
  have s1 := cell_two H0.out.blk 1 rfl
  have s2 := cell_two H0.out.blk 2 rfl
  have s3 := cell_two H0.out.blk 3 rfl
  have HLg : Aside0 (∀ W, NetAt w W w.heap.size lo hi A c js A' c' ms → Calls Try.prog 10 #[.agg #[.int .i64 lo, .int .i64 hi, .slice A js.length c, .slice A' ms.length c'], .int .i64 8] W fun e w' => e = .returned (.bool (largeB js ms 8)) ∧ Below W.heap.size W w') := ⟨fun W h => large_any lo hi A c js A' c' ms 8 W h.jr hc h.mr hc'⟩
  have HPr : Aside0 (∀ W, NetAt w W w.heap.size lo hi A c js A' c' ms → Calls Try.prog 14 #[.agg #[.int .i64 lo, .int .i64 hi, .slice A js.length c, .slice A' ms.length c'], .int .i64 o] W fun e w' => e = .returned (.tuple #[.agg #[.int .i64 (pressS lo hi js ms o).1, .int .i64 (pressS lo hi js ms o).2.1], .int .i64 (pressS lo hi js ms o).2.2]) ∧ Below W.heap.size W w') := ⟨fun W h => Press_any lo hi A c js A' c' ms o W h.jr hc h.mr hc'⟩
  have hm := Kd.C_max hr
  have hm' := Kd.C_max hr'
  have HNb : Aside0 (∀ W, NetAt w W w.heap.size lo hi A c js A' c' ms → NetOk lo hi js ms → Calls Try.prog 23 #[.agg #[.int .i64 lo, .int .i64 hi, .slice A js.length c, .slice A' ms.length c']] W fun e w' => e = .returned (.bool true) ∧ Below W.heap.size W w') := ⟨fun W h hok => by
    have := rNetwork_any lo hi A c js A' c' ms W h.jr hc h.mr hc' (by have := hok.jl; omega) (by have := hok.jl; have := hok.ml; omega)
    rwa [netB_of_ok hok] at this⟩
  have HRR := Aside0.mk (And.intro hr hr')
  clear hr hr'
  by_cases hlg : largeB js ms 8 = true
  · rw [hlg] at HLg
    clear hlg
    go_enter Try.func6, Try.ntmps6
    go_wp2_with (first
      | (go_at_call 10; (with_reducible refine (HLg.out _ H0.out).mono ?_); rintro e W1 ⟨rfl, hb⟩; have H1 := Aside0.mk (H0.out.next hb); clear hb s0 s1 s2 s3)
      | (go_at_call 11; (with_reducible refine (awake_any _).mono ?_); rintro e W2 ⟨rfl, hb⟩; have HB2 := Aside0.mk (bl_next' H1.out.bel hb); clear hb))
    go_ret
    exact ⟨rfl, HB2.out⟩
  · have hlf : largeB js ms 8 = false := by simpa using hlg
    rw [hlf] at HLg
    clear hlg hlf
    rcases press_case lo hi js ms o with ⟨er, hp, he⟩ | ⟨j, rfl, hok, hj, hst, hp⟩
    · rw [hp] at HPr
      have de : (er != 0) = true := by rcases he with rfl | rfl | rfl <;> rfl
      clear hp he
      go_enter Try.func6, Try.ntmps6
      go_wp2_with (first
        | (go_at_call 10; (with_reducible refine (HLg.out _ H0.out).mono ?_); rintro e W1 ⟨rfl, hb⟩; have H1 := Aside0.mk (H0.out.next hb); clear hb s0 s1 s2 s3; have s0 := cell_two H1.out.blk 0 rfl; have s1 := cell_two H1.out.blk 1 rfl; have s2 := cell_two H1.out.blk 2 rfl; have s3 := cell_two H1.out.blk 3 rfl)
        | (go_at_call 14; (with_reducible refine (HPr.out _ H1.out).mono ?_); rintro e W2 ⟨rfl, hb⟩; have H2 := Aside0.mk (H1.out.next hb); clear hb s0 s1 s2 s3; have H3 : Aside0 (EnAt0 w (W2.alloc (.cells #[.int .i64 0, .int .i64 0] 23)) lo hi A c js A' c' ms W2.heap.size 0 0) := ⟨⟨H2.out.next (below_alloc (Below.refl _ _) _), blk_new _ _, blk_lt H2.out.blk⟩⟩; have t0 := cell_two H3.out.sp 0 rfl; have t1 := cell_two H3.out.sp 1 rfl)
        | (go_at_call 11; (with_reducible refine (awake_any _).mono ?_); rintro e W4 ⟨rfl, hb⟩; have HB4 := Aside0.mk (bl_next' H3.out.net.bel hb); clear hb))
      go_ret
      exact ⟨rfl, HB4.out⟩
    · rw [hp] at HPr
      have HOK := Aside0.mk hok
      have HST := Aside0.mk hst
      have hle := gets_le hok hj
      have hl9 : js.length ≤ 9 := hok.jl.2
      have hl8 : ms.length + 1 = js.length := hok.ml
      have hln50 : js.length * 40 ≤ 140737488355328 := by omega
      have hln54 : ms.length * 32 ≤ 140737488355328 := by omega
      have HEnd : Aside0 (∀ (d : Bool) (zs : List S54), Turned ms zs (if d then 0 else 1) (fun k => PipeMath.behind (netM js ms) k j) → pressS (if d then lo else hi) (if d then lo else hi) (js.map (endJ d)) zs j = (if d then loP js ms lo j else hiP js ms hi j, if d then loP js ms lo j else hiP js ms hi j, 0)) := ⟨fun d zs hz => ends_law hok hj hst d hz⟩
      clear hp hok hst
      revert HEnd
      generalize loP js ms lo j = pl at HPr hle ⊢
      generalize hiP js ms hi j = ph at HPr hle ⊢
      intro HEnd
      have dle : decide (ph < pl) = false := decide_eq_false (by omega)
      go_enter Try.func6, Try.ntmps6
      go_wp2_with (first
        | (go_at_call 10; (with_reducible refine (HLg.out _ H0.out).mono ?_); rintro e W1 ⟨rfl, hb⟩; have H1 := Aside0.mk (H0.out.next hb); clear hb s0 s1 s2 s3; have s0 := cell_two H1.out.blk 0 rfl; have s1 := cell_two H1.out.blk 1 rfl; have s2 := cell_two H1.out.blk 2 rfl; have s3 := cell_two H1.out.blk 3 rfl)
        | (go_at_call 14; (with_reducible refine (HPr.out _ H1.out).mono ?_); rintro e W2 ⟨rfl, hb⟩; have H2 := Aside0.mk (H1.out.next hb); clear hb s0 s1 s2 s3; have H3 : Aside0 (EnAt0 w (W2.alloc (.cells #[.int .i64 pl, .int .i64 ph] 23)) lo hi A c js A' c' ms W2.heap.size pl ph) := ⟨⟨H2.out.next (below_alloc (Below.refl _ _) _), blk_new _ _, blk_lt H2.out.blk⟩⟩; have t0 := cell_two H3.out.sp 0 rfl; have t1 := cell_two H3.out.sp 1 rfl; have s0 := cell_two H3.out.net.blk 0 rfl; have s1 := cell_two H3.out.net.blk 1 rfl; have s2 := cell_two H3.out.net.blk 2 rfl; have s3 := cell_two H3.out.net.blk 3 rfl)
        | (go_at_call 23; (with_reducible refine (HNb.out _ H3.out.net HOK.out).mono ?_); rintro e W3 ⟨rfl, hb⟩; have H4 := Aside0.mk (H3.out.next hb); clear hb s0 s1 s2 s3 t0 t1; have t0 := cell_two H4.out.sp 0 rfl; have t1 := cell_two H4.out.sp 1 rfl))
      clear t0 t1 H0 H1 H2 H3
      generalize W2.heap.size = SB at H4 ⊢
      go_loopw [7] (fun i wr => ∃ k : Nat, i = .int .i64 (k : Int) ∧ k ≤ 2 ∧ Aside0 (EnAt0 w wr lo hi A c js A' c' ms SB pl ph)) (fun i _ => 2 - (intOf i).toNat)
      case atStart => exact ⟨0, rfl, by omega, H4⟩
      case round =>
        clear H4
        obtain ⟨k, rfl, hk, HL⟩ := hrel
        have s0 := cell_two HL.out.net.blk 0 rfl
        have s1 := cell_two HL.out.net.blk 1 rfl
        have s2 := cell_two HL.out.net.blk 2 rfl
        have s3 := cell_two HL.out.net.blk 3 rfl
        rcases (by omega : k = 0 ∨ k = 1 ∨ k = 2) with rfl | rfl | rfl
        · skip
          have HX := Aside0.mk (HL.out.next (below_alloc (Below.refl _ _) (.cells #[.int .i64 lo, .int .i64 hi, .slice A js.length c, .slice A' ms.length c'] 27)))
          have XX := Aside0.mk (blk_new wr (.cells #[.int .i64 lo, .int .i64 hi, .slice A js.length c, .slice A' ms.length c'] 27))
          go_wp2_with (fail)
          refine start_ (n := 12) (S := fun w' => w'.cell? ⟨w.heap.size, 2, none⟩ = some (.slice A js.length c) ∧ w'.cell? ⟨w.heap.size, 3, none⟩ = some (.slice A' ms.length c')) (ds := [9, 11]) (bs_ 12 0) (by kernel_rfl) rfl rfl (⟨cell_two HX.out.net.blk 2 rfl, cell_two HX.out.net.blk 3 rfl⟩) (fun hHeld => ?_)
          have HW := Aside0.mk (HX.out.next (Below.drew (Below.refl _ _)))
          have XW := Aside0.mk (blk_drew XX.out)
          clear HX XX
          generalize (wr.alloc (.cells #[.int .i64 lo, .int .i64 hi, .slice A js.length c, .slice A' ms.length c'] 27)).drew = W0 at HW XW hHeld ⊢
          have HB0 : Aside0 (w.heap.size ≤ W0.heap.size) := ⟨HW.out.net.bel.size⟩
          have HBr := Aside0.mk (Below.refl W0.heap.size W0)
          have HS : Aside0 (∀ W', Below W0.heap.size W0 W' → W'.cell? ⟨w.heap.size, 2, none⟩ = some (.slice A js.length c) ∧ W'.cell? ⟨w.heap.size, 3, none⟩ = some (.slice A' ms.length c')) := ⟨fun W' hb => ⟨cell_two (HW.out.next hb).net.blk 2 rfl, cell_two (HW.out.next hb).net.blk 3 rfl⟩⟩
          have HCJ := Aside0.mk HW.out.net.jr
          have HCM := Aside0.mk HW.out.net.mr
          refine pure_ (i := 1) (N := some 49) (v := ?_) (a' := ?_) (bs_ 12 2) rfl rfl (by kernel_rfl) (fun _ _ _ h => h) (Or.inl ⟨by rfl, ?_⟩) ?_ ?_; rotate_left; (· intro w'; go_simp; with_reducible rfl); rotate_left; (· simp only [Act.put, N1_]; rfl)
          refine take_ (i := 2) (N := some 50) (v := ?_) (a' := ?_) (bs_ 12 6) rfl rfl (by kernel_rfl) (fun _ _ _ h => h) (Or.inl ⟨by rfl, ?_⟩) hHeld ?_ ?_; rotate_left; (· rintro w' ⟨s0, s1⟩; go_simp; with_reducible rfl); rotate_left; (· simp only [Act.put, N1_]; rfl)
          refine pure_ (i := 5) (N := some 53) (v := ?_) (a' := ?_) (bs_ 12 38) rfl rfl (by kernel_rfl) (fun _ _ _ h => h) (Or.inl ⟨by rfl, ?_⟩) ?_ ?_; rotate_left; (· intro w'; go_simp; with_reducible rfl); rotate_left; (· simp only [Act.put, N1_]; rfl)
          refine take_ (i := 6) (N := some 54) (v := ?_) (a' := ?_) (bs_ 12 102) rfl rfl (by kernel_rfl) (fun _ _ _ h => h) (Or.inl ⟨by rfl, ?_⟩) hHeld ?_ ?_; rotate_left; (· rintro w' ⟨s0, s1⟩; go_simp; with_reducible rfl); rotate_left; (· simp only [Act.put, N1_]; rfl)
          clear hHeld
          refine join_ (σ := Nat × (Option Addr × Nat) × Nat × (Option Addr × Nat)) 3 (bs_ 12 511) (fun s => [(48, .slice (some ⟨s.1, 0, none⟩) 0 0), (51, .slice s.2.1.1 js.length s.2.1.2), (52, .slice (some ⟨s.2.2.1, 0, none⟩) 0 0), (55, .slice s.2.2.2.1 ms.length s.2.2.2.2), (56, .pointer (some ⟨wr.heap.size, 2, none⟩))]) (fun s w' => Kd.R k50 50 w' w.heap.size (fun _ => True) (.slice s.2.1.1 js.length s.2.1.2) js ∧ Kd.R k54 54 w' w.heap.size (fun _ => True) (.slice s.2.2.2.1 ms.length s.2.2.2.2) ms ∧ Below W0.heap.size W0 w') ?_ ?_
          rotate_left
          · intro hCont
            refine two_ (i := 0) (j := 4) (Ni := some 48) (Nj := some 52) (bs_ 12 103) (bs_ 12 118) rfl rfl rfl rfl (by kernel_rfl) (by decide) (by decide) (fun K hK => ?_) (fun K hK => ?_)
            · skip
              refine event_step (v := .slice (some ⟨W0.heap.size, 0, none⟩) 0 0) (w1 := W0.alloc (.cells #[] 50)) (by rfl) (by first | (go_simp; done) | (go_simp; rfl)) ?_
              have HR0_1 := Aside0.mk (lit_R k50 W0 w.heap.size 50 (Nat.le_trans HB0.out HBr.out.size))
              have HB1 := Aside0.mk (below_alloc HBr.out (.cells #[] 50))
              have hSn := HS.out _ HB1.out
              generalize (W0.alloc (.cells #[] 50)) = V1 at HR0_1 HB1  hSn ⊢
              refine hK.out _ _ hSn (fun hHeld => ?_)
              clear hK K hSn hHeld
              refine norm_ (a' := ?_) ?_ ?_; rotate_left; (· show Act.put _ (some 48) _ = _; simp only [Act.put, N1_]; rfl)
              refine two_ (i := 3) (j := 4) (Ni := some 51) (Nj := some 52) (bs_ 12 111) (bs_ 12 119) rfl rfl rfl rfl (by kernel_rfl) (by decide) (by decide) (fun K hK => ?_) (fun K hK => ?_)
              · skip
                refine copy_step k50 w.heap.size W0.heap.size (by rfl) (.tmp 48) (.tmp 50) 24 50 (.agg #[(.int .i64 0), (.int .i64 0), (.int .i64 0), (.int .i64 0), (.int .i64 0)]) 40 (by rfl) Try.underlying24 info50 rfl (by decide) (by omega) js A c rfl rfl HR0_1.out (Kd.C_below HCJ.out HB1.out) (fun _ x cs h => M_of_K50 x cs h) (Nat.le_trans HB0.out HB1.out.size) hln50 ?_
                intro A3_2 c3_2 V2 hR hb
                have HR3_2 := Aside0.mk hR
                have HB2 := Aside0.mk (bl_next' HB1.out hb)
                have HR0_2 := Aside0.mk (Kd.R_below HR0_1.out hb)
                have hSn := HS.out _ HB2.out
                clear hR hb
                refine hK.out _ _ hSn (fun hHeld => ?_)
                clear hK K hSn hHeld
                refine norm_ (a' := ?_) ?_ ?_; rotate_left; (· show Act.put _ (some 51) _ = _; simp only [Act.put, N1_]; rfl)
                refine pure_ (i := 8) (N := some 56) (v := ?_) (a' := ?_) (bs_ 12 367) rfl rfl (by kernel_rfl) (fun _ _ _ h => h) (Or.inl ⟨by rfl, ?_⟩) ?_ ?_; rotate_left; (· intro w'; go_simp; with_reducible rfl); rotate_left; (· simp only [Act.put, N1_]; rfl)
                refine one_ (i := 4) (N := some 52) (bs_ 12 383) rfl rfl (by kernel_rfl) (by decide) (fun K hK => ?_)
                refine event_step (v := .slice (some ⟨V2.heap.size, 0, none⟩) 0 0) (w1 := V2.alloc (.cells #[] 54)) (by rfl) (by first | (go_simp; done) | (go_simp; rfl)) ?_
                have HR4_3 := Aside0.mk (lit_R k54 V2 w.heap.size 54 (Nat.le_trans HB0.out HB2.out.size))
                have HB3 := Aside0.mk (below_alloc HB2.out (.cells #[] 54))
                have HR0_3 := Aside0.mk (Kd.R_alloc HR0_2.out (.cells #[] 54))
                have HR3_3 := Aside0.mk (Kd.R_alloc HR3_2.out (.cells #[] 54))
                have hSn := HS.out _ HB3.out
                generalize (V2.alloc (.cells #[] 54)) = V3 at HR4_3 HB3 HR0_3 HR3_3 hSn ⊢
                refine hK.out _ _ hSn (fun hHeld => ?_)
                clear hK K hSn hHeld
                refine norm_ (a' := ?_) ?_ ?_; rotate_left; (· show Act.put _ (some 52) _ = _; simp only [Act.put, N1_]; rfl)
                refine one_ (i := 7) (N := some 55) (bs_ 12 511) rfl rfl (by kernel_rfl) (by decide) (fun K hK => ?_)
                refine copy_step k54 w.heap.size V2.heap.size (by rfl) (.tmp 52) (.tmp 54) 25 54 (.agg #[(.int .i64 0), (.int .i64 0), (.int .i64 0), (.int .i64 0)]) 32 (by rfl) Try.underlying25 info54 rfl (by decide) (by omega) ms A' c' rfl rfl HR4_3.out (Kd.C_below HCM.out HB3.out) (fun _ x cs h => M_of_K54 x cs h) (Nat.le_trans HB0.out HB3.out.size) hln54 ?_
                intro A7_4 c7_4 V4 hR hb
                have HR7_4 := Aside0.mk hR
                have HB4 := Aside0.mk (bl_next' HB3.out hb)
                have HR0_4 := Aside0.mk (Kd.R_below HR0_3.out hb)
                have HR3_4 := Aside0.mk (Kd.R_below HR3_3.out hb)
                have HR4_4 := Aside0.mk (Kd.R_below HR4_3.out hb)
                have hSn := HS.out _ HB4.out
                clear hR hb
                refine hK.out _ _ hSn (fun hHeld => ?_)
                clear hK K hSn hHeld
                refine norm_ (a' := ?_) ?_ ?_; rotate_left; (· show Act.put _ (some 55) _ = _; simp only [Act.put, N1_]; rfl)
                exact norm_ (by first | (simp only [putAll, Act.put, List.setIfInBounds_toArray, List.set_cons_zero, List.set_cons_succ]; done) | (simp only [putAll, Act.put, List.setIfInBounds_toArray, List.set_cons_zero, List.set_cons_succ]; rfl)) (hCont (W0.heap.size, (A3_2, c3_2), V2.heap.size, (A7_4, c7_4)) _ ⟨HR3_4.out, HR7_4.out, HB4.out⟩)
              · skip
                refine event_step (v := .slice (some ⟨V1.heap.size, 0, none⟩) 0 0) (w1 := V1.alloc (.cells #[] 54)) (by rfl) (by first | (go_simp; done) | (go_simp; rfl)) ?_
                have HR4_5 := Aside0.mk (lit_R k54 V1 w.heap.size 54 (Nat.le_trans HB0.out HB1.out.size))
                have HB5 := Aside0.mk (below_alloc HB1.out (.cells #[] 54))
                have HR0_5 := Aside0.mk (Kd.R_alloc HR0_1.out (.cells #[] 54))
                have hSn := HS.out _ HB5.out
                generalize (V1.alloc (.cells #[] 54)) = V5 at HR4_5 HB5 HR0_5 hSn ⊢
                refine hK.out _ _ hSn (fun hHeld => ?_)
                clear hK K hSn hHeld
                refine norm_ (a' := ?_) ?_ ?_; rotate_left; (· show Act.put _ (some 52) _ = _; simp only [Act.put, N1_]; rfl)
                refine one_ (i := 3) (N := some 51) (bs_ 12 127) rfl rfl (by kernel_rfl) (by decide) (fun K hK => ?_)
                refine copy_step k50 w.heap.size W0.heap.size (by rfl) (.tmp 48) (.tmp 50) 24 50 (.agg #[(.int .i64 0), (.int .i64 0), (.int .i64 0), (.int .i64 0), (.int .i64 0)]) 40 (by rfl) Try.underlying24 info50 rfl (by decide) (by omega) js A c rfl rfl HR0_5.out (Kd.C_below HCJ.out HB5.out) (fun _ x cs h => M_of_K50 x cs h) (Nat.le_trans HB0.out HB5.out.size) hln50 ?_
                intro A3_6 c3_6 V6 hR hb
                have HR3_6 := Aside0.mk hR
                have HB6 := Aside0.mk (bl_next' HB5.out hb)
                have HR0_6 := Aside0.mk (Kd.R_below HR0_5.out hb)
                have HR4_6 := Aside0.mk (Kd.R_below HR4_5.out hb)
                have hSn := HS.out _ HB6.out
                clear hR hb
                refine hK.out _ _ hSn (fun hHeld => ?_)
                clear hK K hSn hHeld
                refine norm_ (a' := ?_) ?_ ?_; rotate_left; (· show Act.put _ (some 51) _ = _; simp only [Act.put, N1_]; rfl)
                refine pure_ (i := 8) (N := some 56) (v := ?_) (a' := ?_) (bs_ 12 383) rfl rfl (by kernel_rfl) (fun _ _ _ h => h) (Or.inl ⟨by rfl, ?_⟩) ?_ ?_; rotate_left; (· intro w'; go_simp; with_reducible rfl); rotate_left; (· simp only [Act.put, N1_]; rfl)
                refine one_ (i := 7) (N := some 55) (bs_ 12 511) rfl rfl (by kernel_rfl) (by decide) (fun K hK => ?_)
                refine copy_step k54 w.heap.size V1.heap.size (by rfl) (.tmp 52) (.tmp 54) 25 54 (.agg #[(.int .i64 0), (.int .i64 0), (.int .i64 0), (.int .i64 0)]) 32 (by rfl) Try.underlying25 info54 rfl (by decide) (by omega) ms A' c' rfl rfl HR4_6.out (Kd.C_below HCM.out HB6.out) (fun _ x cs h => M_of_K54 x cs h) (Nat.le_trans HB0.out HB6.out.size) hln54 ?_
                intro A7_7 c7_7 V7 hR hb
                have HR7_7 := Aside0.mk hR
                have HB7 := Aside0.mk (bl_next' HB6.out hb)
                have HR0_7 := Aside0.mk (Kd.R_below HR0_6.out hb)
                have HR4_7 := Aside0.mk (Kd.R_below HR4_6.out hb)
                have HR3_7 := Aside0.mk (Kd.R_below HR3_6.out hb)
                have hSn := HS.out _ HB7.out
                clear hR hb
                refine hK.out _ _ hSn (fun hHeld => ?_)
                clear hK K hSn hHeld
                refine norm_ (a' := ?_) ?_ ?_; rotate_left; (· show Act.put _ (some 55) _ = _; simp only [Act.put, N1_]; rfl)
                exact norm_ (by first | (simp only [putAll, Act.put, List.setIfInBounds_toArray, List.set_cons_zero, List.set_cons_succ]; done) | (simp only [putAll, Act.put, List.setIfInBounds_toArray, List.set_cons_zero, List.set_cons_succ]; rfl)) (hCont (W0.heap.size, (A3_6, c3_6), V1.heap.size, (A7_7, c7_7)) _ ⟨HR3_7.out, HR7_7.out, HB7.out⟩)
            · skip
              refine event_step (v := .slice (some ⟨W0.heap.size, 0, none⟩) 0 0) (w1 := W0.alloc (.cells #[] 54)) (by rfl) (by first | (go_simp; done) | (go_simp; rfl)) ?_
              have HR4_8 := Aside0.mk (lit_R k54 W0 w.heap.size 54 (Nat.le_trans HB0.out HBr.out.size))
              have HB8 := Aside0.mk (below_alloc HBr.out (.cells #[] 54))
              have hSn := HS.out _ HB8.out
              generalize (W0.alloc (.cells #[] 54)) = V8 at HR4_8 HB8  hSn ⊢
              refine hK.out _ _ hSn (fun hHeld => ?_)
              clear hK K hSn hHeld
              refine norm_ (a' := ?_) ?_ ?_; rotate_left; (· show Act.put _ (some 52) _ = _; simp only [Act.put, N1_]; rfl)
              refine one_ (i := 0) (N := some 48) (bs_ 12 119) rfl rfl (by kernel_rfl) (by decide) (fun K hK => ?_)
              refine event_step (v := .slice (some ⟨V8.heap.size, 0, none⟩) 0 0) (w1 := V8.alloc (.cells #[] 50)) (by rfl) (by first | (go_simp; done) | (go_simp; rfl)) ?_
              have HR0_9 := Aside0.mk (lit_R k50 V8 w.heap.size 50 (Nat.le_trans HB0.out HB8.out.size))
              have HB9 := Aside0.mk (below_alloc HB8.out (.cells #[] 50))
              have HR4_9 := Aside0.mk (Kd.R_alloc HR4_8.out (.cells #[] 50))
              have hSn := HS.out _ HB9.out
              generalize (V8.alloc (.cells #[] 50)) = V9 at HR0_9 HB9 HR4_9 hSn ⊢
              refine hK.out _ _ hSn (fun hHeld => ?_)
              clear hK K hSn hHeld
              refine norm_ (a' := ?_) ?_ ?_; rotate_left; (· show Act.put _ (some 48) _ = _; simp only [Act.put, N1_]; rfl)
              refine one_ (i := 3) (N := some 51) (bs_ 12 127) rfl rfl (by kernel_rfl) (by decide) (fun K hK => ?_)
              refine copy_step k50 w.heap.size V8.heap.size (by rfl) (.tmp 48) (.tmp 50) 24 50 (.agg #[(.int .i64 0), (.int .i64 0), (.int .i64 0), (.int .i64 0), (.int .i64 0)]) 40 (by rfl) Try.underlying24 info50 rfl (by decide) (by omega) js A c rfl rfl HR0_9.out (Kd.C_below HCJ.out HB9.out) (fun _ x cs h => M_of_K50 x cs h) (Nat.le_trans HB0.out HB9.out.size) hln50 ?_
              intro A3_10 c3_10 V10 hR hb
              have HR3_10 := Aside0.mk hR
              have HB10 := Aside0.mk (bl_next' HB9.out hb)
              have HR4_10 := Aside0.mk (Kd.R_below HR4_9.out hb)
              have HR0_10 := Aside0.mk (Kd.R_below HR0_9.out hb)
              have hSn := HS.out _ HB10.out
              clear hR hb
              refine hK.out _ _ hSn (fun hHeld => ?_)
              clear hK K hSn hHeld
              refine norm_ (a' := ?_) ?_ ?_; rotate_left; (· show Act.put _ (some 51) _ = _; simp only [Act.put, N1_]; rfl)
              refine pure_ (i := 8) (N := some 56) (v := ?_) (a' := ?_) (bs_ 12 383) rfl rfl (by kernel_rfl) (fun _ _ _ h => h) (Or.inl ⟨by rfl, ?_⟩) ?_ ?_; rotate_left; (· intro w'; go_simp; with_reducible rfl); rotate_left; (· simp only [Act.put, N1_]; rfl)
              refine one_ (i := 7) (N := some 55) (bs_ 12 511) rfl rfl (by kernel_rfl) (by decide) (fun K hK => ?_)
              refine copy_step k54 w.heap.size W0.heap.size (by rfl) (.tmp 52) (.tmp 54) 25 54 (.agg #[(.int .i64 0), (.int .i64 0), (.int .i64 0), (.int .i64 0)]) 32 (by rfl) Try.underlying25 info54 rfl (by decide) (by omega) ms A' c' rfl rfl HR4_10.out (Kd.C_below HCM.out HB10.out) (fun _ x cs h => M_of_K54 x cs h) (Nat.le_trans HB0.out HB10.out.size) hln54 ?_
              intro A7_11 c7_11 V11 hR hb
              have HR7_11 := Aside0.mk hR
              have HB11 := Aside0.mk (bl_next' HB10.out hb)
              have HR4_11 := Aside0.mk (Kd.R_below HR4_10.out hb)
              have HR0_11 := Aside0.mk (Kd.R_below HR0_10.out hb)
              have HR3_11 := Aside0.mk (Kd.R_below HR3_10.out hb)
              have hSn := HS.out _ HB11.out
              clear hR hb
              refine hK.out _ _ hSn (fun hHeld => ?_)
              clear hK K hSn hHeld
              refine norm_ (a' := ?_) ?_ ?_; rotate_left; (· show Act.put _ (some 55) _ = _; simp only [Act.put, N1_]; rfl)
              exact norm_ (by first | (simp only [putAll, Act.put, List.setIfInBounds_toArray, List.set_cons_zero, List.set_cons_succ]; done) | (simp only [putAll, Act.put, List.setIfInBounds_toArray, List.set_cons_zero, List.set_cons_succ]; rfl)) (hCont (V8.heap.size, (A3_10, c3_10), W0.heap.size, (A7_11, c7_11)) _ ⟨HR3_11.out, HR7_11.out, HB11.out⟩)
          rintro ⟨g0, ⟨A3, c3⟩, g4, ⟨A7, c7⟩⟩ WJ ⟨hR3, hR7, hb⟩
          have HR3 := Aside0.mk hR3
          have HR7 := Aside0.mk hR7
          have HBJ := Aside0.mk hb
          clear hb hR3 hR7 HBr
          refine norm_ (a' := ?_) ?_ ?_; rotate_left; (· simp only [putAll, Act.put, List.setIfInBounds_toArray, List.set_cons_zero, List.set_cons_succ]; rfl)
          have XJ := Aside0.mk (blk_below XW.out HBJ.out)
          have x2 := cell_two XJ.out 2 rfl
          have x3 := cell_two XJ.out 3 rfl
          have f2 := blk_frozen XJ.out 2
          have f3 := blk_frozen XJ.out 3
          refine last_ (i := 9) (N := none) (bs_ 12 1023) rfl rfl (by kernel_rfl) (by decide) (fun K hK => ?_)
          refine skip_ (w1 := ?_) (by rfl) rfl ?_ ?_; rotate_left; (· go_simp; rfl)
          refine hK.out _ _ ?_
          clear hK K
          refine pure_ (i := 10) (N := some 57) (v := ?_) (a' := ?_) (bs_ 12 2047) rfl rfl (by kernel_rfl) (fun _ _ _ h => h) (Or.inl ⟨by rfl, ?_⟩) ?_ ?_; rotate_left; (· intro w'; go_simp; with_reducible rfl); rotate_left; (· simp only [Act.put, N1_]; rfl)
          refine last_ (i := 11) (N := none) (bs_ 12 4095) rfl rfl (by kernel_rfl) (by decide) (fun K hK => ?_)
          refine skip_ (w1 := ?_) (by rfl) rfl ?_ ?_; rotate_left; (· go_simp; rfl)
          refine hK.out _ _ ?_
          clear hK K
          refine done_ (by kernel_rfl) ?_
          have HXA := Aside0.mk (XAt.fill (HW.out.next HBJ.out) HRR.out.1 HRR.out.2 XJ.out (blk_lt HL.out.net.blk) HR3.out HR7.out)
          generalize ((WJ.setCell ⟨wr.heap.size, 2, none⟩ (.slice A3 js.length c3)).setCell ⟨wr.heap.size, 3, none⟩ (.slice A7 ms.length c7)) = WX at HXA ⊢
          clear XJ HR3 HR7 HBJ HW XW HCJ HCM HS HB0 x2 x3 f2 f3 s0 s1 s2 s3
          generalize wr.heap.size = XB at HXA ⊢
          have s0 := cell_two HXA.out.en.net.blk 0 rfl; have s1 := cell_two HXA.out.en.net.blk 1 rfl
          have x0 := cell_two HXA.out.xb 0 rfl; have x1 := cell_two HXA.out.xb 1 rfl; have f0 := blk_frozen HXA.out.xb 0; have f1 := blk_frozen HXA.out.xb 1
          go_wp2_with (go_at_call 27; refine (gasworkslaw06_span.calls lo lo lo lo _ rfl).mono ?_; rintro e W5 ⟨rfl, hb⟩; have H5 := Aside0.mk (HXA.out.next hb); clear hb s0 s1 x0 x1 f0 f1; have x0 := cell_two H5.out.xb 0 rfl; have x1 := cell_two H5.out.xb 1 rfl; have f0 := blk_frozen H5.out.xb 0; have f1 := blk_frozen H5.out.xb 1)
          have H6 := Aside0.mk (XAt.src H5.out HRR.out.1 HRR.out.2 lo lo)
          clear HXA H5 x0 x1 f0 f1
          obtain ⟨gJ, eJ⟩ : ∃ gJ, A3 = some ⟨gJ, 0, none⟩ := by
            obtain ⟨g, cap, e, _⟩ := Kd.R_form H6.out.jr (by omega)
            injection e with e1
            exact ⟨g, e1⟩
          subst eJ
          go_loopw [9] (fun i wr => ∃ k : Nat, i = .int .i64 (k : Int) ∧ k ≤ js.length ∧ Aside0 (XAt w wr lo hi A c js A' c' ms SB pl ph XB lo lo (some ⟨gJ, 0, none⟩) c3 (mixJ true js k) A7 c7 (ms))) (fun i _ => js.length - (intOf i).toNat)
          case atStart => exact ⟨0, rfl, by omega, ⟨by rw [mixJ_0]; exact H6.out⟩⟩
          case round =>
            clear H6
            obtain ⟨i, rfl, hi2, HI⟩ := hrel
            have x2 := cell_two HI.out.xb 2 rfl
            by_cases hlt : i < js.length
            · have hlt' : decide ((i : Int) < (js.length : Int)) = true := decide_eq_true (by omega)
              have i0 : (0 : Int) ≤ (i : Int) := Int.natCast_nonneg i
              have i1 : (i : Int) < (js.length : Int) := by omega
              obtain ⟨e0, e1, q0, q1⟩ := HI.out.elemJ i hlt
              rw [mixJ_get true js i hlt] at e0 e1
              have HS1 := Aside0.mk (mixJ_succ true js i hlt)
              have HG1 := Aside0.mk (mixJ_get true js i hlt)
              obtain ⟨y, hy⟩ : ∃ y, rd_T50 js i = y := ⟨_, rfl⟩
              rw [hy] at e0 e1 HS1 HG1
              clear hy
              have HY := Aside0.mk (HI.out.next (below_alloc (Below.refl _ _) (.cells #[.int .i64 y.f0.f0, .int .i64 y.f0.f1] 23)))
              have QY := Aside0.mk (blk_new wr (.cells #[.int .i64 y.f0.f0, .int .i64 y.f0.f1] 23))
              go_wp2_with (fail)
              refine start_ (n := 11) (S := fun w' => w'.cell? ⟨XB, 2, none⟩ = some (.slice (some ⟨gJ, 0, none⟩) js.length c3) ∧ w'.cell? ⟨wr.heap.size, 1, none⟩ = some (.int .i64 y.f0.f1)) (ds := [10]) (bs_ 11 0) (by kernel_rfl) rfl rfl (⟨cell_two HY.out.xb 2 rfl, cell_two QY.out 1 rfl⟩) (fun hHeld => ?_)
              have HY1 := Aside0.mk (HY.out.next (Below.drew (Below.refl _ _)))
              have QY1 := Aside0.mk (blk_drew QY.out)
              clear HY QY
              refine pure_ (i := 0) (N := some 89) (v := ?_) (a' := ?_) (bs_ 11 1) rfl rfl (by kernel_rfl) (fun _ _ _ h => h) (Or.inl ⟨by rfl, ?_⟩) ?_ ?_; rotate_left; (· intro w'; go_simp; with_reducible rfl); rotate_left; (· simp only [Act.put, N1_]; rfl)
              refine take_ (i := 1) (N := some 90) (v := ?_) (a' := ?_) (bs_ 11 3) rfl rfl (by kernel_rfl) (fun _ _ _ h => h) (Or.inl ⟨by rfl, ?_⟩) hHeld ?_ ?_; rotate_left; (· rintro w' ⟨s0, s1⟩; go_simp; with_reducible rfl); rotate_left; (· simp only [Act.put, N1_]; rfl)
              refine pure_ (i := 2) (N := some 91) (v := ?_) (a' := ?_) (bs_ 11 7) rfl rfl (by kernel_rfl) (fun _ _ _ h => h) (Or.inl ⟨by rfl, ?_⟩) ?_ ?_; rotate_left; (· intro w'; go_simp; with_reducible rfl); rotate_left; (· simp only [Act.put, N1_]; rfl)
              refine pure_ (i := 3) (N := some 92) (v := ?_) (a' := ?_) (bs_ 11 15) rfl rfl (by kernel_rfl) (fun _ _ _ h => h) (Or.inl ⟨by rfl, ?_⟩) ?_ ?_; rotate_left; (· intro w'; go_simp; with_reducible rfl); rotate_left; (· simp only [Act.put, N1_]; rfl)
              refine take_ (i := 4) (N := some 93) (v := ?_) (a' := ?_) (bs_ 11 31) rfl rfl (by kernel_rfl) (fun _ _ _ h => h) (Or.inl ⟨by rfl, ?_⟩) hHeld ?_ ?_; rotate_left; (· rintro w' ⟨s0, s1⟩; go_simp; with_reducible rfl); rotate_left; (· simp only [Act.put, N1_]; rfl)
              refine pure_ (i := 5) (N := some 94) (v := ?_) (a' := ?_) (bs_ 11 63) rfl rfl (by kernel_rfl) (fun _ _ _ h => h) (Or.inl ⟨by rfl, ?_⟩) ?_ ?_; rotate_left; (· intro w'; go_simp; with_reducible rfl); rotate_left; (· simp only [Act.put, N1_]; rfl)
              refine take_ (i := 6) (N := some 95) (v := ?_) (a' := ?_) (bs_ 11 127) rfl rfl (by kernel_rfl) (fun _ _ _ h => h) (Or.inl ⟨by rfl, ?_⟩) hHeld ?_ ?_; rotate_left; (· rintro w' ⟨s0, s1⟩; go_simp; with_reducible rfl); rotate_left; (· simp only [Act.put, N1_]; rfl)
              refine one_ (i := 7) (N := some 96) (bs_ 11 255) rfl rfl (by kernel_rfl) (by decide) (fun K hK => ?_)
              refine goes_ Try.func27 (by kernel_rfl) rfl #[.int .i64 y.f0.f1, .int .i64 y.f0.f1] (by rfl) rfl rfl (by (try simp only [LM_]); try rfl) ?_
              refine (gasworkslaw06_span.calls y.f0.f1 y.f0.f1 y.f0.f1 y.f0.f1 _ rfl).mono ?_
              rintro e W10 ⟨rfl, hb⟩
              refine ⟨_, rfl, ?_⟩
              have HZ := Aside0.mk (HY1.out.next hb)
              have QZ := Aside0.mk (blk_below QY1.out hb)
              clear hb hHeld
              obtain ⟨d0, d1, q0, q1⟩ := HZ.out.elemJ i hlt
              refine hK.out _ _ ⟨cell_two HZ.out.xb 2 rfl, cell_two QZ.out 1 rfl⟩ (fun hHeld => ?_)
              clear hK K
              refine norm_ (a' := ?_) ?_ ?_; rotate_left; (· show Act.put _ (some 96) _ = _; simp only [Act.put, N1_]; rfl)
              refine pure_ (i := 8) (N := some 97) (v := ?_) (a' := ?_) (bs_ 11 511) rfl rfl (by kernel_rfl) (fun _ _ _ h => h) (Or.inl ⟨by rfl, ?_⟩) ?_ ?_; rotate_left; (· intro w'; go_simp; with_reducible rfl); rotate_left; (· simp only [Act.put, N1_]; rfl)
              refine pure_ (i := 9) (N := some 98) (v := ?_) (a' := ?_) (bs_ 11 1023) rfl rfl (by kernel_rfl) (fun _ _ _ h => h) (Or.inl ⟨by rfl, ?_⟩) ?_ ?_; rotate_left; (· intro w'; go_simp; with_reducible rfl); rotate_left; (· simp only [Act.put, N1_]; rfl)
              refine last_ (i := 10) (N := none) (bs_ 11 2047) rfl rfl (by kernel_rfl) (by decide) (fun K hK => ?_)
              refine skip_ (w1 := ?_) (by rfl) rfl ?_ ?_; rotate_left; (· go_simp; rfl)
              refine hK.out _ _ ?_
              clear hK K
              refine done_ (by kernel_rfl) ?_
              go_wp2_with (fail)
              go_roundw
              case rel => exact ⟨i + 1, by go_num, by omega, ⟨by rw [HS1.out]; have := HZ.out.putJ HRR.out.1 HRR.out.2 i hlt y.f0.f1 y.f0.f1; rw [HG1.out] at this; exact this⟩⟩
              case measure => simp [intOf]; omega
            · have hlt' : decide ((i : Int) < (js.length : Int)) = false := decide_eq_false (by omega)
              have HJ : Aside0 (XAt w wr lo hi A c js A' c' ms SB pl ph XB lo lo (some ⟨gJ, 0, none⟩) c3 (js.map (endJ true)) A7 c7 (ms)) := ⟨by have h := HI.out; rw [(by omega : i = js.length), mixJ_all] at h; exact h⟩
              clear HI
              go_wp2_with (fail)
              clear hlt hlt' hi2 x2
              go_loopw [11] (fun i wr => ∃ k : Nat, i = .int .i64 (k : Int) ∧ k ≤ ms.length ∧ Aside0 (XAt w wr lo hi A c js A' c' ms SB pl ph XB lo lo (some ⟨gJ, 0, none⟩) c3 (js.map (endJ true)) A7 c7 (mixM 0 ms k))) (fun i _ => ms.length - (intOf i).toNat)
              case atStart => exact ⟨0, rfl, by omega, ⟨by rw [mixM_0]; exact HJ.out⟩⟩
              case round =>
                clear HJ
                obtain ⟨m, rfl, hm2, HI⟩ := hrel
                have x3 := cell_two HI.out.xb 3 rfl
                by_cases hlt : m < ms.length
                · have hlt' : decide ((m : Int) < (ms.length : Int)) = true := decide_eq_true (by omega)
                  have i0 : (0 : Int) ≤ (m : Int) := Int.natCast_nonneg m
                  have i1 : (m : Int) < (ms.length : Int) := by omega
                  obtain ⟨gM, eM⟩ : ∃ gM, A7 = some ⟨gM, 0, none⟩ := by
                    obtain ⟨g, cap, e, _⟩ := Kd.R_form HI.out.mr (by rw [HI.out.lens.2]; omega)
                    injection e with e1
                    exact ⟨g, e1⟩
                  subst eM
                  obtain ⟨_, e2, q2⟩ := HI.out.elemM m hlt
                  rw [mixM_get 0 ms m hlt] at e2
                  have HG1 := Aside0.mk (mixM_get 0 ms m hlt)
                  have HS1 := Aside0.mk (mixM_succ 0 ms m hlt)
                  have HK1 := Aside0.mk (mixM_keep 0 ms m hlt)
                  obtain ⟨y, hy⟩ : ∃ y, rd_T54 ms m = y := ⟨_, rfl⟩
                  rw [hy] at e2 HG1 HS1 HK1
                  clear hy
                  by_cases hv : y.f2 = 2
                  · have dv : (y.f2 == 2) = true := by rw [hv]; rfl
                    have HV := Aside0.mk hv
                    clear hv
                    have HZ1 := Aside0.mk (HI.out.putM HRR.out.1 HRR.out.2 m hlt 1)
                    have x3b := cell_two HZ1.out.xb 3 rfl
                    obtain ⟨_, e2b, q2b⟩ := HZ1.out.elemM m hlt
                    have HZ2 := Aside0.mk (HZ1.out.putM HRR.out.1 HRR.out.2 m hlt 0)
                    go_wp2_with (fail)
                    go_roundw
                    case rel => exact ⟨m + 1, by go_num, by omega, ⟨by rw [HS1.out]; have := HZ2.out; rw [rd_set54 (by rw [mixM_len]; exact hlt), if_pos rfl, List.set_set, HG1.out] at this; unfold shutD; rw [if_pos HV.out]; exact this⟩⟩
                    case measure => simp [intOf]; omega
                  · have dv : (y.f2 == 2) = false := by simpa using hv
                    have HV := Aside0.mk hv
                    clear hv
                    go_wp2_with (fail)
                    go_roundw
                    case rel => exact ⟨m + 1, by go_num, by omega, ⟨by rw [HK1.out HV.out]; exact HI.out⟩⟩
                    case measure => simp [intOf]; omega
                · have hlt' : decide ((m : Int) < (ms.length : Int)) = false := decide_eq_false (by omega)
                  have HM : Aside0 (Turned ms (mixM 0 ms m) 0 (fun _ => false)) := ⟨by rw [(by omega : m = ms.length)]; exact mixM_all 0 ms⟩
                  generalize mixM 0 ms m = zs at HM HI
                  go_wp2_with (fail)
                  clear hlt hlt' hm2 x3
                  go_loopw [12] (fun i wr => ∃ (q : Nat) (P : Nat → Bool) (zs : List S54), i = .int .i64 (q : Int) ∧ q ≤ ms.length ∧ Aside0 (XAt w wr lo hi A c js A' c' ms SB pl ph XB lo lo (some ⟨gJ, 0, none⟩) c3 (js.map (endJ true)) A7 c7 (zs)) ∧ Aside0 (Turned ms zs 0 P) ∧ Aside0 (WayAt js ms j P q)) (fun i _ => (intOf i).toNat)
                  case atStart => exact ⟨j, fun _ => false, zs, rfl, hj, HI, HM, ⟨fun _ => rfl⟩⟩
                  case round =>
                    clear HI HM
                    obtain ⟨q, P, zs, rfl, hq, HI, HM, HWa⟩ := hrel
                    have x3 := cell_two HI.out.xb 3 rfl
                    cases q with
                    | succ q =>
                      obtain ⟨gM, eM⟩ : ∃ gM, A7 = some ⟨gM, 0, none⟩ := by
                        obtain ⟨g, cap, e, _⟩ := Kd.R_form HI.out.mr (by rw [HI.out.lens.2]; omega)
                        injection e with e1
                        exact ⟨g, e1⟩
                      subst eM
                      have hqw : wrap64 (((q + 1 : Nat) : Int) - 1) = (q : Int) := by rw [w64 (by omega) (by omega)]; omega
                      have hq0 : decide ((0 : Int) < ((q + 1 : Nat) : Int)) = true := decide_eq_true (by omega)
                      have hq0' : 0 < q + 1 := by omega
                      have i0 : (0 : Int) ≤ (q : Int) := Int.natCast_nonneg q
                      have i1 : (q : Int) < (ms.length : Int) := by omega
                      obtain ⟨_, e2, q2⟩ := HI.out.elemM q (by omega)
                      have HZ1 := Aside0.mk (HI.out.putM HRR.out.1 HRR.out.2 q (by omega) 0)
                      have HM1 := Aside0.mk (HM.out.open_ (k := q) (by omega))
                      have x3b := cell_two HZ1.out.xb 3 rfl
                      obtain ⟨e0b, _, _⟩ := HZ1.out.elemM q (by omega)
                      have hpar := par_is HOK.out (k := q) (by omega)
                      have hpw : (rd_T54 (zs.set q ⟨(rd_T54 zs q).f0, (rd_T54 zs q).f1, 0, (rd_T54 zs q).f3⟩) q).f0 = (((netM js ms).par q : Nat) : Int) := by rw [(HM1.out.at_ q (by omega)).1]; exact hpar.1
                      rw [hpw] at e0b
                      have hpl := hpar.2
                      have HWb := Aside0.mk (way_step HWa.out)
                      clear hpar hpw HWa
                      generalize (netM js ms).par q = p at e0b hpl HWb
                      go_wp2_with (fail)
                      go_roundw
                      case rel => exact ⟨p, _, _, rfl, by omega, HZ1, HM1, HWb⟩
                      case measure => simp [intOf]; omega
                    | zero =>
                      have HTu : Aside0 (Turned ms zs 0 (fun k => PipeMath.behind (netM js ms) k j)) := ⟨by rw [way_done HWa.out]; exact HM.out⟩
                      have HP2 : Aside0 (∀ W, XAt w W lo hi A c js A' c' ms SB pl ph XB lo lo (some ⟨gJ, 0, none⟩) c3 (js.map (endJ true)) A7 c7 (zs) → Calls Try.prog 14 #[.agg #[.int .i64 lo, .int .i64 lo, .slice (some ⟨gJ, 0, none⟩) js.length c3, .slice A7 ms.length c7], .int .i64 (j : Int)] W fun e w' => e = .returned (.tuple #[.agg #[.int .i64 pl, .int .i64 pl], .int .i64 0]) ∧ Below W.heap.size W w') := ⟨fun W h => by
                        obtain ⟨h1, h2, h3⟩ := Kd.R_reads' h.jr
                        obtain ⟨h4, h5, h6⟩ := Kd.R_reads' h.mr
                        have := Press_any lo lo (some ⟨gJ, 0, none⟩) c3 (js.map (endJ true)) A7 c7 zs j W h3 (by omega) h6 (by omega)
                        rw [show pressS lo lo (js.map (endJ true)) zs j = (pl, pl, 0) from HEnd.out true zs HTu.out, ← h1, ← h4] at this
                        exact this⟩
                      have s0 := cell_two HI.out.xb 0 rfl
                      have s1 := cell_two HI.out.xb 1 rfl
                      have s2 := cell_two HI.out.xb 2 rfl
                      have hz0 : decide ((0 : Int) < ((0 : Nat) : Int)) = false := rfl
                      go_wp2_with (go_at_call 14; (with_reducible refine (HP2.out _ HI.out).mono ?_); rintro e W11 ⟨rfl, hb⟩; have HE := Aside0.mk ((HI.out.en.next hb).next (below_alloc (Below.refl _ _) (.cells #[.int .i64 pl, .int .i64 pl] 23))); have QE := Aside0.mk (blk_new W11 (.cells #[.int .i64 pl, .int .i64 pl] 23)); clear hb s0 s1 s2 x3; have t0 := cell_two HE.out.sp 0 rfl; have t1 := cell_two HE.out.sp 1 rfl)
                      have heq := fun W => eq23 W pl pl
                      refine start_ (n := 9) (S := fun w' => w'.cell? ⟨W11.heap.size, 0, none⟩ = some (.int .i64 pl) ∧ w'.cell? ⟨W11.heap.size, 1, none⟩ = some (.int .i64 pl)) (ds := []) (bs_ 9 0) (by kernel_rfl) rfl rfl (⟨cell_two QE.out 0 rfl, cell_two QE.out 1 rfl⟩) (fun hHeld => ?_)
                      have HE1 := Aside0.mk (HE.out.next (Below.drew (Below.refl _ _)))
                      have QE1 := Aside0.mk (blk_drew QE.out)
                      clear HE QE
                      refine pure_ (i := 0) (N := some 165) (v := ?_) (a' := ?_) (bs_ 9 1) rfl rfl (by kernel_rfl) (fun _ _ _ h => h) (Or.inl ⟨by rfl, ?_⟩) ?_ ?_; rotate_left; (· intro w'; go_simp; with_reducible rfl); rotate_left; (· simp only [Act.put, N1_]; rfl)
                      refine pure_ (i := 1) (N := some 166) (v := ?_) (a' := ?_) (bs_ 9 3) rfl rfl (by kernel_rfl) (fun _ _ _ h => h) (Or.inl ⟨by rfl, ?_⟩) ?_ ?_; rotate_left; (· intro w'; go_simp; with_reducible rfl); rotate_left; (· simp only [Act.put, N1_]; rfl)
                      refine pure_ (i := 2) (N := some 167) (v := ?_) (a' := ?_) (bs_ 9 7) rfl rfl (by kernel_rfl) (fun _ _ _ h => h) (Or.inl ⟨by rfl, ?_⟩) ?_ ?_; rotate_left; (· intro w'; go_simp; with_reducible rfl); rotate_left; (· simp only [Act.put, N1_]; rfl)
                      refine take_ (i := 3) (N := some 168) (v := ?_) (a' := ?_) (bs_ 9 15) rfl rfl (by kernel_rfl) (fun _ _ _ h => h) (Or.inl ⟨by rfl, ?_⟩) hHeld ?_ ?_; rotate_left; (· rintro w' ⟨s0, s1⟩; go_simp; with_reducible rfl); rotate_left; (· simp only [Act.put, N1_]; rfl)
                      refine pure_ (i := 4) (N := some 169) (v := ?_) (a' := ?_) (bs_ 9 31) rfl rfl (by kernel_rfl) (fun _ _ _ h => h) (Or.inl ⟨by rfl, ?_⟩) ?_ ?_; rotate_left; (· intro w'; go_simp; with_reducible rfl); rotate_left; (· simp only [Act.put, N1_]; rfl)
                      refine pure_ (i := 5) (N := some 170) (v := ?_) (a' := ?_) (bs_ 9 63) rfl rfl (by kernel_rfl) (fun _ _ _ h => h) (Or.inl ⟨by rfl, ?_⟩) ?_ ?_; rotate_left; (· intro w'; go_simp; with_reducible rfl); rotate_left; (· simp only [Act.put, N1_]; rfl)
                      refine one_ (i := 6) (N := some 171) (bs_ 9 127) rfl rfl (by kernel_rfl) (by decide) (fun K hK => ?_)
                      refine goes_ Try.func27 (by kernel_rfl) rfl #[.int .i64 pl, .int .i64 pl] (by rfl) rfl rfl (by (try simp only [LM_]); try rfl) ?_
                      refine (gasworkslaw06_span.calls pl pl pl pl _ rfl).mono ?_
                      rintro e W12 ⟨rfl, hb⟩
                      refine ⟨_, rfl, ?_⟩
                      have HF := Aside0.mk (HE1.out.next hb)
                      have QF := Aside0.mk (blk_below QE1.out hb)
                      clear hb hHeld
                      refine hK.out _ _ ⟨cell_two QF.out 0 rfl, cell_two QF.out 1 rfl⟩ (fun hHeld => ?_)
                      clear hK K
                      refine norm_ (a' := ?_) ?_ ?_; rotate_left; (· show Act.put _ (some 171) _ = _; simp only [Act.put, N1_]; rfl)
                      refine pure_ (i := 7) (N := some 172) (v := ?_) (a' := ?_) (bs_ 9 255) rfl rfl (by kernel_rfl) (fun _ _ _ h => h) (Or.inl ⟨by rfl, ?_⟩) ?_ ?_; rotate_left; (· intro w'; go_simp; with_reducible rfl); rotate_left; (· simp only [Act.put, N1_]; rfl)
                      refine pure_ (i := 8) (N := some 173) (v := ?_) (a' := ?_) (bs_ 9 511) rfl rfl (by kernel_rfl) (fun _ _ _ h => h) (Or.inl ⟨by rfl, ?_⟩) ?_ ?_; rotate_left; (· intro w'; go_simp; with_reducible rfl); rotate_left; (· simp only [Act.put, N1_]; rfl)
                      refine done_ (by kernel_rfl) ?_
                      go_wp2_with (fail)
                      go_roundw
                      case rel => exact ⟨1, by go_num, by omega, HF⟩
                      case measure => simp [intOf]
        · skip
          have HX := Aside0.mk (HL.out.next (below_alloc (Below.refl _ _) (.cells #[.int .i64 lo, .int .i64 hi, .slice A js.length c, .slice A' ms.length c'] 27)))
          have XX := Aside0.mk (blk_new wr (.cells #[.int .i64 lo, .int .i64 hi, .slice A js.length c, .slice A' ms.length c'] 27))
          go_wp2_with (fail)
          refine start_ (n := 12) (S := fun w' => w'.cell? ⟨w.heap.size, 2, none⟩ = some (.slice A js.length c) ∧ w'.cell? ⟨w.heap.size, 3, none⟩ = some (.slice A' ms.length c')) (ds := [9, 11]) (bs_ 12 0) (by kernel_rfl) rfl rfl (⟨cell_two HX.out.net.blk 2 rfl, cell_two HX.out.net.blk 3 rfl⟩) (fun hHeld => ?_)
          have HW := Aside0.mk (HX.out.next (Below.drew (Below.refl _ _)))
          have XW := Aside0.mk (blk_drew XX.out)
          clear HX XX
          generalize (wr.alloc (.cells #[.int .i64 lo, .int .i64 hi, .slice A js.length c, .slice A' ms.length c'] 27)).drew = W0 at HW XW hHeld ⊢
          have HB0 : Aside0 (w.heap.size ≤ W0.heap.size) := ⟨HW.out.net.bel.size⟩
          have HBr := Aside0.mk (Below.refl W0.heap.size W0)
          have HS : Aside0 (∀ W', Below W0.heap.size W0 W' → W'.cell? ⟨w.heap.size, 2, none⟩ = some (.slice A js.length c) ∧ W'.cell? ⟨w.heap.size, 3, none⟩ = some (.slice A' ms.length c')) := ⟨fun W' hb => ⟨cell_two (HW.out.next hb).net.blk 2 rfl, cell_two (HW.out.next hb).net.blk 3 rfl⟩⟩
          have HCJ := Aside0.mk HW.out.net.jr
          have HCM := Aside0.mk HW.out.net.mr
          refine pure_ (i := 1) (N := some 49) (v := ?_) (a' := ?_) (bs_ 12 2) rfl rfl (by kernel_rfl) (fun _ _ _ h => h) (Or.inl ⟨by rfl, ?_⟩) ?_ ?_; rotate_left; (· intro w'; go_simp; with_reducible rfl); rotate_left; (· simp only [Act.put, N1_]; rfl)
          refine take_ (i := 2) (N := some 50) (v := ?_) (a' := ?_) (bs_ 12 6) rfl rfl (by kernel_rfl) (fun _ _ _ h => h) (Or.inl ⟨by rfl, ?_⟩) hHeld ?_ ?_; rotate_left; (· rintro w' ⟨s0, s1⟩; go_simp; with_reducible rfl); rotate_left; (· simp only [Act.put, N1_]; rfl)
          refine pure_ (i := 5) (N := some 53) (v := ?_) (a' := ?_) (bs_ 12 38) rfl rfl (by kernel_rfl) (fun _ _ _ h => h) (Or.inl ⟨by rfl, ?_⟩) ?_ ?_; rotate_left; (· intro w'; go_simp; with_reducible rfl); rotate_left; (· simp only [Act.put, N1_]; rfl)
          refine take_ (i := 6) (N := some 54) (v := ?_) (a' := ?_) (bs_ 12 102) rfl rfl (by kernel_rfl) (fun _ _ _ h => h) (Or.inl ⟨by rfl, ?_⟩) hHeld ?_ ?_; rotate_left; (· rintro w' ⟨s0, s1⟩; go_simp; with_reducible rfl); rotate_left; (· simp only [Act.put, N1_]; rfl)
          clear hHeld
          refine join_ (σ := Nat × (Option Addr × Nat) × Nat × (Option Addr × Nat)) 3 (bs_ 12 511) (fun s => [(48, .slice (some ⟨s.1, 0, none⟩) 0 0), (51, .slice s.2.1.1 js.length s.2.1.2), (52, .slice (some ⟨s.2.2.1, 0, none⟩) 0 0), (55, .slice s.2.2.2.1 ms.length s.2.2.2.2), (56, .pointer (some ⟨wr.heap.size, 2, none⟩))]) (fun s w' => Kd.R k50 50 w' w.heap.size (fun _ => True) (.slice s.2.1.1 js.length s.2.1.2) js ∧ Kd.R k54 54 w' w.heap.size (fun _ => True) (.slice s.2.2.2.1 ms.length s.2.2.2.2) ms ∧ Below W0.heap.size W0 w') ?_ ?_
          rotate_left
          · intro hCont
            refine two_ (i := 0) (j := 4) (Ni := some 48) (Nj := some 52) (bs_ 12 103) (bs_ 12 118) rfl rfl rfl rfl (by kernel_rfl) (by decide) (by decide) (fun K hK => ?_) (fun K hK => ?_)
            · skip
              refine event_step (v := .slice (some ⟨W0.heap.size, 0, none⟩) 0 0) (w1 := W0.alloc (.cells #[] 50)) (by rfl) (by first | (go_simp; done) | (go_simp; rfl)) ?_
              have HR0_1 := Aside0.mk (lit_R k50 W0 w.heap.size 50 (Nat.le_trans HB0.out HBr.out.size))
              have HB1 := Aside0.mk (below_alloc HBr.out (.cells #[] 50))
              have hSn := HS.out _ HB1.out
              generalize (W0.alloc (.cells #[] 50)) = V1 at HR0_1 HB1  hSn ⊢
              refine hK.out _ _ hSn (fun hHeld => ?_)
              clear hK K hSn hHeld
              refine norm_ (a' := ?_) ?_ ?_; rotate_left; (· show Act.put _ (some 48) _ = _; simp only [Act.put, N1_]; rfl)
              refine two_ (i := 3) (j := 4) (Ni := some 51) (Nj := some 52) (bs_ 12 111) (bs_ 12 119) rfl rfl rfl rfl (by kernel_rfl) (by decide) (by decide) (fun K hK => ?_) (fun K hK => ?_)
              · skip
                refine copy_step k50 w.heap.size W0.heap.size (by rfl) (.tmp 48) (.tmp 50) 24 50 (.agg #[(.int .i64 0), (.int .i64 0), (.int .i64 0), (.int .i64 0), (.int .i64 0)]) 40 (by rfl) Try.underlying24 info50 rfl (by decide) (by omega) js A c rfl rfl HR0_1.out (Kd.C_below HCJ.out HB1.out) (fun _ x cs h => M_of_K50 x cs h) (Nat.le_trans HB0.out HB1.out.size) hln50 ?_
                intro A3_2 c3_2 V2 hR hb
                have HR3_2 := Aside0.mk hR
                have HB2 := Aside0.mk (bl_next' HB1.out hb)
                have HR0_2 := Aside0.mk (Kd.R_below HR0_1.out hb)
                have hSn := HS.out _ HB2.out
                clear hR hb
                refine hK.out _ _ hSn (fun hHeld => ?_)
                clear hK K hSn hHeld
                refine norm_ (a' := ?_) ?_ ?_; rotate_left; (· show Act.put _ (some 51) _ = _; simp only [Act.put, N1_]; rfl)
                refine pure_ (i := 8) (N := some 56) (v := ?_) (a' := ?_) (bs_ 12 367) rfl rfl (by kernel_rfl) (fun _ _ _ h => h) (Or.inl ⟨by rfl, ?_⟩) ?_ ?_; rotate_left; (· intro w'; go_simp; with_reducible rfl); rotate_left; (· simp only [Act.put, N1_]; rfl)
                refine one_ (i := 4) (N := some 52) (bs_ 12 383) rfl rfl (by kernel_rfl) (by decide) (fun K hK => ?_)
                refine event_step (v := .slice (some ⟨V2.heap.size, 0, none⟩) 0 0) (w1 := V2.alloc (.cells #[] 54)) (by rfl) (by first | (go_simp; done) | (go_simp; rfl)) ?_
                have HR4_3 := Aside0.mk (lit_R k54 V2 w.heap.size 54 (Nat.le_trans HB0.out HB2.out.size))
                have HB3 := Aside0.mk (below_alloc HB2.out (.cells #[] 54))
                have HR0_3 := Aside0.mk (Kd.R_alloc HR0_2.out (.cells #[] 54))
                have HR3_3 := Aside0.mk (Kd.R_alloc HR3_2.out (.cells #[] 54))
                have hSn := HS.out _ HB3.out
                generalize (V2.alloc (.cells #[] 54)) = V3 at HR4_3 HB3 HR0_3 HR3_3 hSn ⊢
                refine hK.out _ _ hSn (fun hHeld => ?_)
                clear hK K hSn hHeld
                refine norm_ (a' := ?_) ?_ ?_; rotate_left; (· show Act.put _ (some 52) _ = _; simp only [Act.put, N1_]; rfl)
                refine one_ (i := 7) (N := some 55) (bs_ 12 511) rfl rfl (by kernel_rfl) (by decide) (fun K hK => ?_)
                refine copy_step k54 w.heap.size V2.heap.size (by rfl) (.tmp 52) (.tmp 54) 25 54 (.agg #[(.int .i64 0), (.int .i64 0), (.int .i64 0), (.int .i64 0)]) 32 (by rfl) Try.underlying25 info54 rfl (by decide) (by omega) ms A' c' rfl rfl HR4_3.out (Kd.C_below HCM.out HB3.out) (fun _ x cs h => M_of_K54 x cs h) (Nat.le_trans HB0.out HB3.out.size) hln54 ?_
                intro A7_4 c7_4 V4 hR hb
                have HR7_4 := Aside0.mk hR
                have HB4 := Aside0.mk (bl_next' HB3.out hb)
                have HR0_4 := Aside0.mk (Kd.R_below HR0_3.out hb)
                have HR3_4 := Aside0.mk (Kd.R_below HR3_3.out hb)
                have HR4_4 := Aside0.mk (Kd.R_below HR4_3.out hb)
                have hSn := HS.out _ HB4.out
                clear hR hb
                refine hK.out _ _ hSn (fun hHeld => ?_)
                clear hK K hSn hHeld
                refine norm_ (a' := ?_) ?_ ?_; rotate_left; (· show Act.put _ (some 55) _ = _; simp only [Act.put, N1_]; rfl)
                exact norm_ (by first | (simp only [putAll, Act.put, List.setIfInBounds_toArray, List.set_cons_zero, List.set_cons_succ]; done) | (simp only [putAll, Act.put, List.setIfInBounds_toArray, List.set_cons_zero, List.set_cons_succ]; rfl)) (hCont (W0.heap.size, (A3_2, c3_2), V2.heap.size, (A7_4, c7_4)) _ ⟨HR3_4.out, HR7_4.out, HB4.out⟩)
              · skip
                refine event_step (v := .slice (some ⟨V1.heap.size, 0, none⟩) 0 0) (w1 := V1.alloc (.cells #[] 54)) (by rfl) (by first | (go_simp; done) | (go_simp; rfl)) ?_
                have HR4_5 := Aside0.mk (lit_R k54 V1 w.heap.size 54 (Nat.le_trans HB0.out HB1.out.size))
                have HB5 := Aside0.mk (below_alloc HB1.out (.cells #[] 54))
                have HR0_5 := Aside0.mk (Kd.R_alloc HR0_1.out (.cells #[] 54))
                have hSn := HS.out _ HB5.out
                generalize (V1.alloc (.cells #[] 54)) = V5 at HR4_5 HB5 HR0_5 hSn ⊢
                refine hK.out _ _ hSn (fun hHeld => ?_)
                clear hK K hSn hHeld
                refine norm_ (a' := ?_) ?_ ?_; rotate_left; (· show Act.put _ (some 52) _ = _; simp only [Act.put, N1_]; rfl)
                refine one_ (i := 3) (N := some 51) (bs_ 12 127) rfl rfl (by kernel_rfl) (by decide) (fun K hK => ?_)
                refine copy_step k50 w.heap.size W0.heap.size (by rfl) (.tmp 48) (.tmp 50) 24 50 (.agg #[(.int .i64 0), (.int .i64 0), (.int .i64 0), (.int .i64 0), (.int .i64 0)]) 40 (by rfl) Try.underlying24 info50 rfl (by decide) (by omega) js A c rfl rfl HR0_5.out (Kd.C_below HCJ.out HB5.out) (fun _ x cs h => M_of_K50 x cs h) (Nat.le_trans HB0.out HB5.out.size) hln50 ?_
                intro A3_6 c3_6 V6 hR hb
                have HR3_6 := Aside0.mk hR
                have HB6 := Aside0.mk (bl_next' HB5.out hb)
                have HR0_6 := Aside0.mk (Kd.R_below HR0_5.out hb)
                have HR4_6 := Aside0.mk (Kd.R_below HR4_5.out hb)
                have hSn := HS.out _ HB6.out
                clear hR hb
                refine hK.out _ _ hSn (fun hHeld => ?_)
                clear hK K hSn hHeld
                refine norm_ (a' := ?_) ?_ ?_; rotate_left; (· show Act.put _ (some 51) _ = _; simp only [Act.put, N1_]; rfl)
                refine pure_ (i := 8) (N := some 56) (v := ?_) (a' := ?_) (bs_ 12 383) rfl rfl (by kernel_rfl) (fun _ _ _ h => h) (Or.inl ⟨by rfl, ?_⟩) ?_ ?_; rotate_left; (· intro w'; go_simp; with_reducible rfl); rotate_left; (· simp only [Act.put, N1_]; rfl)
                refine one_ (i := 7) (N := some 55) (bs_ 12 511) rfl rfl (by kernel_rfl) (by decide) (fun K hK => ?_)
                refine copy_step k54 w.heap.size V1.heap.size (by rfl) (.tmp 52) (.tmp 54) 25 54 (.agg #[(.int .i64 0), (.int .i64 0), (.int .i64 0), (.int .i64 0)]) 32 (by rfl) Try.underlying25 info54 rfl (by decide) (by omega) ms A' c' rfl rfl HR4_6.out (Kd.C_below HCM.out HB6.out) (fun _ x cs h => M_of_K54 x cs h) (Nat.le_trans HB0.out HB6.out.size) hln54 ?_
                intro A7_7 c7_7 V7 hR hb
                have HR7_7 := Aside0.mk hR
                have HB7 := Aside0.mk (bl_next' HB6.out hb)
                have HR0_7 := Aside0.mk (Kd.R_below HR0_6.out hb)
                have HR4_7 := Aside0.mk (Kd.R_below HR4_6.out hb)
                have HR3_7 := Aside0.mk (Kd.R_below HR3_6.out hb)
                have hSn := HS.out _ HB7.out
                clear hR hb
                refine hK.out _ _ hSn (fun hHeld => ?_)
                clear hK K hSn hHeld
                refine norm_ (a' := ?_) ?_ ?_; rotate_left; (· show Act.put _ (some 55) _ = _; simp only [Act.put, N1_]; rfl)
                exact norm_ (by first | (simp only [putAll, Act.put, List.setIfInBounds_toArray, List.set_cons_zero, List.set_cons_succ]; done) | (simp only [putAll, Act.put, List.setIfInBounds_toArray, List.set_cons_zero, List.set_cons_succ]; rfl)) (hCont (W0.heap.size, (A3_6, c3_6), V1.heap.size, (A7_7, c7_7)) _ ⟨HR3_7.out, HR7_7.out, HB7.out⟩)
            · skip
              refine event_step (v := .slice (some ⟨W0.heap.size, 0, none⟩) 0 0) (w1 := W0.alloc (.cells #[] 54)) (by rfl) (by first | (go_simp; done) | (go_simp; rfl)) ?_
              have HR4_8 := Aside0.mk (lit_R k54 W0 w.heap.size 54 (Nat.le_trans HB0.out HBr.out.size))
              have HB8 := Aside0.mk (below_alloc HBr.out (.cells #[] 54))
              have hSn := HS.out _ HB8.out
              generalize (W0.alloc (.cells #[] 54)) = V8 at HR4_8 HB8  hSn ⊢
              refine hK.out _ _ hSn (fun hHeld => ?_)
              clear hK K hSn hHeld
              refine norm_ (a' := ?_) ?_ ?_; rotate_left; (· show Act.put _ (some 52) _ = _; simp only [Act.put, N1_]; rfl)
              refine one_ (i := 0) (N := some 48) (bs_ 12 119) rfl rfl (by kernel_rfl) (by decide) (fun K hK => ?_)
              refine event_step (v := .slice (some ⟨V8.heap.size, 0, none⟩) 0 0) (w1 := V8.alloc (.cells #[] 50)) (by rfl) (by first | (go_simp; done) | (go_simp; rfl)) ?_
              have HR0_9 := Aside0.mk (lit_R k50 V8 w.heap.size 50 (Nat.le_trans HB0.out HB8.out.size))
              have HB9 := Aside0.mk (below_alloc HB8.out (.cells #[] 50))
              have HR4_9 := Aside0.mk (Kd.R_alloc HR4_8.out (.cells #[] 50))
              have hSn := HS.out _ HB9.out
              generalize (V8.alloc (.cells #[] 50)) = V9 at HR0_9 HB9 HR4_9 hSn ⊢
              refine hK.out _ _ hSn (fun hHeld => ?_)
              clear hK K hSn hHeld
              refine norm_ (a' := ?_) ?_ ?_; rotate_left; (· show Act.put _ (some 48) _ = _; simp only [Act.put, N1_]; rfl)
              refine one_ (i := 3) (N := some 51) (bs_ 12 127) rfl rfl (by kernel_rfl) (by decide) (fun K hK => ?_)
              refine copy_step k50 w.heap.size V8.heap.size (by rfl) (.tmp 48) (.tmp 50) 24 50 (.agg #[(.int .i64 0), (.int .i64 0), (.int .i64 0), (.int .i64 0), (.int .i64 0)]) 40 (by rfl) Try.underlying24 info50 rfl (by decide) (by omega) js A c rfl rfl HR0_9.out (Kd.C_below HCJ.out HB9.out) (fun _ x cs h => M_of_K50 x cs h) (Nat.le_trans HB0.out HB9.out.size) hln50 ?_
              intro A3_10 c3_10 V10 hR hb
              have HR3_10 := Aside0.mk hR
              have HB10 := Aside0.mk (bl_next' HB9.out hb)
              have HR4_10 := Aside0.mk (Kd.R_below HR4_9.out hb)
              have HR0_10 := Aside0.mk (Kd.R_below HR0_9.out hb)
              have hSn := HS.out _ HB10.out
              clear hR hb
              refine hK.out _ _ hSn (fun hHeld => ?_)
              clear hK K hSn hHeld
              refine norm_ (a' := ?_) ?_ ?_; rotate_left; (· show Act.put _ (some 51) _ = _; simp only [Act.put, N1_]; rfl)
              refine pure_ (i := 8) (N := some 56) (v := ?_) (a' := ?_) (bs_ 12 383) rfl rfl (by kernel_rfl) (fun _ _ _ h => h) (Or.inl ⟨by rfl, ?_⟩) ?_ ?_; rotate_left; (· intro w'; go_simp; with_reducible rfl); rotate_left; (· simp only [Act.put, N1_]; rfl)
              refine one_ (i := 7) (N := some 55) (bs_ 12 511) rfl rfl (by kernel_rfl) (by decide) (fun K hK => ?_)
              refine copy_step k54 w.heap.size W0.heap.size (by rfl) (.tmp 52) (.tmp 54) 25 54 (.agg #[(.int .i64 0), (.int .i64 0), (.int .i64 0), (.int .i64 0)]) 32 (by rfl) Try.underlying25 info54 rfl (by decide) (by omega) ms A' c' rfl rfl HR4_10.out (Kd.C_below HCM.out HB10.out) (fun _ x cs h => M_of_K54 x cs h) (Nat.le_trans HB0.out HB10.out.size) hln54 ?_
              intro A7_11 c7_11 V11 hR hb
              have HR7_11 := Aside0.mk hR
              have HB11 := Aside0.mk (bl_next' HB10.out hb)
              have HR4_11 := Aside0.mk (Kd.R_below HR4_10.out hb)
              have HR0_11 := Aside0.mk (Kd.R_below HR0_10.out hb)
              have HR3_11 := Aside0.mk (Kd.R_below HR3_10.out hb)
              have hSn := HS.out _ HB11.out
              clear hR hb
              refine hK.out _ _ hSn (fun hHeld => ?_)
              clear hK K hSn hHeld
              refine norm_ (a' := ?_) ?_ ?_; rotate_left; (· show Act.put _ (some 55) _ = _; simp only [Act.put, N1_]; rfl)
              exact norm_ (by first | (simp only [putAll, Act.put, List.setIfInBounds_toArray, List.set_cons_zero, List.set_cons_succ]; done) | (simp only [putAll, Act.put, List.setIfInBounds_toArray, List.set_cons_zero, List.set_cons_succ]; rfl)) (hCont (V8.heap.size, (A3_10, c3_10), W0.heap.size, (A7_11, c7_11)) _ ⟨HR3_11.out, HR7_11.out, HB11.out⟩)
          rintro ⟨g0, ⟨A3, c3⟩, g4, ⟨A7, c7⟩⟩ WJ ⟨hR3, hR7, hb⟩
          have HR3 := Aside0.mk hR3
          have HR7 := Aside0.mk hR7
          have HBJ := Aside0.mk hb
          clear hb hR3 hR7 HBr
          refine norm_ (a' := ?_) ?_ ?_; rotate_left; (· simp only [putAll, Act.put, List.setIfInBounds_toArray, List.set_cons_zero, List.set_cons_succ]; rfl)
          have XJ := Aside0.mk (blk_below XW.out HBJ.out)
          have x2 := cell_two XJ.out 2 rfl
          have x3 := cell_two XJ.out 3 rfl
          have f2 := blk_frozen XJ.out 2
          have f3 := blk_frozen XJ.out 3
          refine last_ (i := 9) (N := none) (bs_ 12 1023) rfl rfl (by kernel_rfl) (by decide) (fun K hK => ?_)
          refine skip_ (w1 := ?_) (by rfl) rfl ?_ ?_; rotate_left; (· go_simp; rfl)
          refine hK.out _ _ ?_
          clear hK K
          refine pure_ (i := 10) (N := some 57) (v := ?_) (a' := ?_) (bs_ 12 2047) rfl rfl (by kernel_rfl) (fun _ _ _ h => h) (Or.inl ⟨by rfl, ?_⟩) ?_ ?_; rotate_left; (· intro w'; go_simp; with_reducible rfl); rotate_left; (· simp only [Act.put, N1_]; rfl)
          refine last_ (i := 11) (N := none) (bs_ 12 4095) rfl rfl (by kernel_rfl) (by decide) (fun K hK => ?_)
          refine skip_ (w1 := ?_) (by rfl) rfl ?_ ?_; rotate_left; (· go_simp; rfl)
          refine hK.out _ _ ?_
          clear hK K
          refine done_ (by kernel_rfl) ?_
          have HXA := Aside0.mk (XAt.fill (HW.out.next HBJ.out) HRR.out.1 HRR.out.2 XJ.out (blk_lt HL.out.net.blk) HR3.out HR7.out)
          generalize ((WJ.setCell ⟨wr.heap.size, 2, none⟩ (.slice A3 js.length c3)).setCell ⟨wr.heap.size, 3, none⟩ (.slice A7 ms.length c7)) = WX at HXA ⊢
          clear XJ HR3 HR7 HBJ HW XW HCJ HCM HS HB0 x2 x3 f2 f3 s0 s1 s2 s3
          generalize wr.heap.size = XB at HXA ⊢
          have s0 := cell_two HXA.out.en.net.blk 0 rfl; have s1 := cell_two HXA.out.en.net.blk 1 rfl
          have x0 := cell_two HXA.out.xb 0 rfl; have x1 := cell_two HXA.out.xb 1 rfl; have f0 := blk_frozen HXA.out.xb 0; have f1 := blk_frozen HXA.out.xb 1
          go_wp2_with (first | (go_at_call 27; have hgu := H5b.out; clear hgu; refine (gasworkslaw06_span.calls hi hi hi hi _ rfl).mono ?_; rintro e W5 ⟨rfl, hb⟩; have H5 := Aside0.mk (H5b.out.next hb); clear hb s0 s1 x0 x1 f0 f1; have x0 := cell_two H5.out.xb 0 rfl; have x1 := cell_two H5.out.xb 1 rfl; have f0 := blk_frozen H5.out.xb 0; have f1 := blk_frozen H5.out.xb 1) | (go_at_call 27; refine (gasworkslaw06_span.calls lo lo lo lo _ rfl).mono ?_; rintro e W4 ⟨rfl, hb⟩; have H5a := Aside0.mk (HXA.out.next hb); have H5b := Aside0.mk (H5a.out.src HRR.out.1 HRR.out.2 lo lo); clear hb s0 s1 x0 x1 f0 f1; have s0 := cell_two H5b.out.en.net.blk 0 rfl; have s1 := cell_two H5b.out.en.net.blk 1 rfl; have x0 := cell_two H5a.out.xb 0 rfl; have x1 := cell_two H5a.out.xb 1 rfl; have f0 := blk_frozen H5a.out.xb 0; have f1 := blk_frozen H5a.out.xb 1))
          have H6 := Aside0.mk (XAt.src H5.out HRR.out.1 HRR.out.2 hi hi)
          clear HXA H5 x0 x1 f0 f1
          obtain ⟨gJ, eJ⟩ : ∃ gJ, A3 = some ⟨gJ, 0, none⟩ := by
            obtain ⟨g, cap, e, _⟩ := Kd.R_form H6.out.jr (by omega)
            injection e with e1
            exact ⟨g, e1⟩
          subst eJ
          go_loopw [9] (fun i wr => ∃ k : Nat, i = .int .i64 (k : Int) ∧ k ≤ js.length ∧ Aside0 (XAt w wr lo hi A c js A' c' ms SB pl ph XB hi hi (some ⟨gJ, 0, none⟩) c3 (mixJ false js k) A7 c7 (ms))) (fun i _ => js.length - (intOf i).toNat)
          case atStart => exact ⟨0, rfl, by omega, ⟨by rw [mixJ_0]; exact H6.out⟩⟩
          case round =>
            clear H6
            obtain ⟨i, rfl, hi2, HI⟩ := hrel
            have x2 := cell_two HI.out.xb 2 rfl
            by_cases hlt : i < js.length
            · have hlt' : decide ((i : Int) < (js.length : Int)) = true := decide_eq_true (by omega)
              have i0 : (0 : Int) ≤ (i : Int) := Int.natCast_nonneg i
              have i1 : (i : Int) < (js.length : Int) := by omega
              obtain ⟨e0, e1, q0, q1⟩ := HI.out.elemJ i hlt
              rw [mixJ_get false js i hlt] at e0 e1
              have HS1 := Aside0.mk (mixJ_succ false js i hlt)
              have HG1 := Aside0.mk (mixJ_get false js i hlt)
              obtain ⟨y, hy⟩ : ∃ y, rd_T50 js i = y := ⟨_, rfl⟩
              rw [hy] at e0 e1 HS1 HG1
              clear hy
              have HY := Aside0.mk (HI.out.next (below_alloc (Below.refl _ _) (.cells #[.int .i64 y.f0.f0, .int .i64 y.f0.f1] 23)))
              have QY := Aside0.mk (blk_new wr (.cells #[.int .i64 y.f0.f0, .int .i64 y.f0.f1] 23))
              go_wp2_with (fail)
              refine start_ (n := 11) (S := fun w' => w'.cell? ⟨XB, 2, none⟩ = some (.slice (some ⟨gJ, 0, none⟩) js.length c3) ∧ w'.cell? ⟨wr.heap.size, 1, none⟩ = some (.int .i64 y.f0.f1)) (ds := [10]) (bs_ 11 0) (by kernel_rfl) rfl rfl (⟨cell_two HY.out.xb 2 rfl, cell_two QY.out 1 rfl⟩) (fun hHeld => ?_)
              have HY1 := Aside0.mk (HY.out.next (Below.drew (Below.refl _ _)))
              have QY1 := Aside0.mk (blk_drew QY.out)
              clear HY QY
              refine pure_ (i := 0) (N := some 89) (v := ?_) (a' := ?_) (bs_ 11 1) rfl rfl (by kernel_rfl) (fun _ _ _ h => h) (Or.inl ⟨by rfl, ?_⟩) ?_ ?_; rotate_left; (· intro w'; go_simp; with_reducible rfl); rotate_left; (· simp only [Act.put, N1_]; rfl)
              refine take_ (i := 1) (N := some 90) (v := ?_) (a' := ?_) (bs_ 11 3) rfl rfl (by kernel_rfl) (fun _ _ _ h => h) (Or.inl ⟨by rfl, ?_⟩) hHeld ?_ ?_; rotate_left; (· rintro w' ⟨s0, s1⟩; go_simp; with_reducible rfl); rotate_left; (· simp only [Act.put, N1_]; rfl)
              refine pure_ (i := 2) (N := some 91) (v := ?_) (a' := ?_) (bs_ 11 7) rfl rfl (by kernel_rfl) (fun _ _ _ h => h) (Or.inl ⟨by rfl, ?_⟩) ?_ ?_; rotate_left; (· intro w'; go_simp; with_reducible rfl); rotate_left; (· simp only [Act.put, N1_]; rfl)
              refine pure_ (i := 3) (N := some 92) (v := ?_) (a' := ?_) (bs_ 11 15) rfl rfl (by kernel_rfl) (fun _ _ _ h => h) (Or.inl ⟨by rfl, ?_⟩) ?_ ?_; rotate_left; (· intro w'; go_simp; with_reducible rfl); rotate_left; (· simp only [Act.put, N1_]; rfl)
              refine take_ (i := 4) (N := some 93) (v := ?_) (a' := ?_) (bs_ 11 31) rfl rfl (by kernel_rfl) (fun _ _ _ h => h) (Or.inl ⟨by rfl, ?_⟩) hHeld ?_ ?_; rotate_left; (· rintro w' ⟨s0, s1⟩; go_simp; with_reducible rfl); rotate_left; (· simp only [Act.put, N1_]; rfl)
              refine pure_ (i := 5) (N := some 94) (v := ?_) (a' := ?_) (bs_ 11 63) rfl rfl (by kernel_rfl) (fun _ _ _ h => h) (Or.inl ⟨by rfl, ?_⟩) ?_ ?_; rotate_left; (· intro w'; go_simp; with_reducible rfl); rotate_left; (· simp only [Act.put, N1_]; rfl)
              refine take_ (i := 6) (N := some 95) (v := ?_) (a' := ?_) (bs_ 11 127) rfl rfl (by kernel_rfl) (fun _ _ _ h => h) (Or.inl ⟨by rfl, ?_⟩) hHeld ?_ ?_; rotate_left; (· rintro w' ⟨s0, s1⟩; go_simp; with_reducible rfl); rotate_left; (· simp only [Act.put, N1_]; rfl)
              refine one_ (i := 7) (N := some 96) (bs_ 11 255) rfl rfl (by kernel_rfl) (by decide) (fun K hK => ?_)
              refine goes_ Try.func27 (by kernel_rfl) rfl #[.int .i64 y.f0.f1, .int .i64 y.f0.f1] (by rfl) rfl rfl (by (try simp only [LM_]); try rfl) ?_
              refine (gasworkslaw06_span.calls y.f0.f1 y.f0.f1 y.f0.f1 y.f0.f1 _ rfl).mono ?_
              rintro e W10 ⟨rfl, hb⟩
              refine ⟨_, rfl, ?_⟩
              have HZ := Aside0.mk (HY1.out.next hb)
              have QZ := Aside0.mk (blk_below QY1.out hb)
              clear hb hHeld
              obtain ⟨d0, d1, q0, q1⟩ := HZ.out.elemJ i hlt
              refine hK.out _ _ ⟨cell_two HZ.out.xb 2 rfl, cell_two QZ.out 1 rfl⟩ (fun hHeld => ?_)
              clear hK K
              refine norm_ (a' := ?_) ?_ ?_; rotate_left; (· show Act.put _ (some 96) _ = _; simp only [Act.put, N1_]; rfl)
              refine pure_ (i := 8) (N := some 97) (v := ?_) (a' := ?_) (bs_ 11 511) rfl rfl (by kernel_rfl) (fun _ _ _ h => h) (Or.inl ⟨by rfl, ?_⟩) ?_ ?_; rotate_left; (· intro w'; go_simp; with_reducible rfl); rotate_left; (· simp only [Act.put, N1_]; rfl)
              refine pure_ (i := 9) (N := some 98) (v := ?_) (a' := ?_) (bs_ 11 1023) rfl rfl (by kernel_rfl) (fun _ _ _ h => h) (Or.inl ⟨by rfl, ?_⟩) ?_ ?_; rotate_left; (· intro w'; go_simp; with_reducible rfl); rotate_left; (· simp only [Act.put, N1_]; rfl)
              refine last_ (i := 10) (N := none) (bs_ 11 2047) rfl rfl (by kernel_rfl) (by decide) (fun K hK => ?_)
              refine skip_ (w1 := ?_) (by rfl) rfl ?_ ?_; rotate_left; (· go_simp; rfl)
              refine hK.out _ _ ?_
              clear hK K
              refine done_ (by kernel_rfl) ?_
              have HY := Aside0.mk (HZ.out.putJ HRR.out.1 HRR.out.2 i hlt y.f0.f1 y.f0.f1)
              have QY := Aside0.mk (blk_far (blk_far QZ.out (p := ⟨gJ, i * 5, none⟩) (by obtain ⟨_, cs, hcs⟩ := R50_blk1 HZ.out.jr; exact blk_ne QZ.out hcs (by decide)) (.int .i64 y.f0.f1)) (p := ⟨gJ, i * 5 + 1, none⟩) (by obtain ⟨_, cs, hcs⟩ := R50_blk1 HZ.out.jr; exact blk_ne QZ.out hcs (by decide)) (.int .i64 y.f0.f1))
              clear HZ QZ d0 d1 q0 q1 e0 e1 x2
              generalize ((W10.setCell ⟨gJ, i * 5, none⟩ (.int .i64 y.f0.f1)).setCell ⟨gJ, i * 5 + 1, none⟩ (.int .i64 y.f0.f1)) = W9 at HY QY ⊢
              go_wp2_with (fail)
              refine start_ (n := 11) (S := fun w' => w'.cell? ⟨XB, 2, none⟩ = some (.slice (some ⟨gJ, 0, none⟩) js.length c3) ∧ w'.cell? ⟨wr.heap.size, 0, none⟩ = some (.int .i64 y.f0.f0)) (ds := [10]) (bs_ 11 0) (by kernel_rfl) rfl rfl (⟨cell_two HY.out.xb 2 rfl, cell_two QY.out 0 rfl⟩) (fun hHeld => ?_)
              have HY1 := Aside0.mk (HY.out.next (Below.drew (Below.refl _ _)))
              have QY1 := Aside0.mk (blk_drew QY.out)
              clear HY QY
              refine pure_ (i := 0) (N := some 101) (v := ?_) (a' := ?_) (bs_ 11 1) rfl rfl (by kernel_rfl) (fun _ _ _ h => h) (Or.inl ⟨by rfl, ?_⟩) ?_ ?_; rotate_left; (· intro w'; go_simp; with_reducible rfl); rotate_left; (· simp only [Act.put, N1_]; rfl)
              refine take_ (i := 1) (N := some 102) (v := ?_) (a' := ?_) (bs_ 11 3) rfl rfl (by kernel_rfl) (fun _ _ _ h => h) (Or.inl ⟨by rfl, ?_⟩) hHeld ?_ ?_; rotate_left; (· rintro w' ⟨s0, s1⟩; go_simp; with_reducible rfl); rotate_left; (· simp only [Act.put, N1_]; rfl)
              refine pure_ (i := 2) (N := some 103) (v := ?_) (a' := ?_) (bs_ 11 7) rfl rfl (by kernel_rfl) (fun _ _ _ h => h) (Or.inl ⟨by rfl, ?_⟩) ?_ ?_; rotate_left; (· intro w'; go_simp; with_reducible rfl); rotate_left; (· simp only [Act.put, N1_]; rfl)
              refine pure_ (i := 3) (N := some 104) (v := ?_) (a' := ?_) (bs_ 11 15) rfl rfl (by kernel_rfl) (fun _ _ _ h => h) (Or.inl ⟨by rfl, ?_⟩) ?_ ?_; rotate_left; (· intro w'; go_simp; with_reducible rfl); rotate_left; (· simp only [Act.put, N1_]; rfl)
              refine take_ (i := 4) (N := some 105) (v := ?_) (a' := ?_) (bs_ 11 31) rfl rfl (by kernel_rfl) (fun _ _ _ h => h) (Or.inl ⟨by rfl, ?_⟩) hHeld ?_ ?_; rotate_left; (· rintro w' ⟨s0, s1⟩; go_simp; with_reducible rfl); rotate_left; (· simp only [Act.put, N1_]; rfl)
              refine pure_ (i := 5) (N := some 106) (v := ?_) (a' := ?_) (bs_ 11 63) rfl rfl (by kernel_rfl) (fun _ _ _ h => h) (Or.inl ⟨by rfl, ?_⟩) ?_ ?_; rotate_left; (· intro w'; go_simp; with_reducible rfl); rotate_left; (· simp only [Act.put, N1_]; rfl)
              refine take_ (i := 6) (N := some 107) (v := ?_) (a' := ?_) (bs_ 11 127) rfl rfl (by kernel_rfl) (fun _ _ _ h => h) (Or.inl ⟨by rfl, ?_⟩) hHeld ?_ ?_; rotate_left; (· rintro w' ⟨s0, s1⟩; go_simp; with_reducible rfl); rotate_left; (· simp only [Act.put, N1_]; rfl)
              refine one_ (i := 7) (N := some 108) (bs_ 11 255) rfl rfl (by kernel_rfl) (by decide) (fun K hK => ?_)
              refine goes_ Try.func27 (by kernel_rfl) rfl #[.int .i64 y.f0.f0, .int .i64 y.f0.f0] (by rfl) rfl rfl (by (try simp only [LM_]); try rfl) ?_
              refine (gasworkslaw06_span.calls y.f0.f0 y.f0.f0 y.f0.f0 y.f0.f0 _ rfl).mono ?_
              rintro e W11 ⟨rfl, hb⟩
              refine ⟨_, rfl, ?_⟩
              have HZ := Aside0.mk (HY1.out.next hb)
              have QZ := Aside0.mk (blk_below QY1.out hb)
              clear hb hHeld
              obtain ⟨d0, d1, q0, q1⟩ := HZ.out.elemJ i hlt
              refine hK.out _ _ ⟨cell_two HZ.out.xb 2 rfl, cell_two QZ.out 0 rfl⟩ (fun hHeld => ?_)
              clear hK K
              refine norm_ (a' := ?_) ?_ ?_; rotate_left; (· show Act.put _ (some 108) _ = _; simp only [Act.put, N1_]; rfl)
              refine pure_ (i := 8) (N := some 109) (v := ?_) (a' := ?_) (bs_ 11 511) rfl rfl (by kernel_rfl) (fun _ _ _ h => h) (Or.inl ⟨by rfl, ?_⟩) ?_ ?_; rotate_left; (· intro w'; go_simp; with_reducible rfl); rotate_left; (· simp only [Act.put, N1_]; rfl)
              refine pure_ (i := 9) (N := some 110) (v := ?_) (a' := ?_) (bs_ 11 1023) rfl rfl (by kernel_rfl) (fun _ _ _ h => h) (Or.inl ⟨by rfl, ?_⟩) ?_ ?_; rotate_left; (· intro w'; go_simp; with_reducible rfl); rotate_left; (· simp only [Act.put, N1_]; rfl)
              refine last_ (i := 10) (N := none) (bs_ 11 2047) rfl rfl (by kernel_rfl) (by decide) (fun K hK => ?_)
              refine skip_ (w1 := ?_) (by rfl) rfl ?_ ?_; rotate_left; (· go_simp; rfl)
              refine hK.out _ _ ?_
              clear hK K
              refine done_ (by kernel_rfl) ?_
              go_wp2_with (fail)
              go_roundw
              case rel => exact ⟨i + 1, by go_num, by omega, ⟨by rw [HS1.out]; have := HZ.out.putJ HRR.out.1 HRR.out.2 i hlt y.f0.f0 y.f0.f0; rw [HG1.out, rd_set50 (by rw [mixJ_len]; exact hlt), if_pos rfl, List.set_set] at this; exact this⟩⟩
              case measure => simp [intOf]; omega
            · have hlt' : decide ((i : Int) < (js.length : Int)) = false := decide_eq_false (by omega)
              have HJ : Aside0 (XAt w wr lo hi A c js A' c' ms SB pl ph XB hi hi (some ⟨gJ, 0, none⟩) c3 (js.map (endJ false)) A7 c7 (ms)) := ⟨by have h := HI.out; rw [(by omega : i = js.length), mixJ_all] at h; exact h⟩
              clear HI
              go_wp2_with (fail)
              clear hlt hlt' hi2 x2
              go_loopw [11] (fun i wr => ∃ k : Nat, i = .int .i64 (k : Int) ∧ k ≤ ms.length ∧ Aside0 (XAt w wr lo hi A c js A' c' ms SB pl ph XB hi hi (some ⟨gJ, 0, none⟩) c3 (js.map (endJ false)) A7 c7 (mixM 1 ms k))) (fun i _ => ms.length - (intOf i).toNat)
              case atStart => exact ⟨0, rfl, by omega, ⟨by rw [mixM_0]; exact HJ.out⟩⟩
              case round =>
                clear HJ
                obtain ⟨m, rfl, hm2, HI⟩ := hrel
                have x3 := cell_two HI.out.xb 3 rfl
                by_cases hlt : m < ms.length
                · have hlt' : decide ((m : Int) < (ms.length : Int)) = true := decide_eq_true (by omega)
                  have i0 : (0 : Int) ≤ (m : Int) := Int.natCast_nonneg m
                  have i1 : (m : Int) < (ms.length : Int) := by omega
                  obtain ⟨gM, eM⟩ : ∃ gM, A7 = some ⟨gM, 0, none⟩ := by
                    obtain ⟨g, cap, e, _⟩ := Kd.R_form HI.out.mr (by rw [HI.out.lens.2]; omega)
                    injection e with e1
                    exact ⟨g, e1⟩
                  subst eM
                  obtain ⟨_, e2, q2⟩ := HI.out.elemM m hlt
                  rw [mixM_get 1 ms m hlt] at e2
                  have HG1 := Aside0.mk (mixM_get 1 ms m hlt)
                  have HS1 := Aside0.mk (mixM_succ 1 ms m hlt)
                  have HK1 := Aside0.mk (mixM_keep 1 ms m hlt)
                  obtain ⟨y, hy⟩ : ∃ y, rd_T54 ms m = y := ⟨_, rfl⟩
                  rw [hy] at e2 HG1 HS1 HK1
                  clear hy
                  by_cases hv : y.f2 = 2
                  · have dv : (y.f2 == 2) = true := by rw [hv]; rfl
                    have HV := Aside0.mk hv
                    clear hv
                    have HZ1 := Aside0.mk (HI.out.putM HRR.out.1 HRR.out.2 m hlt 1)
                    go_wp2_with (fail)
                    go_roundw
                    case rel => exact ⟨m + 1, by go_num, by omega, ⟨by rw [HS1.out]; have := HZ1.out; rw [HG1.out] at this; unfold shutD; rw [if_pos HV.out]; exact this⟩⟩
                    case measure => simp [intOf]; omega
                  · have dv : (y.f2 == 2) = false := by simpa using hv
                    have HV := Aside0.mk hv
                    clear hv
                    go_wp2_with (fail)
                    go_roundw
                    case rel => exact ⟨m + 1, by go_num, by omega, ⟨by rw [HK1.out HV.out]; exact HI.out⟩⟩
                    case measure => simp [intOf]; omega
                · have hlt' : decide ((m : Int) < (ms.length : Int)) = false := decide_eq_false (by omega)
                  have HM : Aside0 (Turned ms (mixM 1 ms m) 1 (fun _ => false)) := ⟨by rw [(by omega : m = ms.length)]; exact mixM_all 1 ms⟩
                  generalize mixM 1 ms m = zs at HM HI
                  go_wp2_with (fail)
                  clear hlt hlt' hm2 x3
                  go_loopw [12] (fun i wr => ∃ (q : Nat) (P : Nat → Bool) (zs : List S54), i = .int .i64 (q : Int) ∧ q ≤ ms.length ∧ Aside0 (XAt w wr lo hi A c js A' c' ms SB pl ph XB hi hi (some ⟨gJ, 0, none⟩) c3 (js.map (endJ false)) A7 c7 (zs)) ∧ Aside0 (Turned ms zs 1 P) ∧ Aside0 (WayAt js ms j P q)) (fun i _ => (intOf i).toNat)
                  case atStart => exact ⟨j, fun _ => false, zs, rfl, hj, HI, HM, ⟨fun _ => rfl⟩⟩
                  case round =>
                    clear HI HM
                    obtain ⟨q, P, zs, rfl, hq, HI, HM, HWa⟩ := hrel
                    have x3 := cell_two HI.out.xb 3 rfl
                    cases q with
                    | succ q =>
                      obtain ⟨gM, eM⟩ : ∃ gM, A7 = some ⟨gM, 0, none⟩ := by
                        obtain ⟨g, cap, e, _⟩ := Kd.R_form HI.out.mr (by rw [HI.out.lens.2]; omega)
                        injection e with e1
                        exact ⟨g, e1⟩
                      subst eM
                      have hqw : wrap64 (((q + 1 : Nat) : Int) - 1) = (q : Int) := by rw [w64 (by omega) (by omega)]; omega
                      have hq0 : decide ((0 : Int) < ((q + 1 : Nat) : Int)) = true := decide_eq_true (by omega)
                      have hq0' : 0 < q + 1 := by omega
                      have i0 : (0 : Int) ≤ (q : Int) := Int.natCast_nonneg q
                      have i1 : (q : Int) < (ms.length : Int) := by omega
                      obtain ⟨_, e2, q2⟩ := HI.out.elemM q (by omega)
                      have HZ1 := Aside0.mk (HI.out.putM HRR.out.1 HRR.out.2 q (by omega) 0)
                      have HM1 := Aside0.mk (HM.out.open_ (k := q) (by omega))
                      have x3b := cell_two HZ1.out.xb 3 rfl
                      obtain ⟨e0b, _, _⟩ := HZ1.out.elemM q (by omega)
                      have hpar := par_is HOK.out (k := q) (by omega)
                      have hpw : (rd_T54 (zs.set q ⟨(rd_T54 zs q).f0, (rd_T54 zs q).f1, 0, (rd_T54 zs q).f3⟩) q).f0 = (((netM js ms).par q : Nat) : Int) := by rw [(HM1.out.at_ q (by omega)).1]; exact hpar.1
                      rw [hpw] at e0b
                      have hpl := hpar.2
                      have HWb := Aside0.mk (way_step HWa.out)
                      clear hpar hpw HWa
                      generalize (netM js ms).par q = p at e0b hpl HWb
                      go_wp2_with (fail)
                      go_roundw
                      case rel => exact ⟨p, _, _, rfl, by omega, HZ1, HM1, HWb⟩
                      case measure => simp [intOf]; omega
                    | zero =>
                      have HTu : Aside0 (Turned ms zs 1 (fun k => PipeMath.behind (netM js ms) k j)) := ⟨by rw [way_done HWa.out]; exact HM.out⟩
                      have HP2 : Aside0 (∀ W, XAt w W lo hi A c js A' c' ms SB pl ph XB hi hi (some ⟨gJ, 0, none⟩) c3 (js.map (endJ false)) A7 c7 (zs) → Calls Try.prog 14 #[.agg #[.int .i64 hi, .int .i64 hi, .slice (some ⟨gJ, 0, none⟩) js.length c3, .slice A7 ms.length c7], .int .i64 (j : Int)] W fun e w' => e = .returned (.tuple #[.agg #[.int .i64 ph, .int .i64 ph], .int .i64 0]) ∧ Below W.heap.size W w') := ⟨fun W h => by
                        obtain ⟨h1, h2, h3⟩ := Kd.R_reads' h.jr
                        obtain ⟨h4, h5, h6⟩ := Kd.R_reads' h.mr
                        have := Press_any hi hi (some ⟨gJ, 0, none⟩) c3 (js.map (endJ false)) A7 c7 zs j W h3 (by omega) h6 (by omega)
                        rw [show pressS hi hi (js.map (endJ false)) zs j = (ph, ph, 0) from HEnd.out false zs HTu.out, ← h1, ← h4] at this
                        exact this⟩
                      have s0 := cell_two HI.out.xb 0 rfl
                      have s1 := cell_two HI.out.xb 1 rfl
                      have s2 := cell_two HI.out.xb 2 rfl
                      have hz0 : decide ((0 : Int) < ((0 : Nat) : Int)) = false := rfl
                      go_wp2_with (go_at_call 14; (with_reducible refine (HP2.out _ HI.out).mono ?_); rintro e W11 ⟨rfl, hb⟩; have HE := Aside0.mk ((HI.out.en.next hb).next (below_alloc (Below.refl _ _) (.cells #[.int .i64 ph, .int .i64 ph] 23))); have QE := Aside0.mk (blk_new W11 (.cells #[.int .i64 ph, .int .i64 ph] 23)); clear hb s0 s1 s2 x3; have t0 := cell_two HE.out.sp 0 rfl; have t1 := cell_two HE.out.sp 1 rfl)
                      have heq := fun W => eq23 W ph ph
                      refine start_ (n := 9) (S := fun w' => w'.cell? ⟨W11.heap.size, 0, none⟩ = some (.int .i64 ph) ∧ w'.cell? ⟨W11.heap.size, 1, none⟩ = some (.int .i64 ph)) (ds := []) (bs_ 9 0) (by kernel_rfl) rfl rfl (⟨cell_two QE.out 0 rfl, cell_two QE.out 1 rfl⟩) (fun hHeld => ?_)
                      have HE1 := Aside0.mk (HE.out.next (Below.drew (Below.refl _ _)))
                      have QE1 := Aside0.mk (blk_drew QE.out)
                      clear HE QE
                      refine pure_ (i := 0) (N := some 165) (v := ?_) (a' := ?_) (bs_ 9 1) rfl rfl (by kernel_rfl) (fun _ _ _ h => h) (Or.inl ⟨by rfl, ?_⟩) ?_ ?_; rotate_left; (· intro w'; go_simp; with_reducible rfl); rotate_left; (· simp only [Act.put, N1_]; rfl)
                      refine pure_ (i := 1) (N := some 166) (v := ?_) (a' := ?_) (bs_ 9 3) rfl rfl (by kernel_rfl) (fun _ _ _ h => h) (Or.inl ⟨by rfl, ?_⟩) ?_ ?_; rotate_left; (· intro w'; go_simp; with_reducible rfl); rotate_left; (· simp only [Act.put, N1_]; rfl)
                      refine pure_ (i := 2) (N := some 167) (v := ?_) (a' := ?_) (bs_ 9 7) rfl rfl (by kernel_rfl) (fun _ _ _ h => h) (Or.inl ⟨by rfl, ?_⟩) ?_ ?_; rotate_left; (· intro w'; go_simp; with_reducible rfl); rotate_left; (· simp only [Act.put, N1_]; rfl)
                      refine take_ (i := 3) (N := some 168) (v := ?_) (a' := ?_) (bs_ 9 15) rfl rfl (by kernel_rfl) (fun _ _ _ h => h) (Or.inl ⟨by rfl, ?_⟩) hHeld ?_ ?_; rotate_left; (· rintro w' ⟨s0, s1⟩; go_simp; with_reducible rfl); rotate_left; (· simp only [Act.put, N1_]; rfl)
                      refine pure_ (i := 4) (N := some 169) (v := ?_) (a' := ?_) (bs_ 9 31) rfl rfl (by kernel_rfl) (fun _ _ _ h => h) (Or.inl ⟨by rfl, ?_⟩) ?_ ?_; rotate_left; (· intro w'; go_simp; with_reducible rfl); rotate_left; (· simp only [Act.put, N1_]; rfl)
                      refine pure_ (i := 5) (N := some 170) (v := ?_) (a' := ?_) (bs_ 9 63) rfl rfl (by kernel_rfl) (fun _ _ _ h => h) (Or.inl ⟨by rfl, ?_⟩) ?_ ?_; rotate_left; (· intro w'; go_simp; with_reducible rfl); rotate_left; (· simp only [Act.put, N1_]; rfl)
                      refine one_ (i := 6) (N := some 171) (bs_ 9 127) rfl rfl (by kernel_rfl) (by decide) (fun K hK => ?_)
                      refine goes_ Try.func27 (by kernel_rfl) rfl #[.int .i64 ph, .int .i64 ph] (by rfl) rfl rfl (by (try simp only [LM_]); try rfl) ?_
                      refine (gasworkslaw06_span.calls ph ph ph ph _ rfl).mono ?_
                      rintro e W12 ⟨rfl, hb⟩
                      refine ⟨_, rfl, ?_⟩
                      have HF := Aside0.mk (HE1.out.next hb)
                      have QF := Aside0.mk (blk_below QE1.out hb)
                      clear hb hHeld
                      refine hK.out _ _ ⟨cell_two QF.out 0 rfl, cell_two QF.out 1 rfl⟩ (fun hHeld => ?_)
                      clear hK K
                      refine norm_ (a' := ?_) ?_ ?_; rotate_left; (· show Act.put _ (some 171) _ = _; simp only [Act.put, N1_]; rfl)
                      refine pure_ (i := 7) (N := some 172) (v := ?_) (a' := ?_) (bs_ 9 255) rfl rfl (by kernel_rfl) (fun _ _ _ h => h) (Or.inl ⟨by rfl, ?_⟩) ?_ ?_; rotate_left; (· intro w'; go_simp; with_reducible rfl); rotate_left; (· simp only [Act.put, N1_]; rfl)
                      refine pure_ (i := 8) (N := some 173) (v := ?_) (a' := ?_) (bs_ 9 511) rfl rfl (by kernel_rfl) (fun _ _ _ h => h) (Or.inl ⟨by rfl, ?_⟩) ?_ ?_; rotate_left; (· intro w'; go_simp; with_reducible rfl); rotate_left; (· simp only [Act.put, N1_]; rfl)
                      refine done_ (by kernel_rfl) ?_
                      go_wp2_with (fail)
                      go_roundw
                      case rel => exact ⟨2, by go_num, by omega, HF⟩
                      case measure => simp [intOf]
        · go_wp2_with (go_at_call 11; (with_reducible refine (awake_any _).mono ?_); rintro e9 W9 ⟨rfl, hb⟩; have HB9 := Aside0.mk (bl_next' HL.out.net.bel hb); clear hb)
          go_ret
          exact ⟨rfl, HB9.out⟩
end Go.Proofs.Ytbjinkkmakhbaaa.Print
