/- A law's own network in its box: copies, stores, ways. -/
import Derived.Test.YtbjinkkmakhbaaaPX
namespace Go.Proofs.Ytbjinkkmakhbaaa.Print
open Go.RowKit Go.Shelf Go.Proofs.YtbjinkkmakhbaaaW.PrintWords Go.Proofs.YtbjinkkmakhbaaaW.PrintLast Go.Proofs.YtbjinkkmakhbaaaW.PrintMore
set_option linter.unusedVariables false
set_option linter.unusedSimpArgs false
attribute [local go_sem] Oper.semAt_some
section
variable {lo hi : Int} {A : Option Addr} {c : Nat} {js : List S50} {A' : Option Addr} {c' : Nat} {ms : List S54} {SB : Nat} {s0 s1 : Int}
/-- The law's own cells: the network's box, and the span's. -/
structure EnAt0 (w W : World) (lo hi : Int) (A : Option Addr) (c : Nat) (js : List S50) (A' : Option Addr) (c' : Nat) (ms : List S54) (SB : Nat) (s0 s1 : Int) : Prop where
  net : NetAt w W w.heap.size lo hi A c js A' c' ms
  sp : W.heap[SB]? = some (.cells #[.int .i64 s0, .int .i64 s1] 23 (0, 0))
  sge : w.heap.size < SB
theorem EnAt0.next {w W W' : World} (h : EnAt0 w W lo hi A c js A' c' ms SB s0 s1) (hb : Below W.heap.size W W') : EnAt0 w W' lo hi A c js A' c' ms SB s0 s1 := ⟨h.net.next hb, blk_below h.sp hb, h.sge⟩
/-- A store to a block that is neither of both, and younger than the call. -/
theorem EnAt0.put {w W : World} (h : EnAt0 w W lo hi A c js A' c' ms SB s0 s1) {g : Nat} (h1 : g ≠ w.heap.size) (h2 : g ≠ SB) (h3 : w.heap.size ≤ g) (hr : Kd.C k50 w A js.length js) (hr' : Kd.C k54 w A' ms.length ms) (i : Nat) (v : Value) : EnAt0 w (W.setCell ⟨g, i, none⟩ v) lo hi A c js A' c' ms SB s0 s1 := by
  have hb := h.net.bel.setCell (p := ⟨g, i, none⟩) h3 v
  exact ⟨⟨blk_far h.net.blk (fun e => h1 e.symm) _, Kd.C_below hr hb, Kd.C_below hr' hb, hb⟩, blk_far h.sp (fun e => h2 e.symm) _, h.sge⟩
/-- The law's own network, in its box. -/
structure XAt (w W : World) (lo hi : Int) (A : Option Addr) (c : Nat) (js : List S50) (A' : Option Addr) (c' : Nat) (ms : List S54) (SB : Nat) (s0 s1 : Int) (XB : Nat) (x0 x1 : Int) (AJ : Option Addr) (cJ : Nat) (yj : List S50) (AM : Option Addr) (cM : Nat) (ym : List S54) : Prop where
  en : EnAt0 w W lo hi A c js A' c' ms SB s0 s1
  xb : W.heap[XB]? = some (.cells #[.int .i64 x0, .int .i64 x1, .slice AJ js.length cJ, .slice AM ms.length cM] 27 (0, 0))
  xge : w.heap.size < XB
  jr : Kd.R k50 50 W w.heap.size (fun _ => True) (.slice AJ js.length cJ) yj
  mr : Kd.R k54 54 W w.heap.size (fun _ => True) (.slice AM ms.length cM) ym
variable {XB : Nat} {x0 x1 : Int} {AJ : Option Addr} {cJ : Nat} {yj : List S50} {AM : Option Addr} {cM : Nat} {ym : List S54}
theorem XAt.next {w W W' : World} (h : XAt w W lo hi A c js A' c' ms SB s0 s1 XB x0 x1 AJ cJ yj AM cM ym) (hb : Below W.heap.size W W') : XAt w W' lo hi A c js A' c' ms SB s0 s1 XB x0 x1 AJ cJ yj AM cM ym := ⟨h.en.next hb, blk_below h.xb hb, h.xge, Kd.R_below h.jr hb, Kd.R_below h.mr hb⟩
/-- What the network's box holds of pressure, is stored. -/
theorem XAt.src {w W : World} (h : XAt w W lo hi A c js A' c' ms SB s0 s1 XB x0 x1 AJ cJ yj AM cM ym) (hr : Kd.C k50 w A js.length js) (hr' : Kd.C k54 w A' ms.length ms) (a b : Int) : XAt w ((W.setCell ⟨XB, 0, none⟩ (.int .i64 a)).setCell ⟨XB, 1, none⟩ (.int .i64 b)) lo hi A c js A' c' ms SB s0 s1 XB a b AJ cJ yj AM cM ym := by
  have h1 : XB ≠ SB := blk_ne h.xb h.en.sp (by decide)
  have h2 : XB ≠ w.heap.size := by have := h.xge; omega
  have hx := h.xge
  refine ⟨(h.en.put h2 h1 (by omega) hr hr' 0 _).put h2 h1 (by omega) hr hr' 1 _, blk_put (blk_put h.xb 0 _ rfl) 1 _ rfl, hx, ?_, ?_⟩
  · exact Kd.R_set (Kd.R_set h.jr h.xb (by decide) 0 _) (blk_set h.xb 0 _) (by decide) 1 _
  · exact Kd.R_set (Kd.R_set h.mr h.xb (by decide) 0 _) (blk_set h.xb 0 _) (by decide) 1 _
/-- The network's box, filled with copies. -/
theorem XAt.fill {w W : World} (h : EnAt0 w W lo hi A c js A' c' ms SB s0 s1) (hr : Kd.C k50 w A js.length js) (hr' : Kd.C k54 w A' ms.length ms) {v2 v3 : Value} (hx : W.heap[XB]? = some (.cells #[.int .i64 x0, .int .i64 x1, v2, v3] 27 (0, 0))) (hg : w.heap.size < XB)
    (hj : Kd.R k50 50 W w.heap.size (fun _ => True) (.slice AJ js.length cJ) yj) (hm : Kd.R k54 54 W w.heap.size (fun _ => True) (.slice AM ms.length cM) ym) :
    XAt w ((W.setCell ⟨XB, 2, none⟩ (.slice AJ js.length cJ)).setCell ⟨XB, 3, none⟩ (.slice AM ms.length cM)) lo hi A c js A' c' ms SB s0 s1 XB x0 x1 AJ cJ yj AM cM ym := by
  have h1 : XB ≠ SB := blk_ne hx h.sp (by decide)
  have h2 : XB ≠ w.heap.size := by omega
  refine ⟨(h.put h2 h1 (by omega) hr hr' 2 _).put h2 h1 (by omega) hr hr' 3 _, blk_put (blk_put hx 2 _ rfl) 3 _ rfl, hg, ?_, ?_⟩
  · exact Kd.R_set (Kd.R_set hj hx (by decide) 2 _) (blk_set hx 2 _) (by decide) 3 _
  · exact Kd.R_set (Kd.R_set hm hx (by decide) 2 _) (blk_set hx 2 _) (by decide) 3 _
theorem R50_blk1 {W : World} {base g n c : Nat} {ok : Nat → Prop} {xs : List S50} (h : Kd.R k50 50 W base ok (.slice (some ⟨g, 0, none⟩) n c) xs) : base ≤ g ∧ ∃ cs, W.heap[g]? = some (.cells cs 50 (0, 0)) := by
  obtain ⟨_, hb, _, q, hq, cs, hc⟩ := (Kd.R_bound h).1 g rfl
  have e : q = 50 := by
    have : q ∈ [50] := hq
    simpa using this
  subst e
  exact ⟨hb, cs, hc⟩
theorem R54_blk1 {W : World} {base g n c : Nat} {ok : Nat → Prop} {xs : List S54} (h : Kd.R k54 54 W base ok (.slice (some ⟨g, 0, none⟩) n c) xs) : base ≤ g ∧ ∃ cs, W.heap[g]? = some (.cells cs 54 (0, 0)) := by
  obtain ⟨_, hb, _, q, hq, cs, hc⟩ := (Kd.R_bound h).1 g rfl
  have e : q = 54 := by
    have : q ∈ [54] := hq
    simpa using this
  subst e
  exact ⟨hb, cs, hc⟩
/-- Junction i of the law's own network. -/
theorem XAt.elemJ {w W : World} {gJ : Nat} (h : XAt w W lo hi A c js A' c' ms SB s0 s1 XB x0 x1 (some ⟨gJ, 0, none⟩) cJ yj AM cM ym) (i : Nat) (hi' : i < js.length) :
    W.cell? ⟨gJ, i * 5, none⟩ = some (.int .i64 (rd_T50 yj i).f0.f0) ∧ W.cell? ⟨gJ, i * 5 + 1, none⟩ = some (.int .i64 (rd_T50 yj i).f0.f1) ∧ W.frozen? ⟨gJ, i * 5, none⟩ = false ∧ W.frozen? ⟨gJ, i * 5 + 1, none⟩ = false := by
  obtain ⟨cc, hcl, hM, hcell, hf⟩ := Kd.R_elem h.jr z50 (i : Int) (Int.natCast_nonneg i) (by omega)
  obtain rfl := k50_openM hM
  rw [Int.toNat_natCast] at hcell hf
  exact ⟨hcell 0 _ rfl, hcell 1 _ rfl, hf 0, hf 1⟩
theorem XAt.putJ {w W : World} {gJ : Nat} (h : XAt w W lo hi A c js A' c' ms SB s0 s1 XB x0 x1 (some ⟨gJ, 0, none⟩) cJ yj AM cM ym) (hr : Kd.C k50 w A js.length js) (hr' : Kd.C k54 w A' ms.length ms) (i : Nat) (hi' : i < js.length) (a b : Int) :
    XAt w ((W.setCell ⟨gJ, i * 5, none⟩ (.int .i64 a)).setCell ⟨gJ, i * 5 + 1, none⟩ (.int .i64 b)) lo hi A c js A' c' ms SB s0 s1 XB x0 x1 (some ⟨gJ, 0, none⟩) cJ (yj.set i ⟨⟨a, b⟩, (rd_T50 yj i).f1, (rd_T50 yj i).f2, (rd_T50 yj i).f3⟩) AM cM ym := by
  obtain ⟨hge, cs, hcs⟩ := R50_blk1 h.jr
  have n1 : gJ ≠ w.heap.size := blk_ne hcs h.en.net.blk (by decide)
  have n2 : gJ ≠ SB := blk_ne hcs h.en.sp (by decide)
  have n3 : XB ≠ gJ := blk_ne h.xb hcs (by decide)
  obtain ⟨cc, hcl, hM, hcell, hf⟩ := Kd.R_elem h.jr z50 (i : Int) (Int.natCast_nonneg i) (by omega)
  obtain rfl := k50_openM hM
  have hs := Kd.R_seg h.jr (i : Int) (Int.natCast_nonneg i) (by omega) hcl hcell (seg := [.int .i64 a, .int .i64 b]) (j := 0) (x' := ⟨⟨a, b⟩, (rd_T50 yj i).f1, (rd_T50 yj i).f2, (rd_T50 yj i).f3⟩) (okp := fun _ => False) (by show 0 + 2 ≤ 5; decide) (k50_mkM _ _ _ ⟨⟨a, b⟩, (rd_T50 yj i).f1, (rd_T50 yj i).f2, (rd_T50 yj i).f3⟩) (fun _ hk => hk.elim)
  rw [Int.toNat_natCast] at hs
  have hcs1 := blk_set hcs (i * 5) (.int .i64 a)
  refine ⟨(h.en.put n1 n2 hge hr hr' _ _).put n1 n2 hge hr hr' _ _, blk_far (blk_far h.xb n3 _) n3 _, h.xge, hs.1, ?_⟩
  exact Kd.R_set (Kd.R_set h.mr hcs (by decide) _ _) hcs1 (by decide) _ _
/-- Main k of the law's own network. -/
theorem XAt.elemM {w W : World} {gM : Nat} (h : XAt w W lo hi A c js A' c' ms SB s0 s1 XB x0 x1 AJ cJ yj (some ⟨gM, 0, none⟩) cM ym) (i : Nat) (hi' : i < ms.length) :
    W.cell? ⟨gM, i * 4, none⟩ = some (.int .i64 (rd_T54 ym i).f0) ∧ W.cell? ⟨gM, i * 4 + 2, none⟩ = some (.int .i64 (rd_T54 ym i).f2) ∧ W.frozen? ⟨gM, i * 4 + 2, none⟩ = false := by
  obtain ⟨cc, hcl, hM, hcell, hf⟩ := Kd.R_elem h.mr z54 (i : Int) (Int.natCast_nonneg i) (by omega)
  obtain rfl := k54_openM hM
  rw [Int.toNat_natCast] at hcell hf
  exact ⟨hcell 0 _ rfl, hcell 2 _ rfl, hf 2⟩
theorem XAt.putM {w W : World} {gM : Nat} (h : XAt w W lo hi A c js A' c' ms SB s0 s1 XB x0 x1 AJ cJ yj (some ⟨gM, 0, none⟩) cM ym) (hr : Kd.C k50 w A js.length js) (hr' : Kd.C k54 w A' ms.length ms) (i : Nat) (hi' : i < ms.length) (v : Int) :
    XAt w (W.setCell ⟨gM, i * 4 + 2, none⟩ (.int .i64 v)) lo hi A c js A' c' ms SB s0 s1 XB x0 x1 AJ cJ yj (some ⟨gM, 0, none⟩) cM (ym.set i ⟨(rd_T54 ym i).f0, (rd_T54 ym i).f1, v, (rd_T54 ym i).f3⟩) := by
  obtain ⟨hge, cs, hcs⟩ := R54_blk1 h.mr
  have n1 : gM ≠ w.heap.size := blk_ne hcs h.en.net.blk (by decide)
  have n2 : gM ≠ SB := blk_ne hcs h.en.sp (by decide)
  have n3 : XB ≠ gM := blk_ne h.xb hcs (by decide)
  obtain ⟨cc, hcl, hM, hcell, hf⟩ := Kd.R_elem h.mr z54 (i : Int) (Int.natCast_nonneg i) (by omega)
  obtain rfl := k54_openM hM
  have hs := Kd.R_seg h.mr (i : Int) (Int.natCast_nonneg i) (by omega) hcl hcell (seg := [.int .i64 v]) (j := 2) (x' := ⟨(rd_T54 ym i).f0, (rd_T54 ym i).f1, v, (rd_T54 ym i).f3⟩) (okp := fun _ => False) (by show 2 + 1 ≤ 4; decide) (k54_mkM _ _ _ ⟨(rd_T54 ym i).f0, (rd_T54 ym i).f1, v, (rd_T54 ym i).f3⟩) (fun _ hk => hk.elim)
  rw [Int.toNat_natCast] at hs
  exact ⟨h.en.put n1 n2 hge hr hr' _ _, blk_far h.xb n3 _, h.xge, Kd.R_set h.jr hcs (by decide) _ _, hs.1⟩
theorem XAt.lens {w W : World} (h : XAt w W lo hi A c js A' c' ms SB s0 s1 XB x0 x1 AJ cJ yj AM cM ym) : yj.length = js.length ∧ ym.length = ms.length := ⟨(Kd.R_reads' h.jr).1.symm, (Kd.R_reads' h.mr).1.symm⟩
end
/-- The junctions, the first i of them turned. -/
def mixJ (d : Bool) (js : List S50) (i : Nat) : List S50 := (js.take i).map (endJ d) ++ js.drop i
theorem mixJ_0 (d : Bool) (js : List S50) : mixJ d js 0 = js := by simp [mixJ]
theorem mixJ_all (d : Bool) (js : List S50) : mixJ d js js.length = js.map (endJ d) := by simp [mixJ]
theorem mixJ_get (d : Bool) (js : List S50) (i : Nat) (h : i < js.length) : rd_T50 (mixJ d js i) i = rd_T50 js i := by
  unfold mixJ
  rw [rd_T50_eq _ _ h, rd_T50_eq _ _ (by simp; omega), List.getElem_append_right (by simp; omega)]
  simp [Nat.min_eq_left (Nat.le_of_lt h)]
theorem mixJ_len (d : Bool) (js : List S50) (i : Nat) : (mixJ d js i).length = js.length := by simp [mixJ]; omega
theorem rd_set50 {l : List S50} {k : Nat} (h : k < l.length) (x : S50) (q : Nat) : rd_T50 (l.set k x) q = if q = k then x else rd_T50 l q := by
  unfold rd_T50
  rw [Int.toNat_natCast, List.getD_eq_getElem?_getD, List.getD_eq_getElem?_getD, List.getElem?_set]
  by_cases e : q = k
  · subst e; simp [h]
  · rw [if_neg (fun e2 => e e2.symm), if_neg e]
theorem mixJ_succ (d : Bool) (js : List S50) (i : Nat) (h : i < js.length) : mixJ d js (i + 1) = (mixJ d js i).set i (endJ d (rd_T50 js i)) := by
  unfold mixJ
  rw [rd_T50_eq _ _ h, List.take_succ_eq_append_getElem h, List.map_append, List.set_append_right _ _ (by simp; omega), List.length_map, List.length_take, Nat.min_eq_left (Nat.le_of_lt h), Nat.sub_self, List.drop_eq_getElem_cons h, List.set_cons_zero, List.append_assoc]
  rfl
def shutD (o : Int) (m : S54) : S54 := if m.f2 = 2 then ⟨m.f0, m.f1, o, m.f3⟩ else m
def mixM (o : Int) (ms : List S54) (i : Nat) : List S54 := (ms.take i).map (shutD o) ++ ms.drop i
theorem mixM_0 (o : Int) (ms : List S54) : mixM o ms 0 = ms := by simp [mixM]
theorem mixM_len (o : Int) (ms : List S54) (i : Nat) : (mixM o ms i).length = ms.length := by simp [mixM]; omega
theorem mixM_get (o : Int) (ms : List S54) (i : Nat) (h : i < ms.length) : rd_T54 (mixM o ms i) i = rd_T54 ms i := by
  unfold mixM
  rw [rd_T54_eq _ _ h, rd_T54_eq _ _ (by simp; omega), List.getElem_append_right (by simp; omega)]
  simp [Nat.min_eq_left (Nat.le_of_lt h)]
theorem mixM_succ (o : Int) (ms : List S54) (i : Nat) (h : i < ms.length) : mixM o ms (i + 1) = (mixM o ms i).set i (shutD o (rd_T54 ms i)) := by
  unfold mixM
  rw [rd_T54_eq _ _ h, List.take_succ_eq_append_getElem h, List.map_append, List.set_append_right _ _ (by simp; omega), List.length_map, List.length_take, Nat.min_eq_left (Nat.le_of_lt h), Nat.sub_self, List.drop_eq_getElem_cons h, List.set_cons_zero, List.append_assoc]
  rfl
theorem rd_set54 {l : List S54} {k : Nat} (h : k < l.length) (x : S54) (q : Nat) : rd_T54 (l.set k x) q = if q = k then x else rd_T54 l q := by
  unfold rd_T54
  rw [Int.toNat_natCast, List.getD_eq_getElem?_getD, List.getD_eq_getElem?_getD, List.getElem?_set]
  by_cases e : q = k
  · subst e; simp [h]
  · rw [if_neg (fun e2 => e e2.symm), if_neg e]
theorem mixM_keep (o : Int) (ms : List S54) (i : Nat) (h : i < ms.length) (h2 : (rd_T54 ms i).f2 ≠ 2) : mixM o ms (i + 1) = mixM o ms i := by
  rw [mixM_succ o ms i h]
  unfold shutD
  rw [if_neg h2]
  have hl : i < (mixM o ms i).length := by rw [mixM_len]; exact h
  have e := mixM_get o ms i h
  rw [← e, rd_T54_eq _ _ hl]
  exact List.set_getElem_self hl
theorem mixM_all (o : Int) (ms : List S54) : Turned ms (mixM o ms ms.length) o (fun _ => false) where
  len := mixM_len o ms _
  at_ := fun k hk => by
    have e : rd_T54 (mixM o ms ms.length) k = shutD o (rd_T54 ms k) := by
      unfold mixM
      rw [rd_T54_eq _ _ hk, rd_T54_eq _ _ (by simp; omega)]
      simp
    rw [e, if_neg (by decide)]
    unfold shutD
    split <;> exact ⟨rfl, rfl, rfl, rfl⟩
theorem Turned.open_ {ms zs : List S54} {o : Int} {P : Nat → Bool} (h : Turned ms zs o P) {k : Nat} (hk : k < ms.length) : Turned ms (zs.set k ⟨(rd_T54 zs k).f0, (rd_T54 zs k).f1, 0, (rd_T54 zs k).f3⟩) o (fun q => P q || q == k) where
  len := by rw [List.length_set]; exact h.len
  at_ := fun q hq => by
    rw [rd_set54 (by rw [h.len]; exact hk)]
    have h1 := h.at_ q hq
    by_cases e : q = k
    · subst e
      rw [if_pos rfl]
      refine ⟨h1.1, h1.2.1, h1.2.2.1, ?_⟩
      simp
    · rw [if_neg e]
      have : (q == k) = false := by simpa using e
      simp only [this, Bool.or_false]
      exact h1
/-- The way from j: what was passed, and what is left. -/
def WayAt (js : List S50) (ms : List S54) (j : Nat) (P : Nat → Bool) (i : Nat) : Prop := ∀ k, PipeMath.behind (netM js ms) k j = (P k || PipeMath.behind (netM js ms) k i)
theorem way_step {js : List S50} {ms : List S54} {j : Nat} {P : Nat → Bool} {k : Nat} (h : WayAt js ms j P (k + 1)) : WayAt js ms j (fun q => P q || q == k) ((netM js ms).par k) := fun q => by
  have e : PipeMath.behind (netM js ms) q (k + 1) = (k == q || PipeMath.behind (netM js ms) q ((netM js ms).par k)) := by rw [PipeMath.behind]
  have e2 : (k == q) = (q == k) := by rw [Bool.eq_iff_iff, beq_iff_eq, beq_iff_eq]; exact eq_comm
  rw [h q, e, e2, Bool.or_assoc]
theorem way_done {js : List S50} {ms : List S54} {j : Nat} {P : Nat → Bool} (h : WayAt js ms j P 0) : (fun k => PipeMath.behind (netM js ms) k j) = P := funext fun k => by
  have e : PipeMath.behind (netM js ms) k 0 = false := by rw [PipeMath.behind]
  rw [h k, e, Bool.or_false]
theorem par_is {lo hi : Int} {js : List S50} {ms : List S54} (hok : NetOk lo hi js ms) {k : Nat} (hk : k < ms.length) : (rd_T54 ms k).f0 = (((netM js ms).par k : Nat) : Int) ∧ (netM js ms).par k ≤ k := by
  have := (mains_ok hok.mok k hk).1
  refine ⟨?_, (netM js ms).le k⟩
  show _ = ((min (rd_T54 ms k).f0.toNat k : Nat) : Int)
  omega
theorem gets_le {lo hi : Int} {js : List S50} {ms : List S54} (hok : NetOk lo hi js ms) {j : Nat} (hj : j ≤ ms.length) : loP js ms lo j ≤ hiP js ms hi j := by
  rw [loP_m hok hj, hiP_m hok hj]
  refine PipeMath.at_mono (netM js ms) (fun k h => ?_) (fun i => ?_) (fun i => need_nn hok true i) hok.src.2.1 j
  · unfold PipeMath.onlyWay at h
    unfold PipeMath.allOpen
    cases h1 : (valM ms).opn k <;> cases h2 : (valM ms).doubt k <;> simp [h1, h2] at h ⊢
  · have := junction_ok hok.jok i
    unfold needM endE
    simp
    omega
theorem press_case (lo hi : Int) (js : List S50) (ms : List S54) (o : Int) : (∃ e : Int, pressS lo hi js ms o = (0, 0, e) ∧ (e = 1 ∨ e = 2 ∨ e = 4)) ∨ ∃ j : Nat, o = (j : Int) ∧ NetOk lo hi js ms ∧ j ≤ ms.length ∧ statusP ms j ≠ 0 ∧ pressS lo hi js ms o = (loP js ms lo j, hiP js ms hi j, 0) := by
  unfold pressS
  by_cases hn : netB lo hi js ms = true
  · rw [if_pos hn]
    have hok := net_ok hn
    by_cases hj : withinB o 0 ((js.length : Int) - 1) = true
    · rw [if_pos hj]
      have hj2 := hj
      simp only [withinB, Bool.and_eq_true, decide_eq_true_eq] at hj2
      obtain ⟨k, rfl⟩ := Int.eq_ofNat_of_zero_le hj2.1
      have := hok.ml
      rw [Int.toNat_natCast]
      by_cases hs : statusP ms k = 0
      · rw [if_pos hs]
        exact .inl ⟨4, rfl, by omega⟩
      · rw [if_neg hs]
        exact .inr ⟨k, rfl, hok, by omega, hs, rfl⟩
    · rw [if_neg hj]
      exact .inl ⟨2, rfl, by omega⟩
  · rw [if_neg hn]
    exact .inl ⟨1, rfl, by omega⟩
end Go.Proofs.Ytbjinkkmakhbaaa.Print
