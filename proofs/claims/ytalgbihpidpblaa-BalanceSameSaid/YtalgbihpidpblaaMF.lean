/- BalanceSame: words for its walk. -/
import Derived.Test.YtalgbihpidpblaaMD
namespace Go.Proofs.Ytalgbihpidpblaa.Print
open Go.RowKit Go.Shelf Go.Proofs.YtalgbihpidpblaaW.PrintWords Go.Proofs.YtalgbihpidpblaaW.PrintLast Go.Proofs.YtalgbihpidpblaaW.PrintMore
set_option linter.unusedVariables false
set_option linter.unusedSimpArgs false

theorem turn_snoc (l : List S47) (t : Int) (i : Nat) (j : Nat) (h : i < l.length) (hj : ((i : Int) + t) % (l.length : Int) = (j : Int)) : (turnL l t).take i ++ [rd_T47 l j] = (turnL l t).take (i + 1) := by
  rw [List.take_succ_eq_append_getElem (by rw [turnL_len]; exact h)]
  congr 2
  rw [← rd_T45_eq (turnL l t) i (by rw [turnL_len]; exact h), turn_rd l t i h, hj]
theorem w64 {n : Int} (h0 : -9223372036854775808 ≤ n) (h1 : n ≤ 9223372036854775807) : wrap64 n = n := by
  unfold wrap64
  omega
theorem M_of_K47 {w W : World} {ok : Nat → Prop} {base : Nat} (x : S47) (cs : List Value) (h : k47.K w x cs) : k47.M W base ok x cs := by
  obtain rfl := k47_open h
  exact k47_mkM _ _ _ x
theorem reps47_one (w : World) (base : Nat) (ok : Nat → Prop) (x : S47) : Reps (k47.M w base ok) k47.sz [x] [.int .i64 x.f0, .int .i64 x.f1, .int .i64 x.f2.f0, .int .i64 x.f2.f1] := by
  refine ⟨rfl, fun j p hj => ?_⟩
  obtain ⟨hl, hp⟩ := List.getElem?_eq_some_iff.1 hj
  obtain rfl : j = 0 := by simpa using hl
  simp only [List.getElem_cons_zero] at hp
  subst hp
  exact k47_mkM _ _ _ _
theorem new_lt {W0 W1 : World} {v : Value} {xs : List S47} {ok : Nat → Prop} (h : Kd.R k47 47 W1 W0.heap.size ok v xs) (hat : ∃ b, v.ownBlock = some b ∧ W0.heap.size ≤ b) : W1.heap.size ≠ W0.heap.size := by
  obtain ⟨b, hb, hl⟩ := hat
  have := Kd.R_lt h b hb
  omega
def SameLoop (w wr : World) (TB MB : Nat) (pl : Int) (A : Option Addr) (c : Nat) (l : List S47) (K : List S45) (kv : Value) (wl : List Int) (wv : Value) (t : Int) (iv : Value) : Prop :=
  ∃ (i : Nat) (tv : Value), iv = .int .i64 (i : Int) ∧ i ≤ l.length ∧ Aside0 (SameAt w wr w.heap.size TB MB pl A c l K kv wl wv ((turnL l t).take i) tv (.slice A l.length c))
theorem same_next {w W7 : World} {TB MB : Nat} {pl : Int} {A : Option Addr} {c : Nat} {l : List S47} {K : List S45} {kv : Value} {wl : List Int} {wv : Value} {t : Int} {i j : Nat} {T : List S47} {v : Value}
    (hT : T = (turnL l t).take i) (hl : T.length = i) (h : i < l.length) (hj : ((i : Int) + t) % (l.length : Int) = (j : Int)) (H : SameAt w W7 w.heap.size TB MB pl A c l K kv wl wv (T ++ [rd_T47 l j]) v (.slice A l.length c)) :
    SameLoop w W7 TB MB pl A c l K kv wl wv t (.int .i64 ((i : Int) + 1)) :=
  ⟨i + 1, v, by go_num, h, ⟨by rw [← turn_snoc l t i j h hj, ← hT]; exact H⟩⟩


theorem ints_go (a b : List Int) (hl : a.length = b.length) (hm : a.length ≤ 1000000) : ∀ (d i : Nat), i + d = a.length → Ev (fun k => gasworksref04_Ints.l0 k a b i) (decide (a.drop i = b.drop i))
  | 0, i, h => by
    refine Ev.step (f := fun _ => some true) (fun k => ?_) ?_
    · simp only [gasworksref04_Ints.l0]
      rw [if_neg (by omega)]
    · rw [List.drop_of_length_le (by omega), List.drop_of_length_le (by omega)]
      exact Ev.now _
  | d + 1, i, h => by
    have e1 : a.drop i = rd a i :: a.drop (i + 1) := by rw [List.drop_eq_getElem_cons (by omega), rd_at _ _ (by omega)]
    have e2 : b.drop i = rd b i :: b.drop (i + 1) := by rw [List.drop_eq_getElem_cons (by omega), rd_at _ _ (by omega)]
    have ew : wrap64 ((i : Int) + 1) = ((i + 1 : Nat) : Int) := by rw [w64 (by omega) (by omega)]; omega
    by_cases hq : rd a i = rd b i
    · refine Ev.step (f := fun k => gasworksref04_Ints.l0 k a b (i + 1 : Nat)) (fun k => ?_) ?_
      · simp only [gasworksref04_Ints.l0]
        rw [if_pos (by omega), if_pos (by omega), if_pos (by omega), if_pos hq, ew]
      · have := ints_go a b hl hm d (i + 1) (by omega)
        rw [e1, e2]
        simpa [hq] using this
    · refine Ev.step (f := fun _ => some false) (fun k => ?_) ?_
      · simp only [gasworksref04_Ints.l0]
        rw [if_pos (by omega), if_pos (by omega), if_pos (by omega), if_neg hq]
      · rw [e1, e2]
        simp only [List.cons.injEq, hq, false_and, decide_false]
        exact Ev.now _
theorem ints_ev (a b : List Int) (hm : a.length ≤ 1000000) : Ev (fun k => gasworksref04_Ints.f k a b) (decide (a = b)) := by
  unfold gasworksref04_Ints.f
  by_cases hl : a.length = b.length
  · have := ints_go a b hl hm a.length 0 (by omega)
    refine Ev.congr (fun k => ?_) this
    rw [if_pos (by omega)]
    rfl
  · have : decide (a = b) = false := decide_eq_false (fun e => hl (by rw [e]))
    rw [this]
    refine Ev.congr (fun k => ?_) (Ev.now _)
    rw [if_neg (by omega)]

theorem spans_go (a : List S45) (hm : a.length ≤ 1000000) : ∀ (d i : Nat), i + d = a.length → Ev (fun k => gasworksref04_Spans.l0 k a a i) true
  | 0, i, h => by
    refine Ev.step (f := fun _ => some true) (fun k => ?_) (Ev.now _)
    simp only [gasworksref04_Spans.l0]
    rw [if_neg (by omega)]
  | d + 1, i, h => by
    have ew : wrap64 ((i : Int) + 1) = ((i + 1 : Nat) : Int) := by rw [w64 (by omega) (by omega)]; omega
    refine Ev.step (f := fun k => gasworksref04_Spans.l0 k a a (i + 1 : Nat)) (fun k => ?_) (spans_go a hm d (i + 1) (by omega))
    simp only [gasworksref04_Spans.l0]
    rw [if_pos (by omega), if_pos (by omega), if_pos (by omega), if_neg (by simp), ew]
theorem spans_ev (a : List S45) (hm : a.length ≤ 1000000) : Ev (fun k => gasworksref04_Spans.f k a a) true := by
  unfold gasworksref04_Spans.f
  refine Ev.congr (fun k => ?_) (spans_go a hm a.length 0 (by omega))
  rw [if_pos rfl]
  rfl

/-! ### Which plants are too large -/
theorem same_more {w W W4 : World} {PB TB MB : Nat} {pl : Int} {A : Option Addr} {c : Nat} {l : List S47} {K : List S45} {kv : Value} {wl : List Int} {wv : Value} {T L : List S47} {tv mv v : Value} (h : SameAt w W PB TB MB pl A c l K kv wl wv T tv mv)
    (hb : Below W.heap.size W W4) (hR : Kd.R k47 47 W4 W.heap.size (fun _ => True) v L) (cc0 : Kd.C k47 w A l.length l) :
    SameAt w (W4.setCell ⟨MB, 1, none⟩ v) PB TB MB pl A c l K kv wl wv T tv v ∧ Kd.R k47 47 (W4.setCell ⟨MB, 1, none⟩ v) w.heap.size (fun _ => True) v L := by
  have h4 := same_below h hb
  exact ⟨{
    bp := blk_set_ne h4.bp h4.pm 1 _
    bt := blk_set_ne h4.bt h4.tm.symm 1 _
    bm := blk_put h4.bm 1 v rfl
    pt := h4.pt
    pm := h4.pm
    tm := h4.tm
    gt := h4.gt
    gm := h4.gm
    kk := Kd.R_set h4.kk h4.bm (by decide) 1 _
    kw := Kd.R_set h4.kw h4.bm (by decide) 1 _
    kt := Kd.R_set h4.kt h4.bm (by decide) 1 _
    cc := Kd.C_below cc0 ((bl_next h.bel hb).setCell h4.gm _)
    bel := h4.bel.setCell h4.gm _ }, Kd.R_set (Kd.R_lower hR h.bel.size) h4.bm (by decide) 1 _⟩
theorem C_of_R {α : Type} {d : Kd α} {e base n c : Nat} {w : World} {ok : Nat → Prop} {A : Option Addr} {xs : List α} (h : d.R e w base ok (.slice A n c) xs) (hn : xs.length = n) : d.C w A n xs := by
  have := (Kd.R_reads' h).2.2
  rwa [hn] at this
theorem tight_len {pl : Int} {A : Option Addr} {c : Nat} {l : List S47} {r : List S45} {er : Int} {n m : Nat} {W : World} (h : tightS pl l = (r, er)) (hn : l.length = n) (hm : r.length = m) (hC : Kd.C k47 W A n l) (hc : n ≤ c) :
    Calls Try.prog 13 #[.agg #[.int .i64 pl, .slice A n c]] W (fun e W' => ∃ A' c', e = .returned (.tuple #[.slice A' m c', .int .i64 er]) ∧ Kd.R k45 45 W' W.heap.size (fun _ => True) (.slice A' m c') r ∧ m ≤ c' ∧ Below W.heap.size W W') := by
  subst hn
  subst hm
  refine (tight_call h hC hc).mono ?_
  rintro e W' ⟨v, rfl, hR, hb⟩
  obtain ⟨A', c', rfl⟩ := Kd.R_slice hR
  exact ⟨A', c', rfl, hR, (Kd.R_reads' hR).2.1, hb⟩
theorem wrong_len {pl : Int} {A : Option Addr} {c : Nat} {l : List S47} {r : List Int} {er : Int} {n m : Nat} {W : World} (h : wrongS pl l = (r, er)) (hn : l.length = n) (hm : r.length = m) (hC : Kd.C k47 W A n l) (hc : n ≤ c) :
    Calls Try.prog 19 #[.agg #[.int .i64 pl, .slice A n c]] W (fun e W' => ∃ A' c', e = .returned (.tuple #[.slice A' m c', .int .i64 er]) ∧ Kd.R (Kd.int .i64) 3 W' W.heap.size (fun _ => True) (.slice A' m c') r ∧ m ≤ c' ∧ Below W.heap.size W W') := by
  subst hn
  subst hm
  refine (wrong_call h hC hc).mono ?_
  rintro e W' ⟨v, rfl, hR, hb⟩
  obtain ⟨A', c', rfl⟩ := Kd.R_slice hR
  exact ⟨A', c', rfl, hR, (Kd.R_reads' hR).2.1, hb⟩
theorem ints_len {a : List Int} {A B : Option Addr} {c d n : Nat} {w : World} (hn : a.length = n) (hm : n ≤ 1000000) (hr : Kd.C (Kd.int .i64) w A n a) (hc : n ≤ c) (hs : Kd.C (Kd.int .i64) w B n a) (hd : n ≤ d) :
    Calls Try.prog 15 #[.slice A n c, .slice B n d] w fun e w' => e = .returned (.bool true) ∧ Below w.heap.size w w' := by
  subst hn
  obtain ⟨k, hk⟩ := ints_ev a a hm
  have := hk k (Nat.le_refl _)
  rw [decide_eq_true rfl] at this
  exact (gasworksref04_Ints.calls k A c a B d a true w hr hc hs hd this).mono fun _ _ h => ⟨h.1, drawn_below h.2⟩
theorem spans_len {a : List S45} {A B : Option Addr} {c d n : Nat} {w : World} (hn : a.length = n) (hm : n ≤ 1000000) (hr : Kd.C k45 w A n a) (hc : n ≤ c) (hs : Kd.C k45 w B n a) (hd : n ≤ d) :
    Calls Try.prog 16 #[.slice A n c, .slice B n d] w fun e w' => e = .returned (.bool true) ∧ Below w.heap.size w w' := by
  subst hn
  obtain ⟨k, hk⟩ := spans_ev a hm
  have := hk k (Nat.le_refl _)
  exact (gasworksref04_Spans.calls k A c a B d a true w hr hc hs hd this).mono fun _ _ h => ⟨h.1, drawn_below h.2⟩
end Go.Proofs.Ytalgbihpidpblaa.Print
