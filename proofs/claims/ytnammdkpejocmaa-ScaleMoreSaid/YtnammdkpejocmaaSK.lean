/- Run: what all years come to. -/
import Derived.Test.YtnammdkpejocmaaSI
namespace Go.Proofs.Ytnammdkpejocmaa.Print
open Go.RowKit Go.Shelf Go.Proofs.YtnammdkpejocmaaW.PrintWords Go.Proofs.YtnammdkpejocmaaW.PrintLast Go.Proofs.YtnammdkpejocmaaW.PrintMore
set_option linter.unusedVariables false
set_option linter.unusedSimpArgs false
attribute [local go_sem] Oper.semAt_some

abbrev actC (a : S23) : Obj := .cells #[.int .i64 a.f0, .int .i64 a.f1, .int .i64 a.f2, .int .i64 a.f3, .int .i64 a.f4, .int .i64 a.f5] 23
def RunPost (r : List S45 × Int) (w : World) (e : Ending) (w' : World) : Prop := ∃ v0_ : Value, e = .returned (.tuple #[v0_, .int .i64 r.2]) ∧ Kd.R k45 45 w' w.heap.size (fun _ => True) v0_ r.1 ∧ Below w.heap.size w w'
def runS (a : S23) (l : List S47) : List S45 × Int := if errY a l = 0 then (runP a 0 [] l, 0) else ([], errY a l)
theorem err_fine {a : S23} {l : List S47} (h : errY a l = 0) : actB a = true ∧ l.length ≤ 16 ∧ l.any badY = false := by
  unfold errY at h
  by_cases h1 : actB a = true
  · rw [if_pos h1] at h
    by_cases h2 : 16 < l.length
    · rw [if_pos h2] at h
      cases h
    · rw [if_neg h2] at h
      by_cases h3 : l.any badY = true
      · rw [if_pos h3] at h
        cases h
      · exact ⟨h1, by omega, by simpa using h3⟩
  · rw [if_neg h1] at h
    cases h
set_option maxHeartbeats 2000000 in
theorem run_err (a : S23) (A : Option Addr) (c : Nat) (l : List S47) (w : World) (hr : Kd.C k47 w A l.length l) (hc : l.length ≤ c) (he : errY a l ≠ 0) :
    Calls Try.prog 15 #[actV a, .slice A l.length c] w (RunPost ([], errY a l) w) := by
  have HR := Aside0.mk hr
  obtain ⟨er, her⟩ : ∃ er, er = errY a l := ⟨_, rfl⟩
  rw [← her] at he ⊢
  have HC : Aside0 (∀ W, Kd.C k47 W A l.length l → Calls Try.prog 32 #[actV a, .slice A l.length c] W fun e w' => e = .returned (.int .i64 er) ∧ Below W.heap.size W w') := ⟨fun W h => by rw [her]; exact error_any a A c l W h hc⟩
  have hd : (er != 0) = true := bne_iff_ne.2 he
  have hd2 : (er == 0) = false := beq_eq_false_iff_ne.2 he
  have HB0 := Aside0.mk (below_alloc (below_alloc (Below.refl w.heap.size w) (actC a)) (.cells #[.slice none 0 0] 30))
  have BO : Aside0 (((w.alloc (actC a)).alloc (.cells #[.slice none 0 0] 30)).heap[w.heap.size + 1]? = some (.cells #[.slice none 0 0] 30)) := ⟨by have := blk_new (w.alloc (actC a)) (.cells #[.slice none 0 0] 30); rwa [World.size_alloc] at this⟩
  clear hr her he
  go_enter Try.func15, Try.ntmps15
  go_wp2_with (go_at_call 32; refine (HC.out _ (Kd.C_below HR.out HB0.out)).mono ?_; rintro e W1 ⟨rfl, hb⟩; have HB1 := Aside0.mk (bl_next' HB0.out hb); have BO1 := Aside0.mk (blk_below BO.out hb); have o0 := cell_two BO1.out 0 rfl; have of := blk_frozen BO1.out 0; clear hb)
  have c0 : (W1.setCell ⟨w.heap.size + 1, 0, none⟩ (.slice none 0 0)).cell? ⟨w.heap.size + 1, 0, none⟩ = some (.slice none 0 0) := cell_two (blk_put (cs' := #[.slice none 0 0]) BO1.out 0 _ rfl) 0 rfl
  refine bodyPost_ret (v := .tuple #[.slice none 0 0, .int .i64 er]) (by simp [results, Try.results15, go_sem, c0]) rfl ⟨_, rfl, Kd.R_nil _ _ _ _ _, below_set HB1.out (by omega)⟩

theorem years_any (P : Nat) (A : Option Addr) (n c : Nat) (w : World) :
    Calls Try.prog 33 #[.pointer (some ⟨P, 0, none⟩), .slice A n c] w fun e w' => e = .returned (.func (.func 43) #[] #[.pointer (some ⟨w.heap.size, 0, none⟩), .pointer (some ⟨w.heap.size + 1, 0, none⟩)]) ∧ w' = (w.alloc (.cells #[.pointer (some ⟨P, 0, none⟩)] 64)).alloc (.cells #[.slice A n c] 29) := by
  go_enter Try.func33, Try.ntmps33
  go_wp2
  go_ret
  exact ⟨rfl, rfl⟩
/-- A row of payments keeps where blocks of its type stay. -/
theorem R45_keep {W W' : World} {base : Nat} {v : Value} {xs : List S45} (h : Kd.R k45 45 W base (fun _ => True) v xs) (hk : ∀ (g : Nat) (cs : Array Value), W.heap[g]? = some (.cells cs 45 (0, 0)) → W'.heap[g]? = some (.cells cs 45 (0, 0))) : Kd.R k45 45 W' base (fun _ => True) v xs := by
  refine Kd.R_mono (Kd.R_step (Kd.R_bound h) (fun k hk' hlt => ?_)) (fun _ _ => trivial)
  obtain ⟨_, _, _, q, hq, cells, hc⟩ := hk'
  have e : q = 45 := by
    have : q ∈ [45] := hq
    simpa using this
  subst e
  rw [hc]
  exact hk k cells hc
theorem cells_kept {W W' : World} {row : Option Nat} (hg : W.grownBy W' row) (hrow : ∀ r, row = some r → ∃ o : Obj, W.heap[r]? = some o ∧ o.isCells = false) {g : Nat} {cs : Array Value} {t : TypeId} (h : W.heap[g]? = some (.cells cs t (0, 0))) : W'.heap[g]? = some (.cells cs t (0, 0)) :=
  (grownBy_keeps_cells hg hrow h rfl).trans h
def RunI (w : World) (OB : Nat) (pre : List (Nat × S45)) (W : World) : Prop :=
  (∃ v, W.heap[OB]? = some (.cells #[v] 30 (0, 0)) ∧ Kd.R k45 45 W w.heap.size (fun _ => True) v (pre.map Prod.snd)) ∧ Below w.heap.size w W
theorem runI_own (w : World) (OB B : Nat) (hB : w.heap.size ≤ B) : OwnFrom B (RunI w OB) := by
  refine OwnFrom.and (fun s W W' row hs hg hr => ?_) (ownFrom_below (Nat.le_refl _) hB)
  obtain ⟨v, h1, h2⟩ := hs
  exact ⟨v, cells_kept hg (fun r e => (hr r e).2) h1, R45_keep h2 (fun g cs hc => cells_kept hg (fun r e => (hr r e).2) hc)⟩
theorem runI_ef {w : World} {OB P : Nat} {pre : List (Nat × S45)} {W W' : World} (h : RunI w OB pre W) (he : EfP P W W') (hP : w.heap.size ≤ P) : RunI w OB pre W' := by
  obtain ⟨⟨v, h1, h2⟩, h3⟩ := h
  obtain ⟨hg, ⟨cs, hc⟩, _⟩ := he
  refine ⟨⟨v, blk_grown h1 hg (fun e => by injection e with e; exact blk_ne h1 hc (by decide) e), R45_keep h2 (fun g cs' hg' => blk_grown hg' hg (fun e => by injection e with e; exact blk_ne hg' hc (by decide) e))⟩, h3.grown hg h3.size (fun k e => by injection e with e; omega)⟩
theorem has_own (B P : Nat) (a : S23) (s : Int × List Int) (B' : Nat) : OwnFrom B' (fun (_ : List (Nat × S45)) W => HasY B P a s W) := fun _ W W' row hs hg hr => by
  obtain ⟨A, n, c, h⟩ := hs
  exact ⟨A, n, c, { blk := cells_kept hg (fun r e => (hr r e).2) h.blk, len := h.len, cap := h.cap, arr := h.arr.kept (fun g cs hc => cells_kept hg (fun r e => (hr r e).2) hc), ge := h.ge }⟩
theorem ef_keeps {P : Nat} (A B : World) (k : Nat) (o : Obj) (h : EfP P A B) (hk : A.heap[k]? = some o) (ho : o.isCells = false) : B.heap[k]? = some o := by
  obtain ⟨hg, ⟨cs, hc⟩, _⟩ := h
  refine blk_grown hk hg (fun e => ?_)
  injection e with e
  subst e
  rw [hc] at hk
  cases hk
  cases ho
theorem kp_put {B : Nat} {w : World} (hB : B ≤ w.heap.size) (W : World) (l : Nat) (o o' : Obj) (hl : w.heap.size ≤ l) (h : W.heap[l]? = some o) (ho : o.isCells = false) : KpB B W (W.putObj l o') where
  bel := (Below.refl B W).grown (grownBy_putObj' W l o') (by have := (Array.getElem?_eq_some_iff.1 h).1; omega) (fun k e => by cases e; omega)
  typed := fun b cs t hb _ _ => by
    refine (World.putObj_heap_other (fun e => ?_)).trans hb
    subst e
    rw [hb] at h
    cases h
    cases ho

abbrev compC (a : S23) : Obj := .cells #[.int .i64 a.f0, .int .i64 a.f1, .int .i64 a.f2, .int .i64 a.f3, .int .i64 a.f4, .int .i64 a.f5, .int .i64 0, .slice none 0 0] 67
theorem below_grown0 {A B : World} (h : A.grownBy B none) : Below A.heap.size A B := (Below.refl _ _).grown h (Nat.le_refl _) (fun k e => by cases e)
/-- The company, and the iterator's captured variables, new. -/
structure Started (w V : World) (P BC BL : Nat) (a : S23) (A : Option Addr) (n c : Nat) : Prop where
  has : HasY w.heap.size P a (0, []) V
  bc : V.heap[BC]? = some (.cells #[.pointer (some ⟨P, 0, none⟩)] 64 (0, 0))
  bl : V.heap[BL]? = some (.cells #[.slice A n c] 29 (0, 0))
  bel : Below w.heap.size w V
  ge : w.heap.size ≤ P
theorem started {w W1 : World} (hb : Below w.heap.size w W1) (a : S23) (A : Option Addr) (n c : Nat) :
    Started w (((W1.alloc (compC a)).alloc (.cells #[.pointer (some ⟨W1.heap.size, 0, none⟩)] 64)).alloc (.cells #[.slice A n c] 29)) W1.heap.size (W1.heap.size + 1) (W1.heap.size + 1 + 1) a A n c where
  has := ⟨none, 0, 0, { blk := blk_alloc (blk_alloc (blk_new W1 (compC a)) _) _, len := rfl, cap := Nat.le_refl _, arr := fun h => by simp at h, ge := hb.size }⟩
  bc := by
    refine blk_alloc ?_ _
    have := blk_new (W1.alloc (compC a)) (.cells #[.pointer (some ⟨W1.heap.size, 0, none⟩)] 64)
    rwa [World.size_alloc] at this
  bl := by
    have := blk_new ((W1.alloc (compC a)).alloc (.cells #[.pointer (some ⟨W1.heap.size, 0, none⟩)] 64)) (.cells #[.slice A n c] 29)
    rwa [World.size_alloc, World.size_alloc] at this
  bel := below_alloc (below_alloc (below_alloc hb _) _) _
  ge := hb.size
theorem Started.grown {w V W : World} {P BC BL : Nat} {a : S23} {A : Option Addr} {n c : Nat} (h : Started w V P BC BL a A n c) (hg : V.grownBy W none) : Started w W P BC BL a A n c where
  has := by
    obtain ⟨A', n', c', hc⟩ := h.has
    exact ⟨A', n', c', hc.below (below_grown0 hg)⟩
  bc := blk_grown h.bc hg (by simp)
  bl := blk_grown h.bl hg (by simp)
  bel := h.bel.grown hg h.bel.size (fun k e => by cases e)
  ge := h.ge
theorem started_seq {w V W : World} {P BC BL : Nat} {a : S23} {A : Option Addr} {c : Nat} {l : List S47} (h : Started w V P BC BL a A l.length c) (hg : V.grownBy W none) (ha : actB a = true) (hl : l.any badY = false) (h16 : l.length ≤ 16) (hr : Kd.C k47 w A l.length l) (hc : l.length ≤ c) :
    SeqEf Fence.wide 7 Try.prog 43 #[.pointer (some ⟨BC, 0, none⟩), .pointer (some ⟨BL, 0, none⟩)] encY (KpB w.heap.size) (EfP P) (preY a l) (fun xs W' => xs = fullL a l ∧ HasY w.heap.size P a (endP a 0 [] l) W') (fun _ => True) W :=
  years_seq 7 a l w W P BC BL A c (by omega) ha hl h16 hr hc (h.grown hg).bel (h.grown hg).bc (h.grown hg).bl (h.grown hg).has
theorem kp_alloc {B : Nat} {W : World} (hB : B ≤ W.heap.size) (o : Obj) : KpB B W (W.alloc o) := ⟨(Below.refl _ _).alloc hB o, fun b cs t h _ _ => blk_alloc h o⟩
theorem runI_alloc {w W : World} {OB : Nat} {pre : List (Nat × S45)} (h : RunI w OB pre W) (o : Obj) : RunI w OB pre (W.alloc o) := by
  obtain ⟨⟨v, h1, h2⟩, h3⟩ := h
  exact ⟨⟨v, blk_alloc h1 o, Kd.R_alloc h2 o⟩, below_alloc h3 o⟩
theorem out_ownPostK {α : Type} {Kp : World → World → Prop} {I : List α → World → Prop} {Ix : Code → List α → World → Prop} {xs : List α} {W : World} : ¬ LetsOut (ownPostK Kp I Ix xs W) := fun ⟨_, _, h⟩ => h
theorem fullL_snd (a : S23) (l : List S47) : (fullL a l).map Prod.snd = runP a 0 [] l := by
  apply List.ext_getElem
  · rw [List.length_map, fullL_len, runP_len]
  · intro i h1 h2
    simp [fullL, rd_T45, List.getD_eq_getElem?_getD, h2]
theorem run_round {w W w2 : World} {OB : Nat} {L : List S45} {p : S45} {Av A2 : Option Addr} {cv c2 : Nat} {pre : List (Nat × S45)}
    (hv : W.heap[OB]? = some (.cells #[.slice Av L.length cv] 30 (0, 0))) (hR : Kd.R k45 45 W w.heap.size (fun _ => True) (.slice Av L.length cv) L) (hB : Below w.heap.size w W) (hg : W.grownBy w2 (Value.slice Av L.length cv).ownBlock)
    (hR2 : Kd.R k45 45 w2 w.heap.size (fun _ => True) (.slice A2 (L ++ [p]).length c2) (L ++ [p])) (hB2 : Below w.heap.size w w2) (hOB : w.heap.size ≤ OB) (hp : pre.map Prod.snd = L ++ [p]) :
    KeepsOthers W (w2.setCell ⟨OB, 0, none⟩ (.slice A2 (L ++ [p]).length c2)) ∧ KpB w.heap.size W (w2.setCell ⟨OB, 0, none⟩ (.slice A2 (L ++ [p]).length c2)) ∧ RunI w OB pre (w2.setCell ⟨OB, 0, none⟩ (.slice A2 (L ++ [p]).length c2)) := by
  have hv2 := blk_grown hv hg (Kd.R_ne hR hv (by decide))
  refine ⟨(KeepsOthers.of_grownBy hg (fun j o e ho => ?_)).trans (KeepsOthers.setCell _ _ _), ⟨?_, fun b cs t h h1 h2 => ?_⟩, ⟨_, blk_put hv2 0 _ rfl, ?_⟩, below_set hB2 hOB⟩
  · obtain ⟨cells, hc⟩ := Kd.R_typed hR j e
    rw [hc] at ho
    cases ho
    rfl
  · exact ((Below.refl w.heap.size W).grown hg hB.size (fun k e => ((Kd.R_bound hR).1 k e).2.1)).setCell hOB _
  · exact blk_set_ne' (blk_grown h hg (Kd.R_ne hR h (fun e => h2 e.symm))) (blk_ne hv2 (blk_grown h hg (Kd.R_ne hR h (fun e => h2 e.symm))) (fun e => h1 e.symm)) 0 _
  · rw [hp]
    exact Kd.R_set hR2 hv2 (by decide) 0 _
set_option maxHeartbeats 4000000 in
set_option maxRecDepth 100000 in
theorem run_main (a : S23) (A : Option Addr) (c : Nat) (l : List S47) (w : World) (hr : Kd.C k47 w A l.length l) (hc : l.length ≤ c) (he : errY a l = 0) :
    Calls Try.prog 15 #[actV a, .slice A l.length c] w (RunPost (runP a 0 [] l, 0) w) := by
  obtain ⟨ha, h16, hbad⟩ := err_fine he
  have HR := Aside0.mk hr
  have HC : Aside0 (∀ W, Kd.C k47 W A l.length l → Calls Try.prog 32 #[actV a, .slice A l.length c] W fun e w' => e = .returned (.int .i64 0) ∧ Below W.heap.size W w') := ⟨fun W h => by have := error_any a A c l W h hc; rwa [he] at this⟩
  have HB0 := Aside0.mk (below_alloc (below_alloc (Below.refl w.heap.size w) (actC a)) (.cells #[.slice none 0 0] 30))
  have BA : Aside0 (((w.alloc (actC a)).alloc (.cells #[.slice none 0 0] 30)).heap[w.heap.size]? = some (actC a)) := ⟨blk_alloc (blk_new w (actC a)) _⟩
  have BO : Aside0 (((w.alloc (actC a)).alloc (.cells #[.slice none 0 0] 30)).heap[w.heap.size + 1]? = some (.cells #[.slice none 0 0] 30)) := ⟨by have := blk_new (w.alloc (actC a)) (.cells #[.slice none 0 0] 30); rwa [World.size_alloc] at this⟩
  clear hr he
  refine (callsIn_wide (n := 8)).1 ?_
  refine callsIn_of_wp_marks Try.func15 rfl trivial ?_ rfl
  simp only [Try.ntmps15, List.size_toArray, List.length_cons, List.length_nil, Nat.reduceAdd, Nat.reduceSub, Array.replicate_succ, Array.replicate_zero, List.push_toArray, List.append_toArray, List.nil_append, List.cons_append]
  gi_wp2_with (first
    | (refine ⟨trivial, ?_⟩; gi_at_call 32; refine (callsIn_wide.2 (HC.out _ (Kd.C_below HR.out HB0.out))).mono ?_; rintro e W1 ⟨rfl, hb⟩; have HB1 := Aside0.mk (bl_next' HB0.out hb); have BA1 := Aside0.mk (blk_below BA.out hb); have BO1 := Aside0.mk (blk_below BO.out hb); have a0 : W1.cell? ⟨w.heap.size, 0, none⟩ = some (.int .i64 a.f0) := cell_two BA1.out 0 rfl; have a1 : W1.cell? ⟨w.heap.size, 1, none⟩ = some (.int .i64 a.f1) := cell_two BA1.out 1 rfl; have a2 : W1.cell? ⟨w.heap.size, 2, none⟩ = some (.int .i64 a.f2) := cell_two BA1.out 2 rfl; have a3 : W1.cell? ⟨w.heap.size, 3, none⟩ = some (.int .i64 a.f3) := cell_two BA1.out 3 rfl; have a4 : W1.cell? ⟨w.heap.size, 4, none⟩ = some (.int .i64 a.f4) := cell_two BA1.out 4 rfl; have a5 : W1.cell? ⟨w.heap.size, 5, none⟩ = some (.int .i64 a.f5) := cell_two BA1.out 5 rfl; clear hb)
    | (refine ⟨trivial, ?_⟩; gi_at_call 33; refine (callsIn_wide.2 (years_any _ _ _ _ _)).mono ?_; rintro e W2 ⟨rfl, rfl⟩))
  have HST := Aside0.mk (started HB1.out a A l.length c)
  have BOV := Aside0.mk (blk_alloc (blk_alloc (blk_alloc BO1.out (compC a)) (.cells #[.pointer (some ⟨W1.heap.size, 0, none⟩)] 64)) (.cells #[.slice A l.length c] 29))
  clear BA BO HB0 BA1 BO1 a0 a1 a2 a3 a4 a5
  generalize ((W1.alloc (.cells #[.int .i64 a.f0, .int .i64 a.f1, .int .i64 a.f2, .int .i64 a.f3, .int .i64 a.f4, .int .i64 a.f5, .int .i64 0, .slice none 0 0] 67)).alloc (.cells #[.pointer (some ⟨W1.heap.size, 0, none⟩)] 64)).alloc (.cells #[.slice A l.length c] 29) = V at HST BOV ⊢
  obtain ⟨P, hP⟩ : ∃ P, P = W1.heap.size := ⟨_, rfl⟩
  rw [← hP] at HST ⊢
  have hge := HST.out.ge
  clear hP HB1
  have hVs := HST.out.bel.size
  refine range_st rfl (by omega) (gf := 43) (lb := #[.pointer (some ⟨P + 1, 0, none⟩), .pointer (some ⟨P + 1 + 1, 0, none⟩)]) rfl trivial (enters_of Try.func43 (by kernel_rfl) rfl) (encs := encY) (Kp := KpB w.heap.size) (Ef := EfP P) (Pre := preY a l) (S := fun xs W' => xs = fullL a l ∧ HasY w.heap.size P a (endP a 0 [] l) W') (Sp := fun _ => True)
    (fun W hg => started_seq HST.out hg ha hbad h16 HR.out hc) ef_keeps (fun h k => h.trans k) (kp_put hVs) (fun _ => rfl)
    (RunI w (w.heap.size + 1)) (fun _ _ _ => False) (runI_own w _ _ hVs) (fun _ _ _ _ _ hs _ _ => hs) (fun s A B h he => runI_ef h he hge) (fun _ _ _ _ h _ => h) (OwnFrom.and (fun _ _ _ _ hs _ _ => hs) (has_own _ _ _ _ _)) ⟨⟨_, BOV.out, Kd.R_nil _ _ _ _ _⟩, HST.out.bel⟩
    (fun x a' W => ∃ Bx, W.heap[Bx]? = some (.cells #[.int .i64 x.2.f0, .int .i64 x.2.f1, .int .i64 x.2.f2, .int .i64 x.2.f3, .int .i64 x.2.f4, .int .i64 x.2.f5] 45 (0, 0)) ∧ a' = { tmps := #[actV a, .slice A l.length c, .pointer (some ⟨w.heap.size, 0, none⟩), undef, .pointer (some ⟨w.heap.size + 1, 0, none⟩), .int .i64 0, .int .i64 0, .pointer (some ⟨P, 0, none⟩), undef, .pointer (some ⟨Bx, 0, none⟩), actV a, .slice A l.length c, .int .i64 0, .int .i64 0, .bool false, undef, actV a, .agg #[.int .i64 a.f0, .int .i64 a.f1, .int .i64 a.f2, .int .i64 a.f3, .int .i64 a.f4, .int .i64 a.f5, .int .i64 0, .slice none 0 0], .pointer (some ⟨P, 0, none⟩), .pointer (some ⟨P, 0, none⟩), .slice A l.length c, .func (.func 43) #[] #[.pointer (some ⟨P + 1, 0, none⟩), .pointer (some ⟨P + 1 + 1, 0, none⟩)], .int .i64 (x.1 : Int), payV x.2, undef, undef, undef, undef, undef], defers := [] })
    (fun a' s W W' row hs hg hr => by
      obtain ⟨Bx, h1, h2⟩ := hs
      exact ⟨Bx, cells_kept hg (fun r e => (hr r e).2) h1, h2⟩) ?assign ?body ?done ?stop
  case assign =>
    intro lp pre x W K hi hK
    gi_wp2
    exact hK _ _ (KeepsOthers.alloc _ _) (kp_alloc hi.2.size _) (runI_alloc hi _) ⟨_, blk_new _ _, rfl⟩
  case body =>
    rintro lp pre x a' W ⟨⟨v, hv, hR⟩, hB⟩ ⟨Bx, hBx, rfl⟩ ⟨k, hk, rfl, rfl⟩
    have hkl : ((fullL a l).take k).length = k := by rw [List.length_take, fullL_len]; omega
    obtain ⟨Av, cv, rfl⟩ := Kd.R_slice hR
    obtain ⟨p, hp⟩ : ∃ p, p = rd_T45 (runP a 0 [] l) k := ⟨_, rfl⟩
    obtain ⟨L, hL⟩ : ∃ L, L = ((fullL a l).take k).map Prod.snd := ⟨_, rfl⟩
    have hLl : L.length = k := by rw [hL, List.length_map, hkl]
    rw [← hp] at hBx ⊢
    rw [← hL] at hR hv
    have HX : Aside0 (W.heap[Bx]? = some (.cells #[.int .i64 p.f0, .int .i64 p.f1, .int .i64 p.f2, .int .i64 p.f3, .int .i64 p.f4, .int .i64 p.f5] 45 (0, 0))) := ⟨hBx⟩
    have HV := Aside0.mk hv
    have HRo := Aside0.mk hR
    have HBo := Aside0.mk hB
    have o0 : W.cell? ⟨w.heap.size + 1, 0, none⟩ = some (.slice Av L.length cv) := cell_two hv 0 rfl
    have of := blk_frozen hv 0
    have x0 : W.cell? ⟨Bx, 0, none⟩ = some (.int .i64 p.f0) := cell_two HX.out 0 rfl
    have x1 : W.cell? ⟨Bx, 1, none⟩ = some (.int .i64 p.f1) := cell_two HX.out 1 rfl
    have x2 : W.cell? ⟨Bx, 2, none⟩ = some (.int .i64 p.f2) := cell_two HX.out 2 rfl
    have x3 : W.cell? ⟨Bx, 3, none⟩ = some (.int .i64 p.f3) := cell_two HX.out 3 rfl
    have x4 : W.cell? ⟨Bx, 4, none⟩ = some (.int .i64 p.f4) := cell_two HX.out 4 rfl
    have x5 : W.cell? ⟨Bx, 5, none⟩ = some (.int .i64 p.f5) := cell_two HX.out 5 rfl
    have HP := Aside0.mk hp
    have HLm := Aside0.mk hL
    have hln : (L.length + 1) * 48 ≤ 140737488355328 := by omega
    have HLl := Aside0.mk hLl
    clear hBx hv hR hB hp hL hLl hkl
    refine wpIn_block ?_
    refine round_list (fun ⟨_, _, h⟩ => h) (by rfl) ?_
    go_wp2_with ((with_reducible refine gate_builtin (b := .append) (xs := #[.tmp 24, .tmp 26]) rfl ?_); at_builtin; refine Kd.R_append k45 (w0 := w) w.heap.size rfl (.tmp 24) (.tmp 26) 30 45 (.agg #[(.int .i64 0), (.int .i64 0), (.int .i64 0), (.int .i64 0), (.int .i64 0), (.int .i64 0)]) 48 rfl Try.underlying30 info45 rfl (by decide) (by omega) (.slice Av L.length cv) L p [.int .i64 p.f0, .int .i64 p.f1, .int .i64 p.f2, .int .i64 p.f3, .int .i64 p.f4, .int .i64 p.f5] (fun _ => True) (fun _ => False) rfl rfl (k45_mkM _ _ _ p) (fun _ hk => hk.elim) (fun _ _ => trivial) HRo.out HBo.out HBo.out.size hln ?_; intro v2 w2 ho hb hg hat; obtain ⟨A2, c2, rfl⟩ := Kd.R_slice ho; have HO2 := Aside0.mk ho; have HB2 := Aside0.mk hb; have HG2 := Aside0.mk hg; have HV2 := Aside0.mk (blk_grown HV.out hg (Kd.R_ne HRo.out HV.out (by decide))); have o1 : w2.cell? ⟨w.heap.size + 1, 0, none⟩ = some (.slice Av L.length cv) := cell_two HV2.out 0 rfl; have of2 := blk_frozen HV2.out 0; clear ho hb hg hat o0 of x0 x1 x2 x3 x4 x5)
    have eL : ((fullL a l).take k ++ [(k, p)]).map Prod.snd = L ++ [p] := by rw [HLm.out, List.map_append]; rfl
    have hrr := run_round HV.out HRo.out HBo.out HG2.out HO2.out HB2.out (by omega) eL
    have e2 : (L ++ [p]).length = L.length + 1 := by simp
    rw [e2] at hrr
    exact hrr
  case done =>
    rintro D xs W hD ⟨rfl, hS⟩ ⟨⟨v, hv, hR⟩, hB⟩ hK
    obtain ⟨Av, cv, rfl⟩ := Kd.R_slice hR
    have HRo := Aside0.mk hR
    have HBo := Aside0.mk hB
    have HV := Aside0.mk hv
    have o0 : W.cell? ⟨w.heap.size + 1, 0, none⟩ = some (.slice Av ((fullL a l).map Prod.snd).length cv) := cell_two hv 0 rfl
    have of := blk_frozen hv 0
    have HKd := Aside0.mk hK
    clear hR hB hv hK hS
    have hn : ((fullL a l).map Prod.snd).length = (fullL a l).length := List.length_map _
    have HN := Aside0.mk hn
    clear hn
    gi_wp2
    have hK' := (KeepsOthers.setCell W ⟨w.heap.size + 1, 0, none⟩ (.slice Av (fullL a l).length cv)).same D _ HKd.out rfl
    have hv2 := blk_put (cs' := #[.slice Av (fullL a l).length cv]) HV.out 0 (.slice Av (fullL a l).length cv) rfl
    have hR2 := Kd.R_set HRo.out HV.out (by decide) 0 (.slice Av (fullL a l).length cv)
    have hB2 := below_set (g := w.heap.size + 1) (j := 0) (v := .slice Av (fullL a l).length cv) HBo.out (by omega)
    refine ⟨by simp, .inl ⟨_, _, rfl, run_takeDeferred hK', ?_⟩⟩
    have g2 := cell_two (cells_kept (grownBy_putObj' _ D (.deferred none)) (fun r e => by cases e; exact ⟨_, hK', rfl⟩) hv2) 0 rfl
    refine ⟨.tuple #[.slice Av (fullL a l).length cv, .int .i64 0], ?_, _, rfl, ?_, ?_⟩
    · simp [results, Try.f15, go_sem, g2]
    · have := R45_keep hR2 (fun g cs hc => cells_kept (grownBy_putObj' _ D (.deferred none)) (fun r e => by cases e; exact ⟨_, hK', rfl⟩) hc)
      rw [fullL_snd, show (runP a 0 [] l).length = (fullL a l).length by rw [runP_len, fullL_len]] at this
      exact this
    · exact hB2.trans (belowK_b (w := w) (Nat.le_refl _) _ D _ _ (by omega) hK' rfl rfl)
  case stop =>
    rintro D cd pre W hD _ h _
    exact h.elim
theorem Run_any (a : S23) (A : Option Addr) (c : Nat) (l : List S47) (w : World) (hr : Kd.C k47 w A l.length l) (hc : l.length ≤ c) :
    Calls Try.prog 15 #[actV a, .slice A l.length c] w (RunPost (runS a l) w) := by
  unfold runS
  by_cases he : errY a l = 0
  · rw [if_pos he]
    exact run_main a A c l w hr hc he
  · rw [if_neg he]
    exact run_err a A c l w hr hc he
end Go.Proofs.Ytnammdkpejocmaa.Print
