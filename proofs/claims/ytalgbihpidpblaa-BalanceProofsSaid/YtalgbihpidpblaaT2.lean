/- The document's Truth. -/
import Derived.Test.YtalgbihpidpblaaT1
namespace Go.Proofs.Ytalgbihpidpblaa.Print
open Go.RowKit Go.Shelf Go.Proofs.YtalgbihpidpblaaW.PrintWords Go.Proofs.YtalgbihpidpblaaW.PrintLast Go.Proofs.YtalgbihpidpblaaW.PrintMore
set_option linter.unusedVariables false
set_option linter.unusedSimpArgs false

def truRef (pl : Int) (l : List S47) : List Int × Int := if isPlantB pl l = true then (match truFrom l l [] with | [] => ([], 6) | t :: _ => (t, 0)) else ([], 1)
theorem plant_call2 {pl : Int} {A : Option Addr} {c : Nat} {l : List S47} {r : Bool} {w : World} (h : isPlantB pl l = r) (hr : Kd.C k47 w A l.length l) (hc : l.length ≤ c) :
    Calls Try.prog 23 #[.agg #[.int .i64 pl, .slice A l.length c]] w fun e w' => e = .returned (.bool r) ∧ Below w.heap.size w w' := by subst h; exact Plant_any _ _ _ _ _ hr hc
theorem truths_top (pl : Int) (A : Option Addr) (c : Nat) (l : List S47) (hp : isPlantB pl l = true) (w W : World) (hr : Kd.C k47 w A l.length l) (hc : l.length ≤ c) (hB : Below w.heap.size w W) (hcap : cnt l ≤ 1099511627776) :
    Calls Try.prog 30 #[.agg #[.int .i64 pl, .slice A l.length c], .slice none 0 0, .slice none 0 0] W (TruPost w W (fun _ => True) (.slice none 0 0) (truFrom l l [])) := by
  have := truths_any pl A c l hp w hr hc l.length [] (by simp) W (fun _ => True) (fun _ => False) none none 0 0 [] hB (Kd.R_nil _ _ _ _ _) (fun _ h => h.elim) (Kd.R_nil _ _ _ _ _) (fun _ _ => trivial) (by simpa using hcap)
  simpa using this

set_option maxHeartbeats 4000000 in
set_option maxRecDepth 100000 in
theorem Truth_any (pl : Int) (A : Option Addr) (c : Nat) (l : List S47) (w : World) (hr : Kd.C k47 w A l.length l) (hc : l.length ≤ c) (hcap : isPlantB pl l = true → cnt l ≤ 1099511627776) :
    Calls Try.prog 12 #[.agg #[.int .i64 pl, .slice A l.length c]] w (WhyPost (truRef pl l) w) := by
  have HR := Aside0.mk hr
  have HC := Aside0.mk hcap
  clear hr hcap
  unfold truRef
  cases hp : isPlantB pl l with
  | false =>
    rw [if_neg (by decide)]
    have HP := Aside0.mk hp
    clear hp
    go_enter Try.func12, Try.ntmps12
    go_wp2_with (go_at_call 23; refine (plant_call2 HP.out (Kd.C_below HR.out (below_alloc (Below.refl _ _) _)) hc).mono ?_; rintro e W1 ⟨rfl, hb⟩; have HB1 := Aside0.mk (bl_next (below_alloc (Below.refl w.heap.size w) _) hb); clear hb)
    go_ret2
    exact ⟨_, rfl, Kd.R_nil _ _ _ _ _, HB1.out⟩
  | true =>
    rw [if_pos rfl]
    have hC := HC.out hp
    have HP := Aside0.mk hp
    clear hp
    cases hT : truFrom l l [] with
    | nil =>
      have HT := Aside0.mk hT
      clear hT
      go_enter Try.func12, Try.ntmps12
      go_wp2_with (first
        | (go_at_call 23; refine (plant_call2 HP.out (Kd.C_below HR.out (below_alloc (Below.refl _ _) _)) hc).mono ?_; rintro e W1 ⟨rfl, hb⟩; have HB1 := Aside0.mk (bl_next (below_alloc (Below.refl w.heap.size w) _) hb); have BP1 := Aside0.mk (blk_below (blk_new w (.cells #[.int .i64 pl, .slice A l.length c] 24)) hb); have s0 := cell_two BP1.out 0 rfl; have s1 := cell_two BP1.out 1 rfl; clear hb)
        | (go_at_call 30; refine (truths_top pl A c l HP.out w _ HR.out hc HB1.out hC).mono ?_; rintro e W2 ⟨v, rfl, hR, hb, _, _⟩; rw [HT.out] at hR; obtain ⟨A2, c2, rfl⟩ := Kd.R_slice hR; have HB2 := Aside0.mk hb; clear hR hb s0 s1))
      go_ret2
      exact ⟨_, rfl, Kd.R_nil _ _ _ _ _, HB2.out⟩
    | cons t r =>
      have HT := Aside0.mk hT
      clear hT
      go_enter Try.func12, Try.ntmps12
      go_wp2_with (first
        | (go_at_call 23; refine (plant_call2 HP.out (Kd.C_below HR.out (below_alloc (Below.refl _ _) _)) hc).mono ?_; rintro e W1 ⟨rfl, hb⟩; have HB1 := Aside0.mk (bl_next (below_alloc (Below.refl w.heap.size w) _) hb); have BP1 := Aside0.mk (blk_below (blk_new w (.cells #[.int .i64 pl, .slice A l.length c] 24)) hb); have s0 := cell_two BP1.out 0 rfl; have s1 := cell_two BP1.out 1 rfl; clear hb)
        | (go_at_call 30; refine (truths_top pl A c l HP.out w _ HR.out hc HB1.out hC).mono ?_; rintro e W2 ⟨v, rfl, hR, hb, _, _⟩; rw [HT.out] at hR; obtain ⟨gv, cv, rfl, hge, hgl, _⟩ := Kd.R_form hR (by simp); obtain ⟨ce, _, ⟨ve, hce, hve⟩, hcell, _⟩ := Kd.R_elem hR ([] : List Int) 0 (by decide) (by simp); subst hce; obtain ⟨At, ct, hva⟩ := Kd.R_slice hve; subst hva; have t0 : W2.cell? ⟨gv, 0, none⟩ = some (.slice At t.length ct) := hcell 0 _ rfl; have HV : Aside0 ((Kd.int .i64).R 3 W2 w.heap.size (fun _ => True) (.slice At t.length ct) t) := ⟨Kd.R_mono hve (fun _ _ => trivial)⟩; have HB2 := Aside0.mk hb; clear hR hb s0 s1 hve hcell))
      go_ret2
      exact ⟨_, rfl, HV.out, HB2.out⟩

def gasworksref04_Truth.f (a0_0 : Int) (l0_1 : List (S47)) : Option (List Int × Int) := if isPlantB a0_0 l0_1 = true ∧ 1099511627776 < cnt l0_1 then none else some (truRef a0_0 l0_1)
theorem gasworksref04_Truth.calls (a0_0 : Int) (A0_1 : Option Addr) (c0_1 : Nat) (l0_1 : List (S47)) (r1 : List Int) (r2 : Int) (w : World) (hr0_1 : Kd.C k47 w A0_1 l0_1.length l0_1) (hc0_1 : l0_1.length ≤ c0_1) (h : gasworksref04_Truth.f a0_0 l0_1 = some (r1, r2)) :
    Calls Try.prog 12 #[.agg #[.int .i64 a0_0, .slice A0_1 l0_1.length c0_1]] w fun e w' => ∃ v0_ : Value, e = .returned (.tuple #[v0_, .int .i64 r2]) ∧ Kd.R (Kd.int .i64) 3 w' w.heap.size (fun _ => True) v0_ r1 ∧ Below w.heap.size w w' := by
  unfold gasworksref04_Truth.f at h
  split at h
  · cases h
  · rename_i hn
    have e : truRef a0_0 l0_1 = (r1, r2) := by simpa using h
    have := Truth_any a0_0 A0_1 c0_1 l0_1 w hr0_1 hc0_1 (fun hp => by
      rcases Nat.lt_or_ge 1099511627776 (cnt l0_1) with h1 | h1
      · exact absurd ⟨hp, h1⟩ hn
      · exact h1)
    rw [e] at this
    exact this
end Go.Proofs.Ytalgbihpidpblaa.Print

namespace Go.Proofs.Ytalgbihpidpblaa.Print
open Go.RowKit Go.Shelf Go.Proofs.YtalgbihpidpblaaW.PrintWords Go.Proofs.YtalgbihpidpblaaW.PrintLast Go.Proofs.YtalgbihpidpblaaW.PrintMore
attribute [local go_sem] max2_int min2_int max_two min_two
set_option linter.unusedVariables false
set_option linter.unusedSimpArgs false

theorem tru_len (l : List S47) : ∀ (r : List S47) (b : List Int), ∀ t ∈ truFrom l r b, t.length = l.length
  | [], b, t, h => by
    unfold truFrom at h
    split at h
    · rename_i hI
      obtain rfl : t = b := by simpa using h
      unfold isB at hI
      rw [Bool.and_eq_true] at hI
      exact inG_length l t ((inGb_iff l t).1 hI.1)
    · cases h
  | x :: r, b, t, h => by
    unfold truFrom at h
    obtain ⟨g, _, hg⟩ := List.mem_flatMap.1 h
    exact tru_len l r (b ++ [g]) t hg

def colStep (i : Int) (st : Int × Int) (t : List Int) : Int × Int := (min st.1 (rd t i), max st.2 (rd t i))
def colUp (i : Int) (t0 : List Int) (ls : List (List Int)) : Int × Int := ls.foldl (colStep i) (rd t0 i, rd t0 i)
theorem colUp_snoc (i : Int) (t0 : List Int) (ls : List (List Int)) (t : List Int) : colUp i t0 (ls ++ [t]) = colStep i (colUp i t0 ls) t := by simp [colUp]
def colAt (t0 : List Int) (ls : List (List Int)) (i : Nat) : S45 := ⟨(colUp i t0 ls).1, (colUp i t0 ls).2⟩
def tightRef (pl : Int) (l : List S47) : List S45 × Int :=
  if isPlantB pl l = true then (match truFrom l l [] with | [] => ([], 6) | t :: r => ((List.range l.length).map (colAt t (t :: r)), 0)) else ([], 1)

set_option maxHeartbeats 4000000 in
set_option maxRecDepth 100000 in
theorem Tight_early (pl : Int) (A : Option Addr) (c : Nat) (l : List S47) (w : World) (hr : Kd.C k47 w A l.length l) (hc : l.length ≤ c) (hcap : isPlantB pl l = true → cnt l ≤ 1099511627776) (he : isPlantB pl l = false ∨ truFrom l l [] = []) :
    Calls Try.prog 14 #[.agg #[.int .i64 pl, .slice A l.length c]] w (TightPost (tightRef pl l) w) := by
  have HR := Aside0.mk hr
  have HC := Aside0.mk hcap
  clear hr hcap
  unfold tightRef
  cases hp : isPlantB pl l with
  | false =>
    rw [if_neg (by decide)]
    have HP := Aside0.mk hp
    clear hp he
    go_enter Try.func14, Try.ntmps14
    go_wp2_with (go_at_call 23; refine (plant_call2 HP.out (Kd.C_below HR.out (below_alloc (Below.refl _ _) _)) hc).mono ?_; rintro e W1 ⟨rfl, hb⟩; have HB1 := Aside0.mk (bl_next (below_alloc (Below.refl w.heap.size w) _) hb); clear hb)
    go_ret2
    exact ⟨_, rfl, Kd.R_nil _ _ _ _ _, HB1.out⟩
  | true =>
    rw [if_pos rfl]
    have hC := HC.out hp
    have hT : truFrom l l [] = [] := by rcases he with h | h; (rw [hp] at h; cases h); exact h
    rw [hT]
    have HP := Aside0.mk hp
    have HT := Aside0.mk hT
    clear hp he hT
    go_enter Try.func14, Try.ntmps14
    go_wp2_with (first
      | (go_at_call 23; refine (plant_call2 HP.out (Kd.C_below HR.out (below_alloc (Below.refl _ _) _)) hc).mono ?_; rintro e W1 ⟨rfl, hb⟩; have HB1 := Aside0.mk (bl_next (below_alloc (Below.refl w.heap.size w) _) hb); have BP1 := Aside0.mk (blk_below (blk_new w (.cells #[.int .i64 pl, .slice A l.length c] 24)) hb); have s0 := cell_two BP1.out 0 rfl; have s1 := cell_two BP1.out 1 rfl; clear hb)
      | (go_at_call 30; refine (truths_top pl A c l HP.out w _ HR.out hc HB1.out hC).mono ?_; rintro e W2 ⟨v, rfl, hR, hb, _, _⟩; rw [HT.out] at hR; obtain ⟨A2, c2, rfl⟩ := Kd.R_slice hR; have HB2 := Aside0.mk hb; clear hR hb s0 s1))
    go_ret2
    exact ⟨_, rfl, Kd.R_nil _ _ _ _ _, HB2.out⟩
end Go.Proofs.Ytalgbihpidpblaa.Print

namespace Go.Proofs.Ytalgbihpidpblaa.Print
open Go.RowKit Go.Shelf Go.Proofs.YtalgbihpidpblaaW.PrintWords Go.Proofs.YtalgbihpidpblaaW.PrintLast Go.Proofs.YtalgbihpidpblaaW.PrintMore
attribute [local go_sem] max2_int min2_int max_two min_two
set_option linter.unusedVariables false
set_option linter.unusedSimpArgs false

def rdL (ls : List (List Int)) (k : Int) : List Int := ls.getD k.toNat []
theorem at_LI {w : World} {A : Option Addr} {n : Nat} {xs : List (List Int)} (h : Kd.C kLI w A n xs) (i : Int) (h0 : 0 ≤ i) (h1 : i < n) : ∃ ad A0 c0, A = some ad ∧ w.cell? (ad.add i.toNat) = some (.slice A0 (rdL xs i).length c0) ∧ (rdL xs i).length ≤ c0 ∧ Kd.C (Kd.int .i64) w A0 (rdL xs i).length (rdL xs i) := by
  obtain ⟨ad, c, e, _, hK, hc0⟩ := Kd.C_get h ([] : List Int) i h0 h1
  have hc : ∀ j u, c[j]? = some u → w.cell? (ad.add (i.toNat * 1 + j)) = some u := hc0
  obtain ⟨A0, c0, rfl, l0, g0⟩ := hK
  exact ⟨ad, A0, c0, e, by have hq := hc 0 _ rfl; rwa [Nat.mul_one, Nat.add_zero] at hq, l0, g0⟩

def mnI (a b : Int) : Int := if a < b then a else b
def mxI (a b : Int) : Int := if a < b then b else a
theorem col_take (i : Nat) (t0 : List Int) (ls : List (List Int)) (k : Nat) (h : k < ls.length) : colUp i t0 (ls.take (k + 1)) = (mnI (rd (rdL ls k) i) (colUp i t0 (ls.take k)).1, mxI (colUp i t0 (ls.take k)).2 (rd (rdL ls k) i)) := by
  have e : rdL ls k = ls[k] := by simp [rdL, List.getD_eq_getElem?_getD, h]
  rw [List.take_succ_eq_append_getElem h, colUp_snoc, e]
  unfold colStep mnI mxI
  congr 1
  · rw [Int.min_def]; split <;> split <;> omega
  · rw [Int.max_def]; split <;> split <;> omega

set_option maxHeartbeats 4000000 in
set_option maxRecDepth 100000 in
theorem Tight_main (pl : Int) (A : Option Addr) (c : Nat) (l : List S47) (w : World) (hr : Kd.C k47 w A l.length l) (hc : l.length ≤ c) (hp : isPlantB pl l = true) (hcap : cnt l ≤ 1099511627776) (ls : List (List Int)) (hT : truFrom l l [] = ls) (h0 : 0 < ls.length) :
    Calls Try.prog 14 #[.agg #[.int .i64 pl, .slice A l.length c]] w (TightPost ((List.range l.length).map (colAt (rdL ls 0) ls), 0) w) := by
  have HR := Aside0.mk hr
  have HP := Aside0.mk hp
  have HT := Aside0.mk hT
  have hlen : ∀ k : Int, 0 ≤ k → k < ls.length → (rdL ls k).length = l.length := fun k k0 k1 => by
    obtain ⟨n, rfl⟩ := Int.eq_ofNat_of_zero_le k0
    have hn : n < ls.length := by omega
    have e : rdL ls n = ls[n] := by simp [rdL, List.getD_eq_getElem?_getD, hn]
    rw [e]
    exact tru_len l l [] _ (by rw [hT]; exact List.getElem_mem hn)
  have HLEN := Aside0.mk hlen
  have h16 := (plant_of pl l hp).2.2.1
  have hcl : ls.length ≤ 1099511627776 := by rw [← hT]; exact Nat.le_trans (truFrom_len l l []) hcap
  have hz : ((ls.length : Int) == 0) = false := by rw [beq_eq_false_iff_ne]; omega
  have h0' : (0 : Int) < (ls.length : Int) := by omega
  clear hr hp hT hlen
  go_enter Try.func14, Try.ntmps14
  go_wp2_with (first
    | (go_at_call 23; refine (plant_call2 HP.out (Kd.C_below HR.out (below_alloc (Below.refl _ _) _)) hc).mono ?_; rintro e W1 ⟨rfl, hb⟩; have HB1 := Aside0.mk (bl_next (below_alloc (Below.refl w.heap.size w) _) hb); have BP1 := Aside0.mk (blk_below (blk_new w (.cells #[.int .i64 pl, .slice A l.length c] 24)) hb); have s0 := cell_two BP1.out 0 rfl; have s1 := cell_two BP1.out 1 rfl; clear hb)
    | (go_at_call 30; refine (truths_top pl A c l HP.out w _ HR.out hc HB1.out hcap).mono ?_; rintro e W2 ⟨v, rfl, hR, hb, hg, _⟩; rw [HT.out] at hR; have BP2 := Aside0.mk (blk_grown BP1.out hg (by simp [Value.ownBlock])); obtain ⟨A2, c2, rfl⟩ := Kd.R_slice hR; have HV := Aside0.mk (Kd.R_reads' hR).2.2; have HB2 := Aside0.mk hb; clear hR hb hg s0 s1; have s0 := cell_two BP2.out 0 rfl; have s1 := cell_two BP2.out 1 rfl))
  obtain ⟨adL, A0, c0, eA, f0, _, C0⟩ := at_LI HV.out 0 (by decide) h0'
  subst eA
  have e0 := HLEN.out 0 (by decide) h0'
  have HC0 := Aside0.mk C0
  clear C0 s0 s1
  go_loopw [5, 6] (fun o iv wr => ∃ (i : Nat) (Oc : Option Addr) (cc : Nat) (cur : List S45), iv = .int .i64 (i : Int) ∧ o = .slice Oc cur.length cc ∧ i ≤ l.length ∧ Aside0 (cur = (List.range i).map (colAt (rdL ls 0) ls)) ∧
    Aside0 (Kd.R k45 45 wr W2.heap.size (fun _ => True) (.slice Oc cur.length cc) cur) ∧ Aside0 (Below W2.heap.size W2 wr)) (fun _ iv _ => l.length - (intOf iv).toNat)
  case atStart => exact ⟨0, none, 0, [], rfl, rfl, by omega, ⟨rfl⟩, ⟨Kd.R_nil _ _ _ _ _⟩, ⟨Below.refl _ _⟩⟩
  case round =>
    obtain ⟨i, Oc, cc, cur, rfl, rfl, hi, HCUR, HO, HB⟩ := hrel
    have BPr := Aside0.mk (blk_below BP2.out HB.out)
    have HCURL : Aside0 (cur.length ≤ 16) := ⟨by rw [HCUR.out]; simp; omega⟩
    have s0 := cell_two BPr.out 0 rfl
    have s1 := cell_two BPr.out 1 rfl
    by_cases hlt : i < l.length
    · have hlt' : decide ((i : Int) < (l.length : Int)) = true := decide_eq_true (by omega)
      have hi0 : (0 : Int) ≤ (i : Int) := by omega
      have hi1 : (i : Int) < ((rdL ls 0).length : Int) := by omega
      have f0r := (HB.out.cell (World.block_lt_of_cell? _ _ f0)).trans f0
      obtain ⟨ad3, e3, g3⟩ := Kd.at_int (Kd.C_below HC0.out HB.out) i hi0 hi1
      have ez : adL.add (0 : Int).toNat = adL := by cases adL with | mk b o s => unfold Addr.add; cases s <;> simp
      rw [ez] at f0r
      have hb1 := World.block_lt_of_cell? _ _ f0r
      have hb3 := World.block_lt_of_cell? _ _ g3
      cases e3
      simp only [Int.toNat_natCast, Int.toNat_zero] at f0r g3 hb1 hb3
      go_wp2_with (fail)
      go_big_region
      go_wp2_with (fail)
      have Y7 := Aside0.mk (blk_drew (blk_new wr (.cells #[.int .i64 (rd (rdL ls 0) i), .int .i64 (rd (rdL ls 0) i)] 45)))
      have YB := Aside0.mk (below_alloc HB.out (.cells #[.int .i64 (rd (rdL ls 0) i), .int .i64 (rd (rdL ls 0) i)] 45)).drew
      have YO := Aside0.mk (Kd.R_drew (Kd.R_alloc (Kd.R_elderB HO.out wr.heap.size (Nat.le_refl _)) (.cells #[.int .i64 (rd (rdL ls 0) i), .int .i64 (rd (rdL ls 0) i)] 45)))
      have g7W : W2.heap.size ≤ wr.heap.size := HB.out.size
      clear s0 s1 f0r g3 hb1 hb3 HO HB BPr
      generalize (wr.alloc (.cells #[.int .i64 (rd (rdL ls 0) i), .int .i64 (rd (rdL ls 0) i)] 45)).drew = W3 at *
      generalize wr.heap.size = g7 at *
      go_loopw [8] (fun kv wq => ∃ k : Nat, kv = .int .i64 (k : Int) ∧ k ≤ ls.length ∧ Aside0 (wq.heap[g7]? = some (.cells #[.int .i64 (colUp i (rdL ls 0) (ls.take k)).1, .int .i64 (colUp i (rdL ls 0) (ls.take k)).2] 45 (0, 0))) ∧
        Aside0 (Below W2.heap.size W2 wq) ∧ Aside0 (Kd.R k45 45 wq W2.heap.size (fun q => True ∧ q ≠ g7) (.slice Oc cur.length cc) cur)) (fun kv _ => ls.length - (intOf kv).toNat)
      case atStart => exact ⟨0, rfl, by omega, Y7, YB, YO⟩
      case round =>
        obtain ⟨k, rfl, hk, H7, HB, HO⟩ := hrel
        have z0 : wr.cell? ⟨g7, 0, none⟩ = some (.int .i64 (colUp i (rdL ls 0) (ls.take k)).1) := cell_two H7.out 0 rfl
        have z1 : wr.cell? ⟨g7, 1, none⟩ = some (.int .i64 (colUp i (rdL ls 0) (ls.take k)).2) := cell_two H7.out 1 rfl
        have zf0 := blk_frozen H7.out 0
        have zf1 := blk_frozen H7.out 1
        by_cases hkl : k < ls.length
        · have hkl' : decide ((k : Int) < (ls.length : Int)) = true := decide_eq_true (by omega)
          have hk0 : (0 : Int) ≤ (k : Int) := by omega
          have hk1 : (k : Int) < (ls.length : Int) := by omega
          obtain ⟨adM, A4, c4, eM, f4, _, C4⟩ := at_LI (Kd.C_below HV.out HB.out) k hk0 hk1
          cases eM
          have eK := HLEN.out k hk0 hk1
          have hi2 : (i : Int) < ((rdL ls k).length : Int) := by omega
          obtain ⟨ad5, e5, g5⟩ := Kd.at_int C4 i hi0 hi2
          cases e5
          simp only [Int.toNat_natCast] at f4 g5
          clear C4
          go_wp2_with (fail)
          go_big_region
          go_wp2_with (fail)
          go_roundw
          case rel =>
            refine ⟨k + 1, by go_num, by omega, ⟨?_⟩, ⟨?_⟩, ⟨?_⟩⟩
            · rw [col_take i (rdL ls 0) ls k hkl]
              have := blk_put (blk_put H7.out 0 (.int .i64 (mnI (rd (rdL ls k) i) (colUp i (rdL ls 0) (ls.take k)).1)) rfl) 1 (.int .i64 (mxI (colUp i (rdL ls 0) (ls.take k)).2 (rd (rdL ls k) i))) rfl
              exact blk_drew this
            · exact below_drew ((HB.out.setCell g7W _).setCell g7W _)
            · exact Kd.R_drew (Kd.R_far (Kd.R_far HO.out (fun _ h => h.2) _) (fun _ h => h.2) _)
          case measure => simp [intOf]; omega
        · have hkl' : decide ((k : Int) < (ls.length : Int)) = false := decide_eq_false (by omega)
          have ek : ls.take k = ls := List.take_of_length_le (by omega)
          rw [ek] at H7 z0 z1
          go_wp2_with ((with_reducible refine gate_builtin (b := .append) (xs := #[.tmp 64, .tmp 66]) rfl ?_); at_builtin; refine Kd.R_append k45 (w0 := W2) W2.heap.size rfl (.tmp 64) (.tmp 66) 31 45 (.agg #[(.int .i64 0), (.int .i64 0)]) 16 rfl Try.underlying31 info45 rfl (by decide) (by omega) (.slice Oc cur.length cc) cur (colAt (rdL ls 0) ls i) [.int .i64 (colUp i (rdL ls 0) ls).1, .int .i64 (colUp i (rdL ls 0) ls).2] (fun _ => True) (fun _ => False) rfl rfl (k45_mkM _ _ _ (colAt (rdL ls 0) ls i)) (fun _ hk => hk.elim) (fun _ _ => trivial) (Kd.R_mono HO.out (fun _ _ => trivial)) HB.out HB.out.size ?aL ?_; (case aL => have := HCURL.out; omega); intro v1 w1 ho hb hg hat; obtain ⟨Av, cv, rfl⟩ := Kd.R_slice ho; have HO1 := Aside0.mk ho; have HB1' := Aside0.mk hb; clear ho hb hg hat)
          go_roundw
          case rel => exact ⟨i + 1, Av, cv, cur ++ [colAt (rdL ls 0) ls i], by go_num, by rw [List.length_append]; rfl, by omega, ⟨by rw [HCUR.out, List.range_succ, List.map_append]; rfl⟩, HO1, HB1'⟩
          case measure => simp [intOf]; omega
    · have hlt' : decide ((i : Int) < (l.length : Int)) = false := decide_eq_false (by omega)
      have hil : i = l.length := by omega
      have HIL := Aside0.mk hil
      clear hil
      go_wp2_with (fail)
      go_ret2
      exact ⟨_, rfl, by rw [← HIL.out, ← HCUR.out]; exact Kd.R_lower HO.out HB2.out.size, bl_next HB2.out HB.out⟩

theorem tightRef_cons (pl : Int) (l : List S47) (hp : isPlantB pl l = true) (ls : List (List Int)) (hT : truFrom l l [] = ls) (h0 : 0 < ls.length) : tightRef pl l = ((List.range l.length).map (colAt (rdL ls 0) ls), 0) := by
  unfold tightRef
  rw [if_pos hp, hT]
  cases ls with
  | nil => simp at h0
  | cons t r => rfl
theorem Tight_ref (pl : Int) (A : Option Addr) (c : Nat) (l : List S47) (w : World) (hr : Kd.C k47 w A l.length l) (hc : l.length ≤ c) (hcap : isPlantB pl l = true → cnt l ≤ 1099511627776) :
    Calls Try.prog 14 #[.agg #[.int .i64 pl, .slice A l.length c]] w (TightPost (tightRef pl l) w) := by
  by_cases hp : isPlantB pl l = true
  · by_cases h0 : 0 < (truFrom l l []).length
    · rw [tightRef_cons pl l hp _ rfl h0]
      exact Tight_main pl A c l w hr hc hp (hcap hp) _ rfl h0
    · exact Tight_early pl A c l w hr hc hcap (.inr (List.eq_nil_of_length_eq_zero (by omega)))
  · exact Tight_early pl A c l w hr hc hcap (.inl (by simpa using hp))

def gasworksref04_Tight.f (a0_0 : Int) (l0_1 : List (S47)) : Option (List S45 × Int) := if isPlantB a0_0 l0_1 = true ∧ 1099511627776 < cnt l0_1 then none else some (tightRef a0_0 l0_1)
theorem gasworksref04_Tight.calls (a0_0 : Int) (A0_1 : Option Addr) (c0_1 : Nat) (l0_1 : List (S47)) (r1 : List S45) (r2 : Int) (w : World) (hr0_1 : Kd.C k47 w A0_1 l0_1.length l0_1) (hc0_1 : l0_1.length ≤ c0_1) (h : gasworksref04_Tight.f a0_0 l0_1 = some (r1, r2)) :
    Calls Try.prog 14 #[.agg #[.int .i64 a0_0, .slice A0_1 l0_1.length c0_1]] w fun e w' => ∃ v0_ : Value, e = .returned (.tuple #[v0_, .int .i64 r2]) ∧ Kd.R k45 45 w' w.heap.size (fun _ => True) v0_ r1 ∧ Below w.heap.size w w' := by
  unfold gasworksref04_Tight.f at h
  split at h
  · cases h
  · rename_i hn
    have e : tightRef a0_0 l0_1 = (r1, r2) := by simpa using h
    have := Tight_ref a0_0 A0_1 c0_1 l0_1 w hr0_1 hc0_1 (fun hp => by
      rcases Nat.lt_or_ge 1099511627776 (cnt l0_1) with h1 | h1
      · exact absurd ⟨hp, h1⟩ hn
      · exact h1)
    rw [e] at this
    exact this
end Go.Proofs.Ytalgbihpidpblaa.Print
