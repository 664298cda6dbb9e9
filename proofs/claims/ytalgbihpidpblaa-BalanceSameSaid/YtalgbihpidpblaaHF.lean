/- What the document fixes: awake. -/
import Derived.Test.YtalgbihpidpblaaHE
import Derived.Test.YtalgbihpidpblaaPrint3
import Derived.Test.YtalgbihpidpblaaPrint4
namespace Go.Proofs.Ytalgbihpidpblaa.Print
open Go.RowKit Go.Shelf Go.Proofs.YtalgbihpidpblaaW.PrintWords Go.Proofs.YtalgbihpidpblaaW.PrintLast Go.Proofs.YtalgbihpidpblaaW.PrintMore
set_option linter.unusedVariables false
set_option linter.unusedSimpArgs false

def sampleL : List S47 := [⟨0, 1, ⟨100, 120⟩⟩, ⟨1, 2, ⟨90, 130⟩⟩, ⟨1, 0, ⟨5, 10⟩⟩, ⟨2, 3, ⟨70, 100⟩⟩, ⟨2, 0, ⟨0, 40⟩⟩, ⟨3, 0, ⟨80, 95⟩⟩]
def sampleL2 : List S47 := [⟨0, 1, ⟨100, 120⟩⟩, ⟨1, 2, ⟨90, 130⟩⟩, ⟨1, 0, ⟨5, 10⟩⟩, ⟨2, 3, ⟨70, 100⟩⟩, ⟨2, 0, ⟨0, 40⟩⟩, ⟨3, 0, ⟨101, 102⟩⟩]

theorem sample_any (w : World) : Calls Try.prog 27 #[] w fun e w' => ∃ v1_ : Value, e = .returned (.agg #[.int .i64 4, v1_]) ∧ Kd.R k47 47 w' w.heap.size (fun _ => True) v1_ sampleL ∧ Below w.heap.size w w' :=
  gasworkslaw04_sample.calls 4 sampleL w rfl
theorem span_any (a b : Int) (w : World) : Calls Try.prog 25 #[.int .i64 a, .int .i64 b] w fun e w' => e = .returned (.agg #[.int .i64 a, .int .i64 b]) ∧ Below w.heap.size w w' :=
  gasworkslaw04_span.calls a b a b w rfl
set_option maxRecDepth 100000 in
theorem err_sample : errS 4 sampleL = 0 := by kernel_rfl
set_option maxRecDepth 100000 in
theorem truth_sample : balance_Truth.f 4 sampleL = some ([100, 90, 10, 80, 10, 80], 0) := by kernel_rfl
set_option maxRecDepth 100000 in
theorem tight_sample : tightS 4 sampleL = ([⟨100, 120⟩, ⟨90, 115⟩, ⟨5, 10⟩, ⟨80, 95⟩, ⟨0, 35⟩, ⟨80, 95⟩], 0) := by kernel_rfl
set_option maxRecDepth 100000 in
theorem why_sample : whyS 4 sampleL 4 true = ([0], 0) := by kernel_rfl
set_option maxRecDepth 100000 in
theorem wrong_sample : wrongS 4 sampleL = ([], 4) := by kernel_rfl
set_option maxRecDepth 100000 in
theorem wrong_sample2 : wrongS 4 sampleL2 = ([0, 1, 2], 0) := by kernel_rfl


theorem bl_next {w W W' : World} (h : Below w.heap.size w W) (hb : Below W.heap.size W W') : Below w.heap.size w W' := h.trans (hb.mono h.size)
theorem truth_call {pl : Int} {A : Option Addr} {c : Nat} {l : List S47} {r : List Int} {e : Int} {w : World} (h : balance_Truth.f pl l = some (r, e)) (hr : Kd.C k47 w A l.length l) (hc : l.length ≤ c) :
    Calls Try.prog 11 #[.agg #[.int .i64 pl, .slice A l.length c]] w (WhyPost (r, e) w) := balance_Truth.calls pl A c l r e w hr hc h
theorem tight_call {pl : Int} {A : Option Addr} {c : Nat} {l : List S47} {r : List S45 × Int} {w : World} (h : tightS pl l = r) (hr : Kd.C k47 w A l.length l) (hc : l.length ≤ c) :
    Calls Try.prog 13 #[.agg #[.int .i64 pl, .slice A l.length c]] w (TightPost r w) := by subst h; exact Tight_any _ _ _ _ _ hr hc
theorem wrong_call {pl : Int} {A : Option Addr} {c : Nat} {l : List S47} {r : List Int × Int} {w : World} (h : wrongS pl l = r) (hr : Kd.C k47 w A l.length l) (hc : l.length ≤ c) :
    Calls Try.prog 19 #[.agg #[.int .i64 pl, .slice A l.length c]] w (WhyPost r w) := by subst h; exact Wrong_any _ _ _ _ _ hr hc
theorem why_call {pl k : Int} {m : Bool} {A : Option Addr} {c : Nat} {l : List S47} {r : List Int × Int} {w : World} (h : whyS pl l k m = r) (hr : Kd.C k47 w A l.length l) (hc : l.length ≤ c) :
    Calls Try.prog 17 #[.agg #[.int .i64 pl, .slice A l.length c], .int .i64 k, .bool m] w (WhyPost r w) := by subst h; exact why_any _ _ _ _ _ _ _ hr hc

theorem cs_ne (w : World) {g o o' : Nat} (v : Value) (h : o ≠ o') : (w.setCell ⟨g, o, none⟩ v).cell? ⟨g, o', none⟩ = w.cell? ⟨g, o', none⟩ :=
  World.cell?_setCell_other w ⟨g, o, none⟩ ⟨g, o', none⟩ v (fun e => h (by injection e))
theorem cs_eq (w : World) {a : Addr} {u : Value} (v : Value) (h : w.cell? a = some u) : (w.setCell a v).cell? a = some v :=
  World.cell?_setCell_same' w a v (by rw [h]; rfl)

theorem blk_set_ne {W : World} {g k : Nat} {o : Option Obj} (h : W.heap[k]? = o) (hne : g ≠ k) (j : Nat) (u : Value) : (W.setCell ⟨g, j, none⟩ u).heap[k]? = o :=
  (Below.heap_setCell W ⟨g, j, none⟩ u k (fun e => hne e.symm)).trans h

theorem C_set47 {W : World} {g c : Nat} {l : List S47} {n : Nat} (hn : n = l.length) (h : Kd.C k47 W (some ⟨g, 0, none⟩) l.length l) {i : Nat} (hi : i < l.length) (s : S45) :
    Kd.C k47 ((W.setCell ⟨g, i * 4 + 2, none⟩ (.int .i64 s.f0)).setCell ⟨g, i * 4 + 3, none⟩ (.int .i64 s.f1)) (some ⟨g, 0, none⟩) n (l.set i { rd_T47 l i with f2 := s }) := by
  subst hn
  have e4 : ∀ o, (⟨g, 0, none⟩ : Addr).add o = ⟨g, o, none⟩ := fun o => by unfold Addr.add; split <;> simp_all
  refine ⟨by simp, h.2.1, fun hp => ⟨⟨g, 0, none⟩, rfl, fun j p hj => ?_⟩⟩
  have hj' : j < l.length := by
    have := (List.getElem?_eq_some_iff.1 hj).1
    simpa using this
  obtain ⟨ad, cs, e, hlen, hK, hc⟩ := Kd.C_get h z47 j (by omega) (by omega)
  cases e
  obtain rfl := k47_open hK
  have hc' : ∀ (o : Nat) u, ([.int .i64 (rd_T47 l j).f0, .int .i64 (rd_T47 l j).f1, .int .i64 (rd_T47 l j).f2.f0, .int .i64 (rd_T47 l j).f2.f1] : List Value)[o]? = some u → W.cell? ⟨g, j * 4 + o, none⟩ = some u := fun o u hu => by
    have := hc o u hu
    rwa [e4] at this
  refine ⟨encX p, rfl, k47_mk _ p, fun o u hu => ?_⟩
  show World.cell? _ ((⟨g, 0, none⟩ : Addr).add (j * 4 + o)) = some u
  rw [e4]
  have ho : o < 4 := by
    have : o < (encX p).length := (List.getElem?_eq_some_iff.1 hu).1
    simpa [encX] using this
  by_cases hij : j = i
  · subst hij
    have hp' : p = { rd_T47 l j with f2 := s } := by
      rw [List.getElem?_set_self (by omega)] at hj
      exact (Option.some.inj hj).symm
    subst hp'
    rcases o with _ | _ | _ | _ | o
    · rw [cs_ne _ _ (by omega), cs_ne _ _ (by omega), hc' 0 _ rfl]
      simpa [encX] using hu
    · rw [cs_ne _ _ (by omega), cs_ne _ _ (by omega), hc' 1 _ rfl]
      simpa [encX] using hu
    · rw [cs_ne _ _ (by omega), cs_eq _ _ (hc' 2 _ rfl)]
      simpa [encX] using hu
    · rw [cs_eq _ _ ((cs_ne _ _ (by omega)).trans (hc' 3 _ rfl))]
      simpa [encX] using hu
    · omega
  · have hp' : p = rd_T47 l j := by
      rw [List.getElem?_set_ne (fun e => hij e.symm)] at hj
      unfold rd_T47
      simp [List.getD_eq_getElem?_getD, hj]
    subst hp'
    rw [cs_ne _ _ (by omega), cs_ne _ _ (by omega)]
    exact hc' o u hu

theorem drawn_below {w w' : World} (h : Drawn0 w w') : Below w.heap.size w w' := by
  obtain ⟨nd, rfl⟩ := h
  exact pw_below_drewN (Below.refl _ _) nd

def encI (l : List Int) : List Value := l.map fun x => .int .i64 x
theorem CI_of_blk {W : World} {B : Nat} {cur : List Int} (h : W.heap[B]? = some (.cells (encI cur).toArray 3 (0, 0))) (hn : cur.length ≤ 9223372036854775807) : Kd.C (Kd.int .i64) W (some ⟨B, 0, none⟩) cur.length cur := by
  refine ⟨rfl, hn, fun _ => ⟨⟨B, 0, none⟩, rfl, fun j p hj => ⟨[.int .i64 p], rfl, rfl, fun i u hu => ?_⟩⟩⟩
  have e : ∀ o, (⟨B, 0, none⟩ : Addr).add o = ⟨B, o, none⟩ := fun o => by unfold Addr.add; split <;> simp_all
  have hi : i = 0 := by
    have : i < 1 := (List.getElem?_eq_some_iff.1 hu).1
    omega
  subst hi
  show W.cell? ((⟨B, 0, none⟩ : Addr).add (j * 1 + 0)) = some u
  rw [e, blk_cell h]
  simp only [List.getElem?_toArray, encI, List.getElem?_map, Nat.mul_one, Nat.add_zero, hj]
  simpa using hu

def encG : List S45 → List Value
  | [] => []
  | x :: r => [.int .i64 x.f0, .int .i64 x.f1] ++ encG r
theorem encG_get (l : List S45) : ∀ (j : Nat) (p : S45) (i : Nat), l[j]? = some p → i < 2 → (encG l)[j * 2 + i]? = ([.int .i64 p.f0, .int .i64 p.f1] : List Value)[i]? := by
  induction l with
  | nil => intro j p i h; simp at h
  | cons x r ih =>
    intro j p i h hi
    cases j with
    | zero =>
      simp at h
      subst h
      rw [Nat.zero_mul, Nat.zero_add]
      exact List.getElem?_append_left (by simp; omega)
    | succ j =>
      simp at h
      have := ih j p i h hi
      simp only [encG]
      rw [List.getElem?_append_right (by simp; omega), ← this]
      congr 1
      simp
      omega
theorem CG_of_blk {W : World} {B : Nat} {cur : List S45} (h : W.heap[B]? = some (.cells (encG cur).toArray 45 (0, 0))) (hn : cur.length ≤ 9223372036854775807) : Kd.C k45 W (some ⟨B, 0, none⟩) cur.length cur := by
  refine ⟨rfl, hn, fun _ => ⟨⟨B, 0, none⟩, rfl, fun j p hj => ⟨[.int .i64 p.f0, .int .i64 p.f1], rfl, k45_mk W p, fun i u hu => ?_⟩⟩⟩
  have hi : i < 2 := by
    have := (List.getElem?_eq_some_iff.1 hu).1
    simpa using this
  have e : (⟨B, 0, none⟩ : Addr).add (j * 2 + i) = ⟨B, j * 2 + i, none⟩ := by unfold Addr.add; split <;> simp_all
  show W.cell? ((⟨B, 0, none⟩ : Addr).add (j * 2 + i)) = some u
  rw [e, blk_cell h (j * 2 + i)]
  simp only [List.getElem?_toArray]
  rw [encG_get cur j p i hj hi, hu]

theorem ints_call {a b : List Int} {A B : Option Addr} {c d : Nat} {w : World} (hr : Kd.C (Kd.int .i64) w A a.length a) (hc : a.length ≤ c) (hs : Kd.C (Kd.int .i64) w B b.length b) (hd : b.length ≤ d) (h : gasworksref04_Ints.f 20 a b = some true) :
    Calls Try.prog 15 #[.slice A a.length c, .slice B b.length d] w fun e w' => e = .returned (.bool true) ∧ Below w.heap.size w w' :=
  (gasworksref04_Ints.calls 20 A c a B d b true w hr hc hs hd h).mono fun _ _ h => ⟨h.1, drawn_below h.2⟩
theorem spans_call {a b : List S45} {A B : Option Addr} {c d : Nat} {w : World} (hr : Kd.C k45 w A a.length a) (hc : a.length ≤ c) (hs : Kd.C k45 w B b.length b) (hd : b.length ≤ d) (h : gasworksref04_Spans.f 20 a b = some true) :
    Calls Try.prog 16 #[.slice A a.length c, .slice B b.length d] w fun e w' => e = .returned (.bool true) ∧ Below w.heap.size w w' :=
  (gasworksref04_Spans.calls 20 A c a B d b true w hr hc hs hd h).mono fun _ _ h => ⟨h.1, drawn_below h.2⟩


set_option maxRecDepth 100000 in
set_option maxHeartbeats 4000000 in
theorem awake_any (w : World) : Calls Try.prog 10 #[] w fun e w' => e = .returned (.bool true) ∧ Below w.heap.size w w' := by
  go_enter Try.func10, Try.ntmps10
  go_wp2_with (first
    | (go_at_call 27; refine (sample_any _).mono ?_; rintro e W1 ⟨v, rfl, hR, hb⟩; obtain ⟨go, co, rfl, gb0, gl0, gcs, gbk⟩ := Kd.R_form hR (by decide); have GB1 := Aside0.mk gb0; have GK1 := Aside0.mk gbk; have GL1 := Aside0.mk gl0; clear gb0 gl0 gbk; have HR1 := Aside0.mk hR; have HB1 := Aside0.mk hb; clear hR hb)
    | (go_at_call 11; refine (truth_call truth_sample (Kd.R_reads' (Kd.R_alloc HR1.out _)).2.2 (Kd.R_reads' HR1.out).2.1).mono ?_; rintro e W2 ⟨v, rfl, hR, hb⟩; obtain ⟨A2, c2, rfl⟩ := Kd.R_slice hR; have HT2 := Aside0.mk hR; have HS2 := Aside0.mk (Kd.R_below (Kd.R_alloc HR1.out _) hb); have BP2 := Aside0.mk (blk_below (blk_new W1 (.cells #[.int .i64 4, .slice (some ⟨go, 0, none⟩) sampleL.length co] 24)) hb); have GK2 := Aside0.mk (blk_below (blk_alloc GK1.out (.cells #[.int .i64 4, .slice (some ⟨go, 0, none⟩) sampleL.length co] 24)) hb); have HB2 := Aside0.mk (bl_next (below_alloc HB1.out _) hb); have s0 := cell_two BP2.out 0 rfl; have s1 := cell_two BP2.out 1 rfl; clear hR hb)
    | (go_at_call 13; refine (tight_call tight_sample (Kd.R_reads' HS2.out).2.2 (Kd.R_reads' HS2.out).2.1).mono ?_; rintro e W3 ⟨v, rfl, hR, hb⟩; obtain ⟨A3, c3, rfl⟩ := Kd.R_slice hR; have HT3 := Aside0.mk hR; have HU3 := Aside0.mk (Kd.R_below HT2.out hb); have HS3 := Aside0.mk (Kd.R_below HS2.out hb); have BP3 := Aside0.mk (blk_below BP2.out hb); have GK3 := Aside0.mk (blk_below GK2.out hb); have HB3 := Aside0.mk (bl_next HB2.out hb); clear s0 s1; have s0 := cell_two BP3.out 0 rfl; have s1 := cell_two BP3.out 1 rfl; clear hR hb)
    | (go_at_call 17; refine (why_call why_sample (Kd.R_reads' HS3.out).2.2 (Kd.R_reads' HS3.out).2.1).mono ?_; rintro e W4 ⟨v, rfl, hR, hb⟩; obtain ⟨A4, c4, rfl⟩ := Kd.R_slice hR; have HT4 := Aside0.mk hR; have HU4 := Aside0.mk (Kd.R_below HU3.out hb); have HV4 := Aside0.mk (Kd.R_below HT3.out hb); have HS4 := Aside0.mk (Kd.R_below HS3.out hb); have BP4 := Aside0.mk (blk_below BP3.out hb); have GK4 := Aside0.mk (blk_below GK3.out hb); have HB4 := Aside0.mk (bl_next HB3.out hb); clear s0 s1; have s0 := cell_two BP4.out 0 rfl; have s1 := cell_two BP4.out 1 rfl; clear hR hb)
    | (go_at_call 19; refine (wrong_call wrong_sample (Kd.R_reads' HS4.out).2.2 (Kd.R_reads' HS4.out).2.1).mono ?_; rintro e W5 ⟨v, rfl, hR, hb⟩; obtain ⟨A5, c5, rfl⟩ := Kd.R_slice hR; have HU5 := Aside0.mk (Kd.R_below HU4.out hb); have HV5 := Aside0.mk (Kd.R_below HV4.out hb); have HW5 := Aside0.mk (Kd.R_below HT4.out hb); have HS5 := Aside0.mk (Kd.R_below HS4.out hb); have BP5 := Aside0.mk (blk_below BP4.out hb); have GK5 := Aside0.mk (blk_below GK4.out hb); have HB5 := Aside0.mk (bl_next HB4.out hb); clear s0 s1 HU4 HV4 HT4 HS4 BP4 HB4 HT3 HU3 HS3 BP3 HB3 HT2 HS2 BP2 HB2 HR1 HB1 GK1 GK2 GK3 GK4; have s0 := cell_two BP5.out 0 rfl; have s1 := cell_two BP5.out 1 rfl; clear hR hb))
  have h22 := at_T47 (Kd.R_reads' HS5.out).2.2 5 (by decide) (by decide)
  obtain ⟨ad, e, _, _, g22, g23⟩ := h22
  cases e
  have c22 : W5.cell? ⟨go, 22, none⟩ = some (.int .i64 80) := g22
  have c23 : W5.cell? ⟨go, 23, none⟩ = some (.int .i64 95) := g23
  have f22 : W5.frozen? ⟨go, 22, none⟩ = false := blk_frozen GK5.out 22
  have f23 : W5.frozen? ⟨go, 23, none⟩ = false := blk_frozen GK5.out 23
  clear g22 g23
  have hl5 : (5 : Int) < (sampleL.length : Int) := by decide
  have hne : go ≠ W1.heap.size := Nat.ne_of_lt GL1.out
  go_region_held3 (fun w' => w'.cell? ⟨W1.heap.size, 1, none⟩ = some (.slice (some ⟨go, 0, none⟩) sampleL.length co)) (go_keep)
    (first
      | (go_at_call 25; refine (span_any _ _ _).mono ?_; rintro e W6 ⟨rfl, hb⟩; have q1 := (hb.cell (World.block_lt_of_cell? _ _ s1)).trans s1; have d22 := (hb.cell (World.block_lt_of_cell? _ _ c22)).trans c22; have d23 := (hb.cell (World.block_lt_of_cell? _ _ c23)).trans c23; have e22 := (hb.frozen (World.block_lt_of_cell? _ _ c22)).trans f22; have e23 := (hb.frozen (World.block_lt_of_cell? _ _ c23)).trans f23; have HB6 := Aside0.mk hb; clear hb))
  have GK6 : W6.heap[go]? = _ := blk_below (blk_drew GK5.out) HB6.out
  have BP6 := blk_below (blk_drew BP5.out) HB6.out
  have HU6 := Kd.R_set (Kd.R_set (Kd.R_below (Kd.R_drew HU5.out) HB6.out) GK6 (by decide) 22 (.int .i64 101)) (blk_put GK6 22 (.int .i64 101) rfl) (by decide) 23 (.int .i64 102)
  have HV6 := Kd.R_set (Kd.R_set (Kd.R_below (Kd.R_drew HV5.out) HB6.out) GK6 (by decide) 22 (.int .i64 101)) (blk_put GK6 22 (.int .i64 101) rfl) (by decide) 23 (.int .i64 102)
  have HW6 := Kd.R_set (Kd.R_set (Kd.R_below (Kd.R_drew HW5.out) HB6.out) GK6 (by decide) 22 (.int .i64 101)) (blk_put GK6 22 (.int .i64 101) rfl) (by decide) 23 (.int .i64 102)
  have HC6 : Kd.C k47 ((W6.setCell ⟨go, 22, none⟩ (.int .i64 101)).setCell ⟨go, 23, none⟩ (.int .i64 102)) (some ⟨go, 0, none⟩) sampleL2.length sampleL2 := C_set47 (l := sampleL) (c := 0) (n := sampleL2.length) rfl (Kd.R_reads' (Kd.R_below (Kd.R_drew HS5.out) HB6.out)).2.2 (i := 5) (by decide) ⟨101, 102⟩
  have HBw := bl_next HB5.out.drew HB6.out
  have hgl := GB1.out
  have HBz := below_set (j := 23) (v := .int .i64 102) (below_set (j := 22) (v := .int .i64 101) HBw hgl) hgl
  have BPz := blk_set_ne (blk_set_ne BP6 hne 22 (.int .i64 101)) hne 23 (.int .i64 102)
  have hco : sampleL2.length ≤ co := (Kd.R_reads' HS5.out).2.1
  have HU7 := Aside0.mk HU6
  have HV7 := Aside0.mk HV6
  have HW7 := Aside0.mk HW6
  have HC7 := Aside0.mk HC6
  have HB7 := Aside0.mk HBz
  have BP7 := Aside0.mk BPz
  clear HU6 HV6 HW6 HC6 HBz BPz HBw BP6 GK6 HU5 HV5 HW5 HB6 HB5 HS5 GK5 BP5 q1 d22 d23 e22 e23 c22 c23 f22 f23 s0 s1
  generalize ((W6.setCell ⟨go, 22, none⟩ (.int .i64 101)).setCell ⟨go, 23, none⟩ (.int .i64 102)) = W7 at *
  have t0 := cell_two BP7.out 0 rfl
  have t1 := cell_two BP7.out 1 rfl
  go_wp2_with (first
    | (go_at_call 19; refine (wrong_call wrong_sample2 HC7.out hco).mono ?_; rintro e W8 ⟨v, rfl, hR, hb⟩; obtain ⟨A8, c8, rfl⟩ := Kd.R_slice hR; have HU8 := Aside0.mk (Kd.R_below HU7.out hb); have HV8 := Aside0.mk (Kd.R_below HV7.out hb); have HW8 := Aside0.mk (Kd.R_below HW7.out hb); have HX8 := Aside0.mk hR; have HB8 := Aside0.mk (bl_next HB7.out hb); clear hR hb HU7 HV7 HW7 HC7 HB7 BP7 t0 t1)
    | (go_at_call 15; refine (ints_call (a := [100, 90, 10, 80, 10, 80]) (b := [100, 90, 10, 80, 10, 80]) (Kd.R_reads' (Kd.R_alloc HU8.out _)).2.2 (Kd.R_reads' HU8.out).2.1 (CI_of_blk (blk_new W8 _) (by decide)) (by decide) (by kernel_rfl)).mono ?_; rintro e W9 ⟨rfl, hb⟩; have HV9 := Aside0.mk (Kd.R_below (Kd.R_alloc HV8.out _) hb); have HW9 := Aside0.mk (Kd.R_below (Kd.R_alloc HW8.out _) hb); have HX9 := Aside0.mk (Kd.R_below (Kd.R_alloc HX8.out _) hb); have HB9 := Aside0.mk (bl_next (below_alloc HB8.out _) hb); clear HU8 HV8 HW8 HX8 HB8 hb)
    | (go_at_call 25; refine (span_any _ _ _).mono ?_; rintro e Wn ⟨rfl, hb⟩; have n1 := Aside0.mk (Kd.R_below HV9.out hb); have n2 := Aside0.mk (Kd.R_below HW9.out hb); have n3 := Aside0.mk (Kd.R_below HX9.out hb); have n4 := Aside0.mk (bl_next HB9.out hb); clear HV9 HW9 HX9 HB9 hb; have HV9 := n1; have HW9 := n2; have HX9 := n3; have HB9 := n4; clear n1 n2 n3 n4)
    | (go_at_call 16; refine (spans_call (a := [⟨100, 120⟩, ⟨90, 115⟩, ⟨5, 10⟩, ⟨80, 95⟩, ⟨0, 35⟩, ⟨80, 95⟩]) (b := [⟨100, 120⟩, ⟨90, 115⟩, ⟨5, 10⟩, ⟨80, 95⟩, ⟨0, 35⟩, ⟨80, 95⟩]) (Kd.R_reads' (Kd.R_alloc HV9.out _)).2.2 (Kd.R_reads' HV9.out).2.1 (CG_of_blk (blk_new _ _) (by decide)) (by decide) (by kernel_rfl)).mono ?_; rintro e W10 ⟨rfl, hb⟩; have HW10 := Aside0.mk (Kd.R_below (Kd.R_alloc HW9.out _) hb); have HX10 := Aside0.mk (Kd.R_below (Kd.R_alloc HX9.out _) hb); have HB10 := Aside0.mk (bl_next (below_alloc HB9.out _) hb); clear HV9 HW9 HX9 HB9 hb)
    | (go_at_call 15; refine (ints_call (a := [0]) (b := [0]) (Kd.R_reads' (Kd.R_alloc HW10.out _)).2.2 (Kd.R_reads' HW10.out).2.1 (CI_of_blk (blk_new W10 _) (by decide)) (by decide) (by kernel_rfl)).mono ?_; rintro e W11 ⟨rfl, hb⟩; have HX11 := Aside0.mk (Kd.R_below (Kd.R_alloc HX10.out _) hb); have HB11 := Aside0.mk (bl_next (below_alloc HB10.out _) hb); clear HW10 HX10 HB10 hb)
    | (go_at_call 15; refine (ints_call (a := [0, 1, 2]) (b := [0, 1, 2]) (Kd.R_reads' (Kd.R_alloc HX11.out _)).2.2 (Kd.R_reads' HX11.out).2.1 (CI_of_blk (blk_new W11 _) (by decide)) (by decide) (by kernel_rfl)).mono ?_; rintro e W12 ⟨rfl, hb⟩; have HB12 := Aside0.mk (bl_next (below_alloc HB11.out _) hb); clear HX11 HB11 hb))
  go_ret
  exact ⟨rfl, HB12.out⟩

def gasworkslaw04_awake.f  : Option (Bool) := some true
theorem gasworkslaw04_awake.calls  (r : Bool) (w : World) (h : gasworkslaw04_awake.f  = some r) :
    Calls Try.prog 10 #[] w fun e w' => e = .returned (.bool r) ∧ Below w.heap.size w w' := by
  obtain rfl : true = r := by simpa [gasworkslaw04_awake.f] using h
  exact awake_any w
theorem rd_mem (xs : List Int) (k : Int) (h0 : 0 ≤ k) (h : k < xs.length) : rd xs k ∈ xs := by
  obtain ⟨n, rfl⟩ := Int.eq_ofNat_of_zero_le h0
  have hn : n < xs.length := by omega
  have : rd xs n = xs[n] := by simp [rd, List.getD_eq_getElem?_getD, hn]
  rw [this]
  exact List.getElem_mem _
end Go.Proofs.Ytalgbihpidpblaa.Print
