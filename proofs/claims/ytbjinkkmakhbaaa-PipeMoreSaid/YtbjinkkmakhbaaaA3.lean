/- newNet: the net of a network. -/
import Derived.Test.YtbjinkkmakhbaaaA2
namespace Go.Proofs.Ytbjinkkmakhbaaa.Print
open Go.RowKit Go.Proofs.YtbjinkkmakhbaaaW.PrintWords Go.Proofs.YtbjinkkmakhbaaaW.PrintLast Go.Proofs.YtbjinkkmakhbaaaW.PrintMore
set_option linter.unusedVariables false
set_option linter.unusedSimpArgs false
attribute [local go_sem] Oper.semAt_some
/-- The junctions that a junction feeds, in order, by the mains so far. -/
def kidsL : Nat → List S54 → Int → List Int
  | _, [], _ => []
  | k, m :: l, j => if m.f0 = j then ((k : Int) + 1) :: kidsL (k + 1) l j else kidsL (k + 1) l j
theorem kidsL_snoc : ∀ (l : List S54) (k : Nat) (m : S54) (j : Int), kidsL k (l ++ [m]) j = kidsL k l j ++ (if m.f0 = j then [((k + l.length : Nat) : Int) + 1] else [])
  | [], k, m, j => by simp only [List.nil_append, kidsL, List.length_nil, Nat.add_zero]
  | x :: l, k, m, j => by
    simp only [List.cons_append, kidsL, kidsL_snoc l (k + 1) m j, List.length_cons]
    rw [show k + 1 + l.length = k + (l.length + 1) by omega]
    by_cases h : x.f0 = j
    · rw [if_pos h, if_pos h, List.cons_append]
    · rw [if_neg h, if_neg h]
theorem kidsL_take (l : List S54) (k : Nat) (h : k < l.length) (j : Int) : kidsL 0 (l.take (k + 1)) j = kidsL 0 (l.take k) j ++ (if (rd_T54 l k).f0 = j then [(k : Int) + 1] else []) := by
  rw [List.take_succ_eq_append_getElem h, kidsL_snoc, rd_T54_eq _ _ h, List.length_take, Nat.zero_add, Nat.min_eq_left (by omega)]
/-- A net while it is made: its block, and nine rows of its own. -/
structure Made (w W : World) (P : Nat) (lo hi : Int) (A : Option Addr) (c : Nat) (js : List S50) (A' : Option Addr) (c' : Nat) (ms : List S54) (vs : List Value) (K : Nat → List Int) : Prop where
  len : vs.length = 9
  blk : W.heap[P]? = some (.cells (netC lo hi A js.length c A' ms.length c' ++ vs.toArray) 95 (0, 0))
  own : ∀ (i : Nat) (v : Value), vs[i]? = some v → Kd.R (Kd.int .i64) 3 W w.heap.size (fun _ => True) v (K i)
  dis : ∀ (i i' : Nat) (v v' : Value) (k : Nat), vs[i]? = some v → vs[i']? = some v' → i ≠ i' → v.ownBlock = some k → v'.ownBlock ≠ some k
  jr : Kd.C k50 W A js.length js
  mr : Kd.C k54 W A' ms.length ms
  ge : w.heap.size ≤ P
  bel : Below w.heap.size w W
theorem Made.next {w W W' : World} {P : Nat} {lo hi : Int} {A : Option Addr} {c : Nat} {js : List S50} {A' : Option Addr} {c' : Nat} {ms : List S54} {vs : List Value} {K : Nat → List Int} (h : Made w W P lo hi A c js A' c' ms vs K) (hb : Below W.heap.size W W') : Made w W' P lo hi A c js A' c' ms vs K where
  len := h.len
  blk := blk_below h.blk hb
  own := fun i v hv => Kd.R_below (h.own i v hv) hb
  dis := h.dis
  jr := Kd.C_below h.jr hb
  mr := Kd.C_below h.mr hb
  ge := h.ge
  bel := bl_next' h.bel hb
theorem R_int_ok {W : World} {base : Nat} {ok ok' : Nat → Prop} {v : Value} {xs : List Int} (h : Kd.R (Kd.int .i64) 3 W base ok v xs) (h0 : ∀ k, v.ownBlock = some k → ok' k) : Kd.R (Kd.int .i64) 3 W base ok' v xs := ⟨h0, h.2⟩
theorem Made.put {w W w1 : World} {P : Nat} {lo hi : Int} {A : Option Addr} {c : Nat} {js : List S50} {A' : Option Addr} {c' : Nat} {ms : List S54} {vs : List Value} {K : Nat → List Int} {i : Nat} {v v1 : Value} {x : Int} (hr : Kd.C k50 w A js.length js) (hr' : Kd.C k54 w A' ms.length ms) (h : Made w W P lo hi A c js A' c' ms vs K) (hv : vs[i]? = some v)
    (ho : Kd.R (Kd.int .i64) 3 w1 w.heap.size (fun _ => True) v1 (K i ++ [x])) (hb : Below w.heap.size w w1) (hg : W.grownBy w1 v.ownBlock) (hat : v1.ownBlock = v.ownBlock ∨ ∃ b, v1.ownBlock = some b ∧ W.heap.size ≤ b) :
    Made w (w1.setCell ⟨P, 4 + i, none⟩ v1) P lo hi A c js A' c' ms (vs.set i v1) (fun j => if j = i then K i ++ [x] else K j) := by
  have hP : w1.heap[P]? = some (.cells (netC lo hi A js.length c A' ms.length c' ++ vs.toArray) 95 (0, 0)) := blk_grown h.blk hg (Kd.R_ne (h.own i v hv) h.blk (by decide))
  have hb2 : Below w.heap.size w (w1.setCell ⟨P, 4 + i, none⟩ v1) := hb.setCell h.ge _
  have hil : i < vs.length := (List.getElem?_eq_some_iff.1 hv).1
  have key : ∀ (j : Nat) (u : Value), (vs.set i v1)[j]? = some u → (j = i ∧ u = v1) ∨ (j ≠ i ∧ vs[j]? = some u) := fun j u hu => by
    rw [List.getElem?_set] at hu
    by_cases e : i = j
    · subst e
      rw [if_pos rfl, if_pos hil] at hu
      exact .inl ⟨rfl, (Option.some.inj hu).symm⟩
    · rw [if_neg e] at hu
      exact .inr ⟨fun e' => e e'.symm, hu⟩
  refine ⟨by rw [List.length_set]; exact h.len, ?_, ?_, ?_, Kd.C_below hr hb2, Kd.C_below hr' hb2, h.ge, hb2⟩
  · refine blk_put hP (4 + i) v1 ?_
    apply Array.ext'
    simp only [netC, List.append_toArray, Array.toList_setIfInBounds, Array.toList_append, List.cons_append, List.nil_append]
    rw [Nat.add_comm 4 i]
    rfl
  · intro j u hu
    rcases key j u hu with ⟨rfl, rfl⟩ | ⟨hj, hu⟩
    · rw [if_pos rfl]
      exact Kd.R_set ho hP (by decide) (4 + j) _
    · rw [if_neg hj]
      have h1 := R_int_ok (ok' := fun k => u.ownBlock = some k) (h.own j u hu) (fun k hk => hk)
      have h2 := Kd.R_grown h1 hg (fun k hk e => h.dis j i u v k hu hv hj hk e.symm)
      exact R_int_ok (Kd.R_set h2 hP (by decide) (4 + i) v1) (fun _ _ => trivial)
  · intro j j' u u' k hu hu' hne hk
    rcases key j u hu with ⟨rfl, rfl⟩ | ⟨hj, hu2⟩
    · rcases key j' u' hu' with ⟨rfl, rfl⟩ | ⟨hj', hu'⟩
      · exact absurd rfl hne
      · intro hk'
        rcases hat with e | ⟨b, e, hbl⟩
        · rw [e] at hk
          exact h.dis j j' v u' k hv hu' hne hk hk'
        · rw [e] at hk
          obtain rfl := Option.some.inj hk
          have := Kd.R_lt (h.own j' u' hu') _ hk'
          omega
    · rcases key j' u' hu' with ⟨rfl, rfl⟩ | ⟨hj', hu2'⟩
      · intro hk'
        rcases hat with e | ⟨b, e, hbl⟩
        · rw [e] at hk'
          exact h.dis j j' u v k hu2 hv hne hk hk'
        · rw [e] at hk'
          obtain rfl := Option.some.inj hk'
          have := Kd.R_lt (h.own j u hu2) _ hk
          omega
      · exact h.dis j j' u u' k hu2 hu2' hne hk
theorem mains_ok {ms : List S54} (h : anyM 0 ms = false) (k : Nat) (hk : k < ms.length) : (0 ≤ (rd_T54 ms k).f0 ∧ (rd_T54 ms k).f0 ≤ k) ∧ (0 ≤ (rd_T54 ms k).f1 ∧ (rd_T54 ms k).f1 ≤ 1000) ∧ (0 ≤ (rd_T54 ms k).f2 ∧ (rd_T54 ms k).f2 ≤ 2) ∧ (1 ≤ (rd_T54 ms k).f3 ∧ (rd_T54 ms k).f3 ≤ 1000000) := by
  have h1 := anyM_take ms k hk
  have h2 : anyM 0 (ms.take (k + 1)) = false := by
    cases hh : anyM 0 (ms.take (k + 1))
    · rfl
    · rw [anyM_true ms (k + 1) hh] at h
      cases h
  rw [h2] at h1
  have h3 := (Bool.or_eq_false_iff.1 h1.symm).2
  simp only [badM, withinB, Bool.or_eq_false_iff, Bool.not_eq_false', Bool.and_eq_true, decide_eq_true_eq] at h3
  omega
def kidsN (ms : List S54) (j : Nat) : List Int := kidsL 0 ms (j : Int)
structure NetOk (lo hi : Int) (js : List S50) (ms : List S54) : Prop where
  src : 0 ≤ lo ∧ lo ≤ hi ∧ hi ≤ 1099511627776
  jl : 1 ≤ js.length ∧ js.length ≤ 9
  ml : ms.length + 1 = js.length
  jok : anyJ js = false
  mok : anyM 0 ms = false
theorem net_ok {lo hi : Int} {js : List S50} {ms : List S54} (h : netB lo hi js ms = true) : NetOk lo hi js ms := by
  simp only [netB, spanB, withinB, Bool.and_eq_true, decide_eq_true_eq, Bool.not_eq_true'] at h
  exact ⟨by omega, by omega, by omega, h.1.2, h.2⟩
theorem made0 {w : World} {lo hi : Int} {A : Option Addr} {c : Nat} {js : List S50} {A' : Option Addr} {c' : Nat} {ms : List S54} (hr : Kd.C k50 w A js.length js) (hr' : Kd.C k54 w A' ms.length ms) :
    Made w ((w.alloc (.cells (netC lo hi A js.length c A' ms.length c') 27)).alloc (.cells (netC lo hi A js.length c A' ms.length c' ++ (List.replicate 9 (Value.slice none 0 0)).toArray) 95)) (w.heap.size + 1) lo hi A c js A' c' ms (List.replicate 9 (.slice none 0 0)) (kidsN []) where
  len := rfl
  blk := by
    have := blk_new (w.alloc (.cells (netC lo hi A js.length c A' ms.length c') 27)) (.cells (netC lo hi A js.length c A' ms.length c' ++ (List.replicate 9 (Value.slice none 0 0)).toArray) 95)
    simpa using this
  own := fun i v hv => by
    rw [List.getElem?_replicate] at hv
    split at hv
    · obtain rfl := Option.some.inj hv
      exact Kd.R_nil _ _ _ _ _
    · cases hv
  dis := fun i i' v v' k hv hv' hne hk => by
    rw [List.getElem?_replicate] at hv
    split at hv
    · obtain rfl := Option.some.inj hv
      simp [Value.ownBlock] at hk
    · cases hv
  jr := Kd.C_alloc (Kd.C_alloc hr _) _
  mr := Kd.C_alloc (Kd.C_alloc hr' _) _
  ge := Nat.le_succ _
  bel := below_alloc (below_alloc (Below.refl _ _) _) _
theorem kidsL_len : ∀ (l : List S54) (k : Nat) (j : Int), (kidsL k l j).length ≤ l.length
  | [], _, _ => Nat.le_refl _
  | x :: l, k, j => by
    have := kidsL_len l (k + 1) j
    simp only [kidsL]
    split
    · simp only [List.length_cons]; omega
    · simp only [List.length_cons]; omega
theorem net_slot (lo hi : Int) (A : Option Addr) (n c : Nat) (A' : Option Addr) (n' c' : Nat) (vs : List Value) (i : Nat) : (netC lo hi A n c A' n' c' ++ vs.toArray)[4 + i]? = vs[i]? := by
  rw [Array.getElem?_append_right (by simp [netC])]
  simp [netC]
set_option maxHeartbeats 4000000 in
set_option maxRecDepth 100000 in
theorem newNet_any (lo hi : Int) (A : Option Addr) (c : Nat) (js : List S50) (A' : Option Addr) (c' : Nat) (ms : List S54) (w : World) (hr : Kd.C k50 w A js.length js) (hc : js.length ≤ c) (hr' : Kd.C k54 w A' ms.length ms) (hc' : ms.length ≤ c') (hok : NetOk lo hi js ms) :
    Calls Try.prog 35 #[.agg #[.int .i64 lo, .int .i64 hi, .slice A js.length c, .slice A' ms.length c']] w fun e w' => ∃ vs, e = .returned (.pointer (some ⟨w.heap.size + 1, 0, none⟩)) ∧ Made w w' (w.heap.size + 1) lo hi A c js A' c' ms vs (kidsN ms) := by
  have hm' := Kd.C_max hr'
  have H0 := Aside0.mk (made0 (lo := lo) (hi := hi) (c := c) (c' := c') hr hr')
  have HR := Aside0.mk hr
  have HR' := Aside0.mk hr'
  have HOK := Aside0.mk hok
  clear hr hr' hok
  go_enter Try.func35, Try.ntmps35
  go_wp2_with (fail)
  go_loopw [12] (fun i wr => ∃ (k : Nat) (vs : List Value), i = .int .i64 (k : Int) ∧ k ≤ ms.length ∧ Aside0 (Made w wr (w.heap.size + 1) lo hi A c js A' c' ms vs (kidsN (ms.take k)))) (fun i _ => ms.length - (intOf i).toNat)
  case atStart => exact ⟨0, _, rfl, by omega, H0⟩
  case round =>
    clear H0
    obtain ⟨k, vs, rfl, hk, HM⟩ := hrel
    by_cases hlt : k < ms.length
    · have hlt' : decide ((k : Int) < (ms.length : Int)) = true := decide_eq_true (by omega)
      have k0 : (0 : Int) ≤ (k : Int) := Int.natCast_nonneg k
      have k1 : (k : Int) < (ms.length : Int) := by omega
      obtain ⟨ad, e, g0, g1, g2, g3⟩ := at_T54 HM.out.mr k k0 k1
      cases e
      simp only [Int.toNat_natCast] at g0 g1 g2 g3
      have hok := mains_ok HOK.out.mok k hlt
      have hm8 : ms.length ≤ 8 := by have := HOK.out.jl; have := HOK.out.ml; omega
      obtain ⟨i, hi⟩ : ∃ i : Nat, (rd_T54 ms k).f0 = (i : Int) := ⟨(rd_T54 ms k).f0.toNat, by omega⟩
      have hi9 : i < 9 := by omega
      have HKT := Aside0.mk (kidsL_take ms k hlt)
      rw [hi] at g0 HKT
      obtain ⟨m1, hm1⟩ : ∃ x, (rd_T54 ms k).f1 = x := ⟨_, rfl⟩
      obtain ⟨m2, hm2⟩ : ∃ x, (rd_T54 ms k).f2 = x := ⟨_, rfl⟩
      obtain ⟨m3, hm3⟩ : ∃ x, (rd_T54 ms k).f3 = x := ⟨_, rfl⟩
      rw [hm1] at g1
      rw [hm2] at g2
      rw [hm3] at g3
      clear hm1 hm2 hm3 hok hi
      obtain ⟨v, hv⟩ : ∃ v, vs[i]? = some v := ⟨vs[i]'(by rw [HM.out.len]; exact hi9), List.getElem?_eq_getElem _⟩
      obtain ⟨Av, cv, hve⟩ := Kd.R_slice (HM.out.own i v hv)
      subst hve
      have HV := Aside0.mk hv
      clear hv
      have HM2 := Aside0.mk (HM.out.next (below_alloc (Below.refl _ wr) (.cells #[.int .i64 (i : Int), .int .i64 m1, .int .i64 m2, .int .i64 m3] 54)))
      have BX := Aside0.mk (blk_new wr (.cells #[.int .i64 (i : Int), .int .i64 m1, .int .i64 m2, .int .i64 m3] 54))
      go_wp2_with (fail)
      generalize wr.alloc (.cells #[.int .i64 (i : Int), .int .i64 m1, .int .i64 m2, .int .i64 m3] 54) = W1 at HM2 BX ⊢
      generalize wr.heap.size = GB at BX ⊢
      clear g0 g1 g2 g3 HM
      have HLN : Aside0 (((kidsN (ms.take k) i).length + 1) * 8 ≤ 140737488355328) := ⟨by have := kidsL_len (ms.take k) 0 (i : Int); rw [List.length_take] at this; unfold kidsN; omega⟩
      have HNX : Aside0 (∀ j : Nat, (if j = i then kidsN (ms.take k) i ++ [(k : Int) + 1] else kidsN (ms.take k) j) = kidsN (ms.take (k + 1)) j) := ⟨fun j => by
        have h1 := HKT.out (j : Int)
        by_cases e : j = i
        · subst e
          rw [if_pos rfl]
          rw [if_pos rfl] at h1
          exact h1.symm
        · rw [if_neg e]
          rw [if_neg (by omega), List.append_nil] at h1
          exact h1.symm⟩
      have i0 : (0 : Int) ≤ (i : Int) := Int.natCast_nonneg i
      have i9 : (i : Int) < 9 := by omega
      have v1 : wrap64 ((k : Int) + 1) = (k : Int) + 1 := by unfold wrap64; omega
      generalize hL : kidsN (ms.take k) i = L at HLN
      have HL := Aside0.mk hL
      clear hL HKT
      have q0 : W1.cell? ⟨GB, 0, none⟩ = some (.int .i64 (i : Int)) := cell_two BX.out 0 rfl
      have q1 : W1.cell? ⟨w.heap.size + 1, 4 + i, none⟩ = some (.slice Av (kidsN (ms.take k) i).length cv) := cell_two HM2.out.blk (4 + i) ((net_slot _ _ _ _ _ _ _ _ vs i).trans HV.out)
      refine start_ (n := 18) (S := fun w' => w'.cell? ⟨GB, 0, none⟩ = some (.int .i64 (i : Int)) ∧ w'.cell? ⟨w.heap.size + 1, 4 + i, none⟩ = some (.slice Av (kidsN (ms.take k) i).length cv)) (ds := [17]) (bs_ 18 0) (by kernel_rfl) rfl rfl (⟨q0, q1⟩) (fun hHeld => ?_)
      clear q0 q1
      have HM3 := Aside0.mk (HM2.out.next (below_drew (Below.refl _ W1)))
      have BX3 := Aside0.mk (blk_drew BX.out)
      clear HM2 BX
      generalize W1.drew = W2 at HM3 BX3 hHeld ⊢
      refine pure_ (i := 0) (N := some 17) (v := ?_) (a' := ?_) (bs_ 18 1) rfl rfl (by kernel_rfl) (fun _ _ _ h => h) (Or.inl ⟨by rfl, ?_⟩) ?_ ?_; rotate_left; (· intro w'; go_simp; with_reducible rfl); rotate_left; (· simp only [Act.put, N1_]; rfl)
      refine pure_ (i := 1) (N := some 18) (v := ?_) (a' := ?_) (bs_ 18 3) rfl rfl (by kernel_rfl) (fun _ _ _ h => h) (Or.inl ⟨by rfl, ?_⟩) ?_ ?_; rotate_left; (· intro w'; go_simp; with_reducible rfl); rotate_left; (· simp only [Act.put, N1_]; rfl)
      refine take_ (i := 2) (N := some 19) (v := ?_) (a' := ?_) (bs_ 18 7) rfl rfl (by kernel_rfl) (fun _ _ _ h => h) (Or.inl ⟨by rfl, ?_⟩) hHeld ?_ ?_; rotate_left; (· rintro w' ⟨s0, s1⟩; go_simp; with_reducible rfl); rotate_left; (· simp only [Act.put, N1_]; rfl)
      refine pure_ (i := 3) (N := some 20) (v := ?_) (a' := ?_) (bs_ 18 15) rfl rfl (by kernel_rfl) (fun _ _ _ h => h) (Or.inl ⟨by rfl, ?_⟩) ?_ ?_; rotate_left; (· intro w'; go_simp; with_reducible rfl); rotate_left; (· simp only [Act.put, N1_]; rfl)
      refine pure_ (i := 4) (N := some 21) (v := ?_) (a' := ?_) (bs_ 18 31) rfl rfl (by kernel_rfl) (fun _ _ _ h => h) (Or.inl ⟨by rfl, ?_⟩) ?_ ?_; rotate_left; (· intro w'; go_simp; with_reducible rfl); rotate_left; (· simp only [Act.put, N1_]; rfl)
      refine take_ (i := 5) (N := some 22) (v := ?_) (a' := ?_) (bs_ 18 63) rfl rfl (by kernel_rfl) (fun _ _ _ h => h) (Or.inl ⟨by rfl, ?_⟩) hHeld ?_ ?_; rotate_left; (· rintro w' ⟨s0, s1⟩; go_simp; with_reducible rfl); rotate_left; (· simp only [Act.put, N1_]; rfl)
      refine pure_ (i := 6) (N := some 23) (v := ?_) (a' := ?_) (bs_ 18 127) rfl rfl (by kernel_rfl) (fun _ _ _ h => h) (Or.inl ⟨by rfl, ?_⟩) ?_ ?_; rotate_left; (· intro w'; go_simp; with_reducible rfl); rotate_left; (· simp only [Act.put, N1_]; rfl)
      refine pure_ (i := 7) (N := some 24) (v := ?_) (a' := ?_) (bs_ 18 255) rfl rfl (by kernel_rfl) (fun _ _ _ h => h) (Or.inl ⟨by rfl, ?_⟩) ?_ ?_; rotate_left; (· intro w'; go_simp; with_reducible rfl); rotate_left; (· simp only [Act.put, N1_]; rfl)
      refine pure_ (i := 8) (N := some 25) (v := ?_) (a' := ?_) (bs_ 18 511) rfl rfl (by kernel_rfl) (fun _ _ _ h => h) (Or.inl ⟨by rfl, ?_⟩) ?_ ?_; rotate_left; (· intro w'; go_simp; with_reducible rfl); rotate_left; (· simp only [Act.put, N1_]; rfl)
      refine take_ (i := 9) (N := some 26) (v := ?_) (a' := ?_) (bs_ 18 1023) rfl rfl (by kernel_rfl) (fun _ _ _ h => h) (Or.inl ⟨by rfl, ?_⟩) hHeld ?_ ?_; rotate_left; (· rintro w' ⟨s0, s1⟩; go_simp; with_reducible rfl); rotate_left; (· simp only [Act.put, N1_]; rfl)
      refine pure_ (i := 10) (N := some 27) (v := ?_) (a' := ?_) (bs_ 18 2047) rfl rfl (by kernel_rfl) (fun _ _ _ h => h) (Or.inl ⟨by rfl, ?_⟩) ?_ ?_; rotate_left; (· intro w'; go_simp; with_reducible rfl); rotate_left; (· simp only [Act.put, N1_]; rfl)
      refine pure_ (i := 11) (N := some 28) (v := ?_) (a' := ?_) (bs_ 18 4095) rfl rfl (by kernel_rfl) (fun _ _ _ h => h) (Or.inl ⟨by rfl, ?_⟩) ?_ ?_; rotate_left; (· intro w'; go_simp; with_reducible rfl); rotate_left; (· simp only [Act.put, N1_]; rfl)
      refine pure_ (i := 14) (N := some 31) (v := ?_) (a' := ?_) (bs_ 18 20479) rfl rfl (by kernel_rfl) (fun _ _ _ h => h) (Or.inl ⟨by rfl, ?_⟩) ?_ ?_; rotate_left; (· intro w'; go_simp; with_reducible rfl); rotate_left; (· simp only [Act.put, N1_]; rfl)
      refine pure_ (i := 15) (N := some 32) (v := ?_) (a' := ?_) (bs_ 18 53247) rfl rfl (by kernel_rfl) (fun _ _ _ h => h) (Or.inl ⟨by rfl, ?_⟩) ?_ ?_; rotate_left; (· intro w'; go_simp; with_reducible rfl); rotate_left; (· simp only [Act.put, N1_]; rfl)
      refine one_ (i := 12) (N := some 29) (bs_ 18 57343) rfl rfl (by kernel_rfl) (by decide) (fun K hK => ?_)
      go_simp
      clear hHeld
      have HM4 := Aside0.mk (HM3.out.next (below_alloc (Below.refl _ W2) (.cells #[.int .i64 ((k : Int) + 1)] 3)))
      have BX4 := Aside0.mk (blk_alloc BX3.out (.cells #[.int .i64 ((k : Int) + 1)] 3))
      refine hK.out _ _ ⟨cell_two BX4.out 0 rfl, cell_two HM4.out.blk (4 + i) ((net_slot _ _ _ _ _ _ _ _ vs i).trans HV.out)⟩ (fun hHeld => ?_)
      clear hK K
      refine one_ (i := 13) (N := some 30) (bs_ 18 65535) rfl rfl (by kernel_rfl) (by decide) (fun K hK => ?_)
      refine Kd.R_append_step (Kd.int .i64) (w0 := w) w.heap.size (by rfl) (.tmp 26) (.tmp 29) 37 3 (.int .i64 0) 8 (by rfl) Try.underlying37 info3 rfl (by decide) (by omega) (.slice Av (kidsN (ms.take k) i).length cv) (kidsN (ms.take k) i) ((k : Int) + 1) [.int .i64 ((k : Int) + 1)] (fun _ => True) (fun _ => False) rfl rfl rfl (fun _ hk => hk.elim) (fun _ _ => trivial) (HM3.out.own i _ HV.out) HM3.out.bel HM3.out.bel.size (by rw [HL.out]; exact HLN.out) ?_
      intro v2 W3 ho hb hg hat
      obtain ⟨A2, c2, rfl⟩ := Kd.R_slice ho
      have HM5 := Aside0.mk (Made.put HR.out HR'.out HM3.out HV.out ho hb hg hat)
      have bp := Aside0.mk (blk_grown HM3.out.blk hg (Kd.R_ne (HM3.out.own i _ HV.out) HM3.out.blk (by decide)))
      have bx := Aside0.mk (blk_grown BX3.out hg (Kd.R_ne (HM3.out.own i _ HV.out) BX3.out (by decide)))
      have t0 : W3.cell? ⟨GB, 0, none⟩ = some (.int .i64 (i : Int)) := cell_two bx.out 0 rfl
      have t1 : W3.cell? ⟨w.heap.size + 1, 4 + i, none⟩ = some (.slice Av (kidsN (ms.take k) i).length cv) := cell_two bp.out (4 + i) ((net_slot _ _ _ _ _ _ _ _ vs i).trans HV.out)
      have tf := blk_frozen bp.out (4 + i)
      clear ho hb hg hat HM4 BX4 hHeld
      refine hK.out _ _ ⟨t0, t1⟩ (fun hHeld => ?_)
      clear hK K
      refine norm_ (a' := ?_) ?_ ?_; rotate_left; (· show Act.put _ (some 30) _ = _; simp only [Act.put, N1_]; rfl)
      refine pure_ (i := 16) (N := some 33) (v := ?_) (a' := ?_) (bs_ 18 131071) rfl rfl (by kernel_rfl) (fun _ _ _ h => h) (Or.inl ⟨by rfl, ?_⟩) ?_ ?_; rotate_left; (· intro w'; go_simp; with_reducible rfl); rotate_left; (· simp only [Act.put, N1_]; rfl)
      refine last_ (i := 17) (N := none) (bs_ 18 262143) rfl rfl (by kernel_rfl) (by decide) (fun K hK => ?_)
      refine skip_ (w1 := ?_) (by rfl) rfl ?_ ?_; rotate_left; (· go_simp; rfl)
      refine hK.out _ _ ?_
      clear hK K
      refine done_ (by kernel_rfl) ?_
      rw [show (fun j : Nat => if j = i then kidsN (ms.take k) i ++ [(k : Int) + 1] else kidsN (ms.take k) j) = kidsN (ms.take (k + 1)) from funext HNX.out] at HM5
      simp only [List.length_append, List.length_cons, List.length_nil, Nat.zero_add] at HM5
      clear t0 t1 tf bp bx hHeld HNX
      generalize W3.setCell ⟨w.heap.size + 1, 4 + i, none⟩ _ = W4 at HM5 ⊢
      go_wp2_with (fail)
      go_roundw
      case rel => exact ⟨k + 1, _, by go_num, by omega, HM5⟩
      case measure => simp [intOf]; omega
    · have hlt' : decide ((k : Int) < (ms.length : Int)) = false := decide_eq_false (by omega)
      have e : k = ms.length := by omega
      have HM2 := HM.out
      rw [e, List.take_length] at HM2
      have HM3 := Aside0.mk HM2
      clear HM2 e
      go_wp2_with (fail)
      go_ret
      exact ⟨vs, rfl, HM3.out⟩
end Go.Proofs.Ytbjinkkmakhbaaa.Print
