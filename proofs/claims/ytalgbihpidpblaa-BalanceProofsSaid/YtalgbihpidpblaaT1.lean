/- All truths that go on from some numbers (the document's truths), walked. -/
import Derived.Test.YtalgbihpidpblaaM4
import Derived.Test.YtalgbihpidpblaaHH
namespace Go.Proofs.Ytalgbihpidpblaa.Print
open Go.RowKit Go.Shelf Go.Proofs.YtalgbihpidpblaaW.PrintWords Go.Proofs.YtalgbihpidpblaaW.PrintLast Go.Proofs.YtalgbihpidpblaaW.PrintMore
set_option linter.unusedVariables false
set_option linter.unusedSimpArgs false

def spanN (x : S47) : Nat := (x.f2.f1 - x.f2.f0 + 1).toNat
def spanL (x : S47) : List Int := (List.range (spanN x)).map fun i : Nat => x.f2.f0 + i
def truFrom (l : List S47) : List S47 → List Int → List (List Int)
  | [], b => if isB l b = true then [b] else []
  | x :: r, b => (spanL x).flatMap fun g => truFrom l r (b ++ [g])
def cnt : List S47 → Nat
  | [] => 1
  | x :: r => spanN x * cnt r
theorem truFrom_len (l : List S47) : ∀ (r : List S47) (b : List Int), (truFrom l r b).length ≤ cnt r
  | [], b => by
    unfold truFrom cnt
    split <;> simp
  | x :: r, b => by
    have h : ∀ (gs : List Int), (gs.flatMap fun g => truFrom l r (b ++ [g])).length ≤ gs.length * cnt r := by
      intro gs
      induction gs with
      | nil => simp
      | cons g q ih =>
        rw [List.flatMap_cons, List.length_append, List.length_cons, Nat.add_mul, Nat.one_mul]
        have := truFrom_len l r (b ++ [g])
        omega
    have := h (spanL x)
    simpa [truFrom, cnt, spanL] using this

abbrev kLI : Kd (List Int) := Kd.slice 3 (Kd.int .i64)
theorem info27 : (Try.prog.info? 27).map (fun i => (i.zero, i.size, i.bytes)) = some (some (.slice none 0 0), 1, 24) := by kernel_rfl
def TruPost (w0 w : World) (ok : Nat → Prop) (o : Value) (r : List (List Int)) (e : Ending) (w' : World) : Prop :=
  ∃ v', e = .returned v' ∧ kLI.R 27 w' w0.heap.size ok v' r ∧ Below w0.heap.size w0 w' ∧ w.grownBy w' o.ownBlock ∧ (v'.ownBlock = o.ownBlock ∨ ∃ k, v'.ownBlock = some k ∧ w.heap.size ≤ k)

theorem is_call {pl : Int} {A B : Option Addr} {c d : Nat} {l : List S47} {b : List Int} {r : Bool} {w : World} (h : isB l b = r) (hp : isPlantB pl l = true) (hr : Kd.C k47 w A l.length l) (hc : l.length ≤ c) (hs : Kd.C (Kd.int .i64) w B b.length b) (hd : b.length ≤ d) :
    Calls Try.prog 22 #[.agg #[.int .i64 pl, .slice A l.length c], .slice B b.length d] w fun e w' => e = .returned (.bool r) ∧ Below w.heap.size w w' := by
  subst h
  exact gasworksref04_Is.calls _ pl A c l B d b _ w hr hc hs hd (is_eq pl l b hp)

set_option maxHeartbeats 4000000 in
set_option maxRecDepth 100000 in
theorem truths_leaf (pl : Int) (A : Option Addr) (c : Nat) (l : List S47) (hp : isPlantB pl l = true) (w0 : World) (hr : Kd.C k47 w0 A l.length l) (hc : l.length ≤ c) (b : List Int) (hbl : b.length = l.length) (w : World) (ok okb : Nat → Prop) (Bb O : Option Addr) (cb co : Nat) (out : List (List Int)) (hB : Below w0.heap.size w0 w) (hb : (Kd.int .i64).R 3 w w0.heap.size okb (.slice Bb b.length cb) b) (hokb : ∀ k, okb k → ok k ∧ some k ≠ (Value.slice O out.length co).ownBlock) (hO : kLI.R 27 w w0.heap.size ok (.slice O out.length co) out) (hfr : ∀ k, w.heap.size ≤ k → ok k) (hcap : out.length + 1 ≤ 1099511627776) :
    Calls Try.prog 30 #[.agg #[.int .i64 pl, .slice A l.length c], .slice Bb b.length cb, .slice O out.length co] w (TruPost w0 w ok (.slice O out.length co) (out ++ truFrom l [] b)) := by
  have HR := Aside0.mk hr
  have HB := Aside0.mk hB
  have HBb := Aside0.mk hb
  have HO := Aside0.mk hO
  have HK := Aside0.mk hokb
  have HF := Aside0.mk hfr
  have HP := Aside0.mk hp
  clear hr hB hb hO hokb hfr hp
  have hl1 : ((b.length : Int) == (l.length : Int)) = true := by simp [hbl]
  clear hbl
  cases hI : isB l b with
  | true =>
    have hT : truFrom l [] b = [b] := by unfold truFrom; rw [if_pos hI]
    rw [hT]
    have HI := Aside0.mk hI
    clear hI hT
    go_enter Try.func30, Try.ntmps30
    go_wp2_with (first
      | (go_at_call 22; refine (is_call HI.out HP.out (Kd.C_below HR.out (below_alloc HB.out _)) hc (Kd.R_reads' (Kd.R_alloc HBb.out _)).2.2 (Kd.R_reads' HBb.out).2.1).mono ?_; rintro e W1 ⟨rfl, hb1⟩; have HW := Aside0.mk (bl_next (below_alloc (Below.refl w.heap.size w) _) hb1); have HB1 := Aside0.mk (bl_next (below_alloc HB.out _) hb1); have HBb1 := Aside0.mk (Kd.R_below (Kd.R_alloc HBb.out _) hb1); have HO1 := Aside0.mk (Kd.R_below (Kd.R_alloc HO.out _) hb1); clear hb1)
      | ((with_reducible refine gate_builtin (b := .append) (xs := #[.tmp 19, .tmp 21]) rfl ?_); at_builtin; refine Kd.R_append kLI (w0 := w0) w0.heap.size rfl (.tmp 19) (.tmp 21) 58 27 (.slice none 0 0) 24 rfl Try.underlying58 info27 rfl (by decide) (by omega) (.slice O out.length co) out b [.slice Bb b.length cb] ok okb rfl rfl ⟨_, rfl, HBb1.out⟩ HK.out (fun k hk => HF.out k (Nat.le_trans HW.out.size hk)) HO1.out HB1.out HB1.out.size (by omega) ?_; intro v1 w2 ho hbl hg hat; have HV := Aside0.mk ho; have HBV := Aside0.mk hbl; have HG := Aside0.mk hg; have HAT := Aside0.mk hat; clear ho hbl hg hat))
    go_ret
    exact ⟨v1, rfl, HV.out, HBV.out, (grown_of_below HW.out _).trans HG.out, HAT.out.imp id (fun ⟨k, a, h⟩ => ⟨k, a, Nat.le_trans HW.out.size h⟩)⟩
  | false =>
    have hT : truFrom l [] b = [] := by unfold truFrom; rw [if_neg (by rw [hI]; decide)]
    rw [hT, List.append_nil]
    have HI := Aside0.mk hI
    clear hI hT
    go_enter Try.func30, Try.ntmps30
    go_wp2_with (go_at_call 22; refine (is_call HI.out HP.out (Kd.C_below HR.out (below_alloc HB.out _)) hc (Kd.R_reads' (Kd.R_alloc HBb.out _)).2.2 (Kd.R_reads' HBb.out).2.1).mono ?_; rintro e W1 ⟨rfl, hb1⟩; have HW := Aside0.mk (bl_next (below_alloc (Below.refl w.heap.size w) _) hb1); have HB1 := Aside0.mk (bl_next (below_alloc HB.out _) hb1); have HO1 := Aside0.mk (Kd.R_below (Kd.R_alloc HO.out _) hb1); clear hb1)
    go_ret
    exact ⟨_, rfl, HO1.out, HB1.out, grown_of_below HW.out _, .inl rfl⟩

theorem cap_step (out : List (List Int)) (l rest : List S47) (b : List Int) (x : S47) (i : Nat) (hi : i < spanN x) (cur : List (List Int)) (hc : cur = out ++ ((spanL x).take i).flatMap (fun g => truFrom l rest (b ++ [g]))) (h : out.length + spanN x * cnt rest ≤ 1099511627776) : cur.length + cnt rest ≤ 1099511627776 := by
  have hf : ∀ gs : List Int, (gs.flatMap fun g => truFrom l rest (b ++ [g])).length ≤ gs.length * cnt rest := by
    intro gs
    induction gs with
    | nil => simp
    | cons g q ih =>
      rw [List.flatMap_cons, List.length_append, List.length_cons, Nat.add_mul, Nat.one_mul]
      have := truFrom_len l rest (b ++ [g])
      omega
  have h1 := hf ((spanL x).take i)
  have h2 : ((spanL x).take i).length = i := by simp [spanL]; omega
  rw [h2] at h1
  have h3 : (i + 1) * cnt rest ≤ spanN x * cnt rest := Nat.mul_le_mul_right _ (by omega)
  rw [Nat.add_mul, Nat.one_mul] at h3
  rw [hc, List.length_append]
  omega

theorem take_span (x : S47) (i : Nat) (h : i < spanN x) : (spanL x).take (i + 1) = (spanL x).take i ++ [x.f2.f0 + (i : Int)] := by
  have hl : i < (spanL x).length := by simpa [spanL] using h
  rw [List.take_succ_eq_append_getElem hl]
  simp [spanL]

set_option maxHeartbeats 8000000 in
set_option maxRecDepth 100000 in
theorem truths_step (pl : Int) (A : Option Addr) (c : Nat) (l : List S47) (hp : isPlantB pl l = true) (w0 : World) (hr : Kd.C k47 w0 A l.length l) (hc : l.length ≤ c) (b : List Int) (hbl : b.length < l.length) (x : S47) (hx : x = rd_T47 l b.length) (rest : List S47) (IH : ∀ (g : Int) (w : World) (ok okb : Nat → Prop) (Bb O : Option Addr) (cb co : Nat) (out : List (List Int)), Below w0.heap.size w0 w → (Kd.int .i64).R 3 w w0.heap.size okb (.slice Bb (b ++ [g]).length cb) (b ++ [g]) → (∀ k, okb k → ok k ∧ some k ≠ (Value.slice O out.length co).ownBlock) → kLI.R 27 w w0.heap.size ok (.slice O out.length co) out → (∀ k, w.heap.size ≤ k → ok k) → out.length + cnt rest ≤ 1099511627776 → Calls Try.prog 30 #[.agg #[.int .i64 pl, .slice A l.length c], .slice Bb (b ++ [g]).length cb, .slice O out.length co] w (TruPost w0 w ok (.slice O out.length co) (out ++ truFrom l rest (b ++ [g])))) (w : World) (ok okb : Nat → Prop) (Bb O : Option Addr) (cb co : Nat) (out : List (List Int)) (hB : Below w0.heap.size w0 w) (hb : (Kd.int .i64).R 3 w w0.heap.size okb (.slice Bb b.length cb) b) (hokb : ∀ k, okb k → ok k ∧ some k ≠ (Value.slice O out.length co).ownBlock) (hO : kLI.R 27 w w0.heap.size ok (.slice O out.length co) out) (hfr : ∀ k, w.heap.size ≤ k → ok k) (hcap : out.length + spanN x * cnt rest ≤ 1099511627776) :
    Calls Try.prog 30 #[.agg #[.int .i64 pl, .slice A l.length c], .slice Bb b.length cb, .slice O out.length co] w (TruPost w0 w ok (.slice O out.length co) (out ++ (spanL x).flatMap fun g => truFrom l rest (b ++ [g]))) := by
  have hg := (plant_of pl l hp).2.2.2
  have hgx : goodF pl x := by rw [hx]; exact rd_good pl l hg _ (by omega) (by omega)
  have h16 := (plant_of pl l hp).2.2.1
  unfold goodF at hgx
  have hx0 := hgx.2.2.2.2.2
  clear hgx hg
  have HR := Aside0.mk hr
  have HB := Aside0.mk hB
  have HBb := Aside0.mk hb
  have HO0 := Aside0.mk hO
  have HK := Aside0.mk hokb
  have HF := Aside0.mk hfr
  have hl1 : ((b.length : Int) == (l.length : Int)) = false := by simp; omega
  have hi0 : (0 : Int) ≤ (b.length : Int) := by omega
  have hi1 : (b.length : Int) < (l.length : Int) := by omega
  obtain ⟨ad, eA, g0, g1, g2, g3⟩ := at_T47 (Kd.C_below hr (below_alloc hB (.cells #[.int .i64 pl, .slice A l.length c] 24))) b.length hi0 hi1
  rw [← hx] at g0 g1 g2 g3
  simp only [Int.toNat_natCast] at g0 g1 g2 g3
  clear g0 g1
  have hNP0 : ∀ k, (Value.slice O out.length co).ownBlock = some k → k < w.heap.size := Kd.R_lt hO
  clear hr hB hb hO hokb hfr hp
  cases eA
  have HIH := Aside0.mk IH
  have HX0 := Aside0.mk hx
  clear IH hx
  go_enter Try.func30, Try.ntmps30
  go_wp2_with (fail)
  go_loopw [2, 8] (fun o g wr => ∃ (i : Nat) (Oc : Option Addr) (cc : Nat) (cur : List (List Int)), g = .int .i64 (x.f2.f0 + (i : Int)) ∧ o = .slice Oc cur.length cc ∧ i ≤ spanN x ∧ Aside0 (cur = out ++ ((spanL x).take i).flatMap (fun g => truFrom l rest (b ++ [g]))) ∧
    Aside0 (wr.heap[w.heap.size]? = some (.cells #[.int .i64 pl, .slice (some ad) l.length c] 24 (0, 0))) ∧ Aside0 (kLI.R 27 wr w0.heap.size ok (.slice Oc cur.length cc) cur) ∧ Aside0 (Below w0.heap.size w0 wr) ∧
    Aside0 (w.grownBy wr (Value.slice O out.length co).ownBlock) ∧ Aside0 ((Value.slice Oc cur.length cc).ownBlock = (Value.slice O out.length co).ownBlock ∨ ∃ k, (Value.slice Oc cur.length cc).ownBlock = some k ∧ w.heap.size ≤ k)) (fun _ g _ => spanN x - (intOf g - x.f2.f0).toNat)
  case atStart => exact ⟨0, O, co, out, by simp, rfl, by omega, ⟨by simp⟩, ⟨blk_new w _⟩, ⟨Kd.R_alloc HO0.out _⟩, ⟨below_alloc HB.out _⟩, ⟨grown_of_below (below_alloc (Below.refl _ _) _) _⟩, ⟨.inl rfl⟩⟩
  case round =>
    obtain ⟨i, Oc, cc, cur, rfl, rfl, hi, HCUR, BPr, HO, HBw, HG, HAT⟩ := hrel
    have s0 := cell_two BPr.out 0 rfl
    have s1 := cell_two BPr.out 1 rfl
    obtain ⟨ad', e, _, _, _, f3⟩ := at_T47 (Kd.C_below HR.out HBw.out) b.length hi0 hi1
    cases e
    rw [← HX0.out] at f3
    simp only [Int.toNat_natCast] at f3
    have hsp : (spanN x : Int) = x.f2.f1 - x.f2.f0 + 1 := by unfold spanN; omega
    by_cases hlt : i < spanN x
    · have hle : decide (x.f2.f0 + (i : Int) ≤ x.f2.f1) = true := decide_eq_true (by omega)
      have hb9 : 0 ≤ x.f2.f0 + (i : Int) ∧ x.f2.f0 + (i : Int) ≤ 1073741824 := by omega
      have HNP : Aside0 (some w.heap.size ≠ (Value.slice Oc cur.length cc).ownBlock) := ⟨Kd.R_ne HO.out BPr.out (by decide)⟩
      have HBr0 := Aside0.mk (Kd.R_grown HBb.out HG.out (fun k hk => (HK.out k hk).2))
      have hcap2 : cur.length + cnt rest ≤ 1099511627776 := cap_step out l rest b x i hlt cur HCUR.out hcap
      go_wp2_with (fail)
      refine wp_region_held_drew (S := fun w' => w'.cell? ⟨w.heap.size, 0, none⟩ = some (.int .i64 pl) ∧ w'.cell? ⟨w.heap.size, 1, none⟩ = some (.slice (some ad) l.length c)) (by kernel_rfl) (⟨s0, s1⟩) (fun hHeld => ?_)
      have HBr := Aside0.mk (Below.refl wr.heap.size wr).drew
      clear s0 s1
      generalize hWd : wr.drew = Wd at *
      clear hWd
      refine wpAnyH_take (i := 0) (oi := { dst := some 42, op := Op.load 24 (Operand.tmp 3), type := 24, pos := "ref.go:61", after := #[], guard := none }) (v := ?vc1) rfl (by kernel_rfl) (by kernel_rfl) (by kernel_rfl) (fun _ _ _ h => h) (Or.inl ⟨by rfl, ?hyc1⟩) (by assumption) ?_
      case hyc1 => (intro wq hSw; (try dsimp only at hSw); go_simp; try (with_reducible rfl))
      try simp only [Act.put, List.setIfInBounds_toArray, List.set_cons_zero, List.set_cons_succ]
      refine wpAnyH_take (i := 2) (oi := { dst := some 44, op := Op.move (Operand.tmp 1), type := 27, pos := "ref.go:61", after := #[], guard := none }) (v := ?vc2) rfl (by kernel_rfl) (by kernel_rfl) (by kernel_rfl) (fun _ _ _ h => h) (Or.inl ⟨by rfl, ?hyc2⟩) (by assumption) ?_
      case hyc2 => (intro wq hSw; (try dsimp only at hSw); go_simp; try (with_reducible rfl))
      try simp only [Act.put, List.setIfInBounds_toArray, List.set_cons_zero, List.set_cons_succ]
      refine wpAnyH_take (i := 4) (oi := { dst := some 46, op := Op.move (Operand.tmp 8), type := 3, pos := "ref.go:61", after := #[], guard := none }) (v := ?vc3) rfl (by kernel_rfl) (by kernel_rfl) (by kernel_rfl) (fun _ _ _ h => h) (Or.inl ⟨by rfl, ?hyc3⟩) (by assumption) ?_
      case hyc3 => (intro wq hSw; (try dsimp only at hSw); go_simp; try (with_reducible rfl))
      try simp only [Act.put, List.setIfInBounds_toArray, List.set_cons_zero, List.set_cons_succ]
      refine wpAnyH_take (i := 7) (oi := { dst := some 49, op := Op.move (Operand.tmp 2), type := 58, pos := "ref.go:61", after := #[], guard := none }) (v := ?vc4) rfl (by kernel_rfl) (by kernel_rfl) (by kernel_rfl) (fun _ _ _ h => h) (Or.inl ⟨by rfl, ?hyc4⟩) (by assumption) ?_
      case hyc4 => (intro wq hSw; (try dsimp only at hSw); go_simp; try (with_reducible rfl))
      try simp only [Act.put, List.setIfInBounds_toArray, List.set_cons_zero, List.set_cons_succ]
      refine wpAnyH_ready (rs := [1, 5]) (by kernel_rfl) (by simp) ?_
      refine AllReadyH.cons (o := { dst := some 43, op := Op.buildSlice 27 0 #[], type := 27, pos := "ref.go:61", after := #[], guard := none }) rfl (fun K hK => ?_) ?_
      · refine Kd.R_lit_step (Kd.int .i64) (w0 := wr) wr.heap.size 3 ?hg1 (N := 43) ?hd1 (xs := ([] : List Int)) (inner := []) (ok := fun k => wr.heap.size ≤ k) (okp := fun _ => False) ?hr1 (Reps.none _ _) (fun _ hk => hk.elim) HBr.out.size HBr.out HBr.out.size (by simp) ?_
        case hg1 => rfl
        case hd1 => rfl
        case hr1 => first | (go_simp; done) | (go_simp; rfl)
        intro v43 Wl1 ho hbl hgr hnew
        clear HBr
        have HBr := Aside0.mk hbl
        have HE := Aside0.mk ho
        clear ho hbl hgr hnew
        have s0 := cell_two (blk_below BPr.out HBr.out) 0 rfl
        have s1 := cell_two (blk_below BPr.out HBr.out) 1 rfl
        refine hK.out _ _ ⟨s0, s1⟩ (fun hHeld => ?_)
        clear s0 s1
        clear hK K
        try simp only [Act.put, List.setIfInBounds_toArray, List.set_cons_zero, List.set_cons_succ]
        refine wpAnyH_ready (rs := [3, 5]) (by kernel_rfl) (by simp) ?_
        refine AllReadyH.cons (o := { dst := some 45, op := Op.call { callee := Callee.builtin Builtin.append, args := #[Operand.tmp 43, Operand.tmp 44], argTypes := #[27, 27] }, type := 27, pos := "ref.go:61", after := #[{ on := 1, ground := Ground.data }, { on := 2, ground := Ground.data }], guard := none }) rfl (fun K hK => ?_) ?_
        · refine Kd.R_append_rows_step (Kd.int .i64) (w0 := wr) wr.heap.size (by rfl) (.tmp 43) (.tmp 44) 27 3 (.int .i64 0) 8 rfl Try.underlying27 info3 rfl (by decide) (by omega) v43 [] b _ _ _ (fun k => wr.heap.size ≤ k) (fun _ => False) rfl rfl HE.out (Kd.R_reads' (Kd.R_below HBr0.out HBr.out)).2.2 (fun _ _ h => h) (fun _ h => h.elim) (fun k hk => Nat.le_trans HBr.out.size hk) HBr.out HBr.out.size (by first | omega | (simp; omega)) ?_
          intro v45 Wp2 ho hbl hgr hat
          clear HBr HE
          have HBr := Aside0.mk hbl
          have HE : Aside0 ((Kd.int .i64).R 3 Wp2 wr.heap.size (fun k => wr.heap.size ≤ k) v45 (b)) := ⟨ho⟩
          clear ho hbl hgr hat
          have s0 := cell_two (blk_below BPr.out HBr.out) 0 rfl
          have s1 := cell_two (blk_below BPr.out HBr.out) 1 rfl
          refine hK.out _ _ ⟨s0, s1⟩ (fun hHeld => ?_)
          clear s0 s1
          clear hK K
          try simp only [Act.put, List.setIfInBounds_toArray, List.set_cons_zero, List.set_cons_succ]
          refine wpAnyH_ready (rs := [5]) (by kernel_rfl) (by simp) ?_
          refine AllReadyH.cons (o := { dst := some 47, op := Op.buildSlice 27 1 #[(0, Operand.tmp 46)], type := 27, pos := "ref.go:61", after := #[{ on := 4, ground := Ground.data }], guard := none }) rfl (fun K hK => ?_) ?_
          · go_simp
            have HX := Aside0.mk (blk_new Wp2 (.cells #[.int .i64 (x.f2.f0 + (i : Int))] 3))
            have HNE : Aside0 (some Wp2.heap.size ≠ v45.ownBlock) := ⟨fun e => Nat.lt_irrefl _ (Kd.R_lt HE.out _ e.symm)⟩
            have NE := Aside0.mk (Kd.R_alloc HE.out (.cells #[.int .i64 (x.f2.f0 + (i : Int))] 3))
            clear HE
            have HE := NE
            clear NE
            have NB := Aside0.mk (below_alloc HBr.out (.cells #[.int .i64 (x.f2.f0 + (i : Int))] 3))
            clear HBr
            have HBr := NB
            clear NB
            have s0 := cell_two (blk_below BPr.out HBr.out) 0 rfl
            have s1 := cell_two (blk_below BPr.out HBr.out) 1 rfl
            refine hK.out _ _ ⟨s0, s1⟩ (fun hHeld => ?_)
            clear s0 s1
            generalize Wp2.alloc (.cells #[.int .i64 (x.f2.f0 + (i : Int))] 3) = Wb3 at *
            generalize Wp2.heap.size = gx at *
            clear hK K
            try simp only [Act.put, List.setIfInBounds_toArray, List.set_cons_zero, List.set_cons_succ]
            refine wpAnyH_ready (rs := [6]) (by kernel_rfl) (by simp) ?_
            refine AllReadyH.cons (o := { dst := some 48, op := Op.call { callee := Callee.builtin Builtin.append, args := #[Operand.tmp 45, Operand.tmp 47], argTypes := #[27, 27] }, type := 27, pos := "ref.go:61", after := #[{ on := 3, ground := Ground.data }, { on := 5, ground := Ground.data }, { on := 3, ground := Ground.chain }], guard := none }) rfl (fun K hK => ?_) ?_
            · refine Kd.R_append_rows_step (Kd.int .i64) (w0 := wr) wr.heap.size (by rfl) (.tmp 45) (.tmp 47) 27 3 (.int .i64 0) 8 rfl Try.underlying27 info3 rfl (by decide) (by omega) v45 b [x.f2.f0 + (i : Int)] _ _ _ (fun k => wr.heap.size ≤ k) (fun _ => False) rfl rfl HE.out (CI_of_blk (cur := [x.f2.f0 + (i : Int)]) HX.out (by simp)) (fun _ _ h => h) (fun _ h => h.elim) (fun k hk => Nat.le_trans HBr.out.size hk) HBr.out HBr.out.size (by first | omega | (simp; omega)) ?_
              intro v48 Wp4 ho hbl hgr hat
              clear HBr HE
              have HBr := Aside0.mk hbl
              have HE : Aside0 ((Kd.int .i64).R 3 Wp4 wr.heap.size (fun k => wr.heap.size ≤ k) v48 (b ++ [x.f2.f0 + (i : Int)])) := ⟨ho⟩
              clear ho hbl hgr hat
              have s0 := cell_two (blk_below BPr.out HBr.out) 0 rfl
              have s1 := cell_two (blk_below BPr.out HBr.out) 1 rfl
              refine hK.out _ _ ⟨s0, s1⟩ (fun hHeld => ?_)
              clear s0 s1
              clear hK K
              try simp only [Act.put, List.setIfInBounds_toArray, List.set_cons_zero, List.set_cons_succ]
              refine wpAnyH_ready (rs := [8]) (by kernel_rfl) (by simp) ?_
              refine AllReadyH.cons (o := { dst := some 50, op := Op.call { callee := Callee.value (Operand.func 30), args := #[Operand.tmp 42, Operand.tmp 48, Operand.tmp 49], argTypes := #[24, 27, 58] }, type := 58, pos := "ref.go:61", after := #[{ on := 0, ground := Ground.data }, { on := 6, ground := Ground.data }, { on := 7, ground := Ground.data }, { on := 6, ground := Ground.chain }], guard := none }) rfl (fun K hK => ?_) ?_
              · obtain ⟨b2, hb2⟩ : ∃ b2, b2 = b ++ [x.f2.f0 + (i : Int)] := ⟨_, rfl⟩
                have HE2 : Aside0 ((Kd.int .i64).R 3 Wp4 wr.heap.size (fun k => wr.heap.size ≤ k) v48 b2) := ⟨by rw [hb2]; exact HE.out⟩
                have hI := HIH.out (x.f2.f0 + (i : Int))
                rw [← hb2] at hI
                have HI := Aside0.mk hI
                have HB2 := Aside0.mk hb2
                clear HE hI hb2
                obtain ⟨A48, c48, rfl⟩ := Kd.R_slice HE2.out
                go_simp
                have HGp := Aside0.mk (HG.out.trans (grown_of_below HBr.out (Value.slice O out.length co).ownBlock))
                have HWs := HBr.out.size
                refine (HI.out _ ok (fun k => wr.heap.size ≤ k) _ _ _ _ cur (bl_next HBw.out HBr.out) (Kd.R_lower HE2.out HBw.out.size) (fun k hk => ⟨HF.out k (Nat.le_trans HG.out.size hk), fun e => absurd (Kd.R_lt HO.out _ e.symm) (by omega)⟩) (Kd.R_below HO.out HBr.out) (fun k hk => HF.out k (Nat.le_trans HG.out.size (Nat.le_trans HBr.out.size hk))) hcap2).mono ?_
                rintro e Wr5 ⟨v50, rfl, hR, hbl, hgr, hat⟩
                have HBP := Aside0.mk (blk_grown (blk_below BPr.out HBr.out) hgr HNP.out)
                have s0 := cell_two HBP.out 0 rfl
                have s1 := cell_two HBP.out 1 rfl
                have HV := Aside0.mk hR
                have HVB := Aside0.mk hbl
                have HVG : Aside0 (w.grownBy Wr5 (Value.slice O out.length co).ownBlock) := ⟨HGp.out.andThen hgr (fun j hj => by rcases HAT.out with e1 | ⟨kk, e1, e2⟩; (right; rw [← e1]; exact hj); (left; rw [e1] at hj; injection hj with hj; omega))⟩
                have HVA : Aside0 (v50.ownBlock = (Value.slice O out.length co).ownBlock ∨ ∃ k, v50.ownBlock = some k ∧ w.heap.size ≤ k) := ⟨by rcases hat with e1 | ⟨kk, e1, e2⟩; (rw [e1]; exact HAT.out); (exact .inr ⟨kk, e1, Nat.le_trans HG.out.size (Nat.le_trans HWs e2)⟩)⟩
                clear hR hbl hgr hat HWs HGp
                refine hK.out _ _ ⟨s0, s1⟩ (fun hHeld => ?_)
                clear s0 s1
                clear hK K
                try simp only [Act.put, List.setIfInBounds_toArray, List.set_cons_zero, List.set_cons_succ]
                refine wpAnyH_take (i := 9) (oi := { dst := some 2, op := Op.assign (Operand.tmp 50), type := 58, pos := "ref.go:61", after := #[{ on := 8, ground := Ground.data }, { on := 8, ground := Ground.chain }, { on := 0, ground := Ground.phase }, { on := 1, ground := Ground.phase }, { on := 2, ground := Ground.phase }, { on := 3, ground := Ground.phase }, { on := 4, ground := Ground.phase }, { on := 5, ground := Ground.phase }, { on := 6, ground := Ground.phase }, { on := 7, ground := Ground.phase }, { on := 8, ground := Ground.phase }], guard := none }) (v := ?vc5) rfl (by kernel_rfl) (by kernel_rfl) (by kernel_rfl) (fun _ _ _ h => h) (Or.inl ⟨by rfl, ?hyc5⟩) (by assumption) ?_
                case hyc5 => (intro wq hSw; (try dsimp only at hSw); go_simp; try (with_reducible rfl))
                try simp only [Act.put, List.setIfInBounds_toArray, List.set_cons_zero, List.set_cons_succ]
                refine wpAnyH_done (by kernel_rfl) ?_ _
                obtain ⟨A50, c50, rfl⟩ := Kd.R_slice HV.out
                go_wp2_with (fail)
                go_roundw
                case rel =>
                  refine ⟨i + 1, A50, c50, cur ++ truFrom l rest b2, ?_, rfl, by omega, ⟨?_⟩, HBP, HV, HVB, HVG, HVA⟩
                  · show Value.int .i64 _ = Value.int .i64 _
                    congr 1
                    omega
                  · rw [HB2.out, HCUR.out, take_span x i hlt, List.flatMap_append, List.flatMap_cons, List.flatMap_nil, List.append_nil, List.append_assoc]
                case measure => simp [intOf]; omega
              exact AllReadyH.nil
            exact AllReadyH.nil
          exact AllReadyH.nil
        refine AllReadyH.cons (o := { dst := some 47, op := Op.buildSlice 27 1 #[(0, Operand.tmp 46)], type := 27, pos := "ref.go:61", after := #[{ on := 4, ground := Ground.data }], guard := none }) rfl (fun K hK => ?_) ?_
        · go_simp
          have HX := Aside0.mk (blk_new Wl1 (.cells #[.int .i64 (x.f2.f0 + (i : Int))] 3))
          have HNE : Aside0 (some Wl1.heap.size ≠ v43.ownBlock) := ⟨fun e => Nat.lt_irrefl _ (Kd.R_lt HE.out _ e.symm)⟩
          have NE := Aside0.mk (Kd.R_alloc HE.out (.cells #[.int .i64 (x.f2.f0 + (i : Int))] 3))
          clear HE
          have HE := NE
          clear NE
          have NB := Aside0.mk (below_alloc HBr.out (.cells #[.int .i64 (x.f2.f0 + (i : Int))] 3))
          clear HBr
          have HBr := NB
          clear NB
          have s0 := cell_two (blk_below BPr.out HBr.out) 0 rfl
          have s1 := cell_two (blk_below BPr.out HBr.out) 1 rfl
          refine hK.out _ _ ⟨s0, s1⟩ (fun hHeld => ?_)
          clear s0 s1
          generalize Wl1.alloc (.cells #[.int .i64 (x.f2.f0 + (i : Int))] 3) = Wb6 at *
          generalize Wl1.heap.size = gx at *
          clear hK K
          try simp only [Act.put, List.setIfInBounds_toArray, List.set_cons_zero, List.set_cons_succ]
          refine wpAnyH_ready (rs := [3]) (by kernel_rfl) (by simp) ?_
          refine AllReadyH.cons (o := { dst := some 45, op := Op.call { callee := Callee.builtin Builtin.append, args := #[Operand.tmp 43, Operand.tmp 44], argTypes := #[27, 27] }, type := 27, pos := "ref.go:61", after := #[{ on := 1, ground := Ground.data }, { on := 2, ground := Ground.data }], guard := none }) rfl (fun K hK => ?_) ?_
          · refine Kd.R_append_rows_step (Kd.int .i64) (w0 := wr) wr.heap.size (by rfl) (.tmp 43) (.tmp 44) 27 3 (.int .i64 0) 8 rfl Try.underlying27 info3 rfl (by decide) (by omega) v43 [] b _ _ _ (fun k => wr.heap.size ≤ k) (fun _ => False) rfl rfl HE.out (Kd.R_reads' (Kd.R_below HBr0.out HBr.out)).2.2 (fun _ _ h => h) (fun _ h => h.elim) (fun k hk => Nat.le_trans HBr.out.size hk) HBr.out HBr.out.size (by first | omega | (simp; omega)) ?_
            intro v45 Wp7 ho hbl hgr hat
            have NX := Aside0.mk (blk_grown HX.out hgr HNE.out)
            have NNE : Aside0 (some gx ≠ v45.ownBlock) := ⟨by rcases hat with e1 | ⟨kk, e1, e2⟩; (rw [e1]; exact HNE.out); (rw [e1]; intro e3; injection e3 with e3; have := blk_lt HX.out; omega)⟩
            clear HX HNE
            have HX := NX
            have HNE := NNE
            clear NX NNE
            clear HBr HE
            have HBr := Aside0.mk hbl
            have HE : Aside0 ((Kd.int .i64).R 3 Wp7 wr.heap.size (fun k => wr.heap.size ≤ k) v45 (b)) := ⟨ho⟩
            clear ho hbl hgr hat
            have s0 := cell_two (blk_below BPr.out HBr.out) 0 rfl
            have s1 := cell_two (blk_below BPr.out HBr.out) 1 rfl
            refine hK.out _ _ ⟨s0, s1⟩ (fun hHeld => ?_)
            clear s0 s1
            clear hK K
            try simp only [Act.put, List.setIfInBounds_toArray, List.set_cons_zero, List.set_cons_succ]
            refine wpAnyH_ready (rs := [6]) (by kernel_rfl) (by simp) ?_
            refine AllReadyH.cons (o := { dst := some 48, op := Op.call { callee := Callee.builtin Builtin.append, args := #[Operand.tmp 45, Operand.tmp 47], argTypes := #[27, 27] }, type := 27, pos := "ref.go:61", after := #[{ on := 3, ground := Ground.data }, { on := 5, ground := Ground.data }, { on := 3, ground := Ground.chain }], guard := none }) rfl (fun K hK => ?_) ?_
            · refine Kd.R_append_rows_step (Kd.int .i64) (w0 := wr) wr.heap.size (by rfl) (.tmp 45) (.tmp 47) 27 3 (.int .i64 0) 8 rfl Try.underlying27 info3 rfl (by decide) (by omega) v45 b [x.f2.f0 + (i : Int)] _ _ _ (fun k => wr.heap.size ≤ k) (fun _ => False) rfl rfl HE.out (CI_of_blk (cur := [x.f2.f0 + (i : Int)]) HX.out (by simp)) (fun _ _ h => h) (fun _ h => h.elim) (fun k hk => Nat.le_trans HBr.out.size hk) HBr.out HBr.out.size (by first | omega | (simp; omega)) ?_
              intro v48 Wp8 ho hbl hgr hat
              clear HBr HE
              have HBr := Aside0.mk hbl
              have HE : Aside0 ((Kd.int .i64).R 3 Wp8 wr.heap.size (fun k => wr.heap.size ≤ k) v48 (b ++ [x.f2.f0 + (i : Int)])) := ⟨ho⟩
              clear ho hbl hgr hat
              have s0 := cell_two (blk_below BPr.out HBr.out) 0 rfl
              have s1 := cell_two (blk_below BPr.out HBr.out) 1 rfl
              refine hK.out _ _ ⟨s0, s1⟩ (fun hHeld => ?_)
              clear s0 s1
              clear hK K
              try simp only [Act.put, List.setIfInBounds_toArray, List.set_cons_zero, List.set_cons_succ]
              refine wpAnyH_ready (rs := [8]) (by kernel_rfl) (by simp) ?_
              refine AllReadyH.cons (o := { dst := some 50, op := Op.call { callee := Callee.value (Operand.func 30), args := #[Operand.tmp 42, Operand.tmp 48, Operand.tmp 49], argTypes := #[24, 27, 58] }, type := 58, pos := "ref.go:61", after := #[{ on := 0, ground := Ground.data }, { on := 6, ground := Ground.data }, { on := 7, ground := Ground.data }, { on := 6, ground := Ground.chain }], guard := none }) rfl (fun K hK => ?_) ?_
              · obtain ⟨b2, hb2⟩ : ∃ b2, b2 = b ++ [x.f2.f0 + (i : Int)] := ⟨_, rfl⟩
                have HE2 : Aside0 ((Kd.int .i64).R 3 Wp8 wr.heap.size (fun k => wr.heap.size ≤ k) v48 b2) := ⟨by rw [hb2]; exact HE.out⟩
                have hI := HIH.out (x.f2.f0 + (i : Int))
                rw [← hb2] at hI
                have HI := Aside0.mk hI
                have HB2 := Aside0.mk hb2
                clear HE hI hb2
                obtain ⟨A48, c48, rfl⟩ := Kd.R_slice HE2.out
                go_simp
                have HGp := Aside0.mk (HG.out.trans (grown_of_below HBr.out (Value.slice O out.length co).ownBlock))
                have HWs := HBr.out.size
                refine (HI.out _ ok (fun k => wr.heap.size ≤ k) _ _ _ _ cur (bl_next HBw.out HBr.out) (Kd.R_lower HE2.out HBw.out.size) (fun k hk => ⟨HF.out k (Nat.le_trans HG.out.size hk), fun e => absurd (Kd.R_lt HO.out _ e.symm) (by omega)⟩) (Kd.R_below HO.out HBr.out) (fun k hk => HF.out k (Nat.le_trans HG.out.size (Nat.le_trans HBr.out.size hk))) hcap2).mono ?_
                rintro e Wr9 ⟨v50, rfl, hR, hbl, hgr, hat⟩
                have HBP := Aside0.mk (blk_grown (blk_below BPr.out HBr.out) hgr HNP.out)
                have s0 := cell_two HBP.out 0 rfl
                have s1 := cell_two HBP.out 1 rfl
                have HV := Aside0.mk hR
                have HVB := Aside0.mk hbl
                have HVG : Aside0 (w.grownBy Wr9 (Value.slice O out.length co).ownBlock) := ⟨HGp.out.andThen hgr (fun j hj => by rcases HAT.out with e1 | ⟨kk, e1, e2⟩; (right; rw [← e1]; exact hj); (left; rw [e1] at hj; injection hj with hj; omega))⟩
                have HVA : Aside0 (v50.ownBlock = (Value.slice O out.length co).ownBlock ∨ ∃ k, v50.ownBlock = some k ∧ w.heap.size ≤ k) := ⟨by rcases hat with e1 | ⟨kk, e1, e2⟩; (rw [e1]; exact HAT.out); (exact .inr ⟨kk, e1, Nat.le_trans HG.out.size (Nat.le_trans HWs e2)⟩)⟩
                clear hR hbl hgr hat HWs HGp
                refine hK.out _ _ ⟨s0, s1⟩ (fun hHeld => ?_)
                clear s0 s1
                clear hK K
                try simp only [Act.put, List.setIfInBounds_toArray, List.set_cons_zero, List.set_cons_succ]
                refine wpAnyH_take (i := 9) (oi := { dst := some 2, op := Op.assign (Operand.tmp 50), type := 58, pos := "ref.go:61", after := #[{ on := 8, ground := Ground.data }, { on := 8, ground := Ground.chain }, { on := 0, ground := Ground.phase }, { on := 1, ground := Ground.phase }, { on := 2, ground := Ground.phase }, { on := 3, ground := Ground.phase }, { on := 4, ground := Ground.phase }, { on := 5, ground := Ground.phase }, { on := 6, ground := Ground.phase }, { on := 7, ground := Ground.phase }, { on := 8, ground := Ground.phase }], guard := none }) (v := ?vc6) rfl (by kernel_rfl) (by kernel_rfl) (by kernel_rfl) (fun _ _ _ h => h) (Or.inl ⟨by rfl, ?hyc6⟩) (by assumption) ?_
                case hyc6 => (intro wq hSw; (try dsimp only at hSw); go_simp; try (with_reducible rfl))
                try simp only [Act.put, List.setIfInBounds_toArray, List.set_cons_zero, List.set_cons_succ]
                refine wpAnyH_done (by kernel_rfl) ?_ _
                obtain ⟨A50, c50, rfl⟩ := Kd.R_slice HV.out
                go_wp2_with (fail)
                go_roundw
                case rel =>
                  refine ⟨i + 1, A50, c50, cur ++ truFrom l rest b2, ?_, rfl, by omega, ⟨?_⟩, HBP, HV, HVB, HVG, HVA⟩
                  · show Value.int .i64 _ = Value.int .i64 _
                    congr 1
                    omega
                  · rw [HB2.out, HCUR.out, take_span x i hlt, List.flatMap_append, List.flatMap_cons, List.flatMap_nil, List.append_nil, List.append_assoc]
                case measure => simp [intOf]; omega
              exact AllReadyH.nil
            exact AllReadyH.nil
          exact AllReadyH.nil
        exact AllReadyH.nil
      refine AllReadyH.cons (o := { dst := some 47, op := Op.buildSlice 27 1 #[(0, Operand.tmp 46)], type := 27, pos := "ref.go:61", after := #[{ on := 4, ground := Ground.data }], guard := none }) rfl (fun K hK => ?_) ?_
      · go_simp
        have HX := Aside0.mk (blk_new Wd (.cells #[.int .i64 (x.f2.f0 + (i : Int))] 3))
        have NB := Aside0.mk (below_alloc HBr.out (.cells #[.int .i64 (x.f2.f0 + (i : Int))] 3))
        clear HBr
        have HBr := NB
        clear NB
        have s0 := cell_two (blk_below BPr.out HBr.out) 0 rfl
        have s1 := cell_two (blk_below BPr.out HBr.out) 1 rfl
        refine hK.out _ _ ⟨s0, s1⟩ (fun hHeld => ?_)
        clear s0 s1
        generalize Wd.alloc (.cells #[.int .i64 (x.f2.f0 + (i : Int))] 3) = Wb10 at *
        generalize Wd.heap.size = gx at *
        clear hK K
        try simp only [Act.put, List.setIfInBounds_toArray, List.set_cons_zero, List.set_cons_succ]
        refine wpAnyH_ready (rs := [1]) (by kernel_rfl) (by simp) ?_
        refine AllReadyH.cons (o := { dst := some 43, op := Op.buildSlice 27 0 #[], type := 27, pos := "ref.go:61", after := #[], guard := none }) rfl (fun K hK => ?_) ?_
        · refine Kd.R_lit_step (Kd.int .i64) (w0 := wr) wr.heap.size 3 ?hg11 (N := 43) ?hd11 (xs := ([] : List Int)) (inner := []) (ok := fun k => wr.heap.size ≤ k) (okp := fun _ => False) ?hr11 (Reps.none _ _) (fun _ hk => hk.elim) HBr.out.size HBr.out HBr.out.size (by simp) ?_
          case hg11 => rfl
          case hd11 => rfl
          case hr11 => first | (go_simp; done) | (go_simp; rfl)
          intro v43 Wl11 ho hbl hgr hnew
          have NX := Aside0.mk (blk_grown HX.out hgr (by simp))
          have HNE : Aside0 (some gx ≠ v43.ownBlock) := ⟨by obtain ⟨kk, e1, e2⟩ := hnew; rw [e1]; intro e3; injection e3 with e3; have := blk_lt HX.out; omega⟩
          clear HX
          have HX := NX
          clear NX
          clear HBr
          have HBr := Aside0.mk hbl
          have HE := Aside0.mk ho
          clear ho hbl hgr hnew
          have s0 := cell_two (blk_below BPr.out HBr.out) 0 rfl
          have s1 := cell_two (blk_below BPr.out HBr.out) 1 rfl
          refine hK.out _ _ ⟨s0, s1⟩ (fun hHeld => ?_)
          clear s0 s1
          clear hK K
          try simp only [Act.put, List.setIfInBounds_toArray, List.set_cons_zero, List.set_cons_succ]
          refine wpAnyH_ready (rs := [3]) (by kernel_rfl) (by simp) ?_
          refine AllReadyH.cons (o := { dst := some 45, op := Op.call { callee := Callee.builtin Builtin.append, args := #[Operand.tmp 43, Operand.tmp 44], argTypes := #[27, 27] }, type := 27, pos := "ref.go:61", after := #[{ on := 1, ground := Ground.data }, { on := 2, ground := Ground.data }], guard := none }) rfl (fun K hK => ?_) ?_
          · refine Kd.R_append_rows_step (Kd.int .i64) (w0 := wr) wr.heap.size (by rfl) (.tmp 43) (.tmp 44) 27 3 (.int .i64 0) 8 rfl Try.underlying27 info3 rfl (by decide) (by omega) v43 [] b _ _ _ (fun k => wr.heap.size ≤ k) (fun _ => False) rfl rfl HE.out (Kd.R_reads' (Kd.R_below HBr0.out HBr.out)).2.2 (fun _ _ h => h) (fun _ h => h.elim) (fun k hk => Nat.le_trans HBr.out.size hk) HBr.out HBr.out.size (by first | omega | (simp; omega)) ?_
            intro v45 Wp12 ho hbl hgr hat
            have NX := Aside0.mk (blk_grown HX.out hgr HNE.out)
            have NNE : Aside0 (some gx ≠ v45.ownBlock) := ⟨by rcases hat with e1 | ⟨kk, e1, e2⟩; (rw [e1]; exact HNE.out); (rw [e1]; intro e3; injection e3 with e3; have := blk_lt HX.out; omega)⟩
            clear HX HNE
            have HX := NX
            have HNE := NNE
            clear NX NNE
            clear HBr HE
            have HBr := Aside0.mk hbl
            have HE : Aside0 ((Kd.int .i64).R 3 Wp12 wr.heap.size (fun k => wr.heap.size ≤ k) v45 (b)) := ⟨ho⟩
            clear ho hbl hgr hat
            have s0 := cell_two (blk_below BPr.out HBr.out) 0 rfl
            have s1 := cell_two (blk_below BPr.out HBr.out) 1 rfl
            refine hK.out _ _ ⟨s0, s1⟩ (fun hHeld => ?_)
            clear s0 s1
            clear hK K
            try simp only [Act.put, List.setIfInBounds_toArray, List.set_cons_zero, List.set_cons_succ]
            refine wpAnyH_ready (rs := [6]) (by kernel_rfl) (by simp) ?_
            refine AllReadyH.cons (o := { dst := some 48, op := Op.call { callee := Callee.builtin Builtin.append, args := #[Operand.tmp 45, Operand.tmp 47], argTypes := #[27, 27] }, type := 27, pos := "ref.go:61", after := #[{ on := 3, ground := Ground.data }, { on := 5, ground := Ground.data }, { on := 3, ground := Ground.chain }], guard := none }) rfl (fun K hK => ?_) ?_
            · refine Kd.R_append_rows_step (Kd.int .i64) (w0 := wr) wr.heap.size (by rfl) (.tmp 45) (.tmp 47) 27 3 (.int .i64 0) 8 rfl Try.underlying27 info3 rfl (by decide) (by omega) v45 b [x.f2.f0 + (i : Int)] _ _ _ (fun k => wr.heap.size ≤ k) (fun _ => False) rfl rfl HE.out (CI_of_blk (cur := [x.f2.f0 + (i : Int)]) HX.out (by simp)) (fun _ _ h => h) (fun _ h => h.elim) (fun k hk => Nat.le_trans HBr.out.size hk) HBr.out HBr.out.size (by first | omega | (simp; omega)) ?_
              intro v48 Wp13 ho hbl hgr hat
              clear HBr HE
              have HBr := Aside0.mk hbl
              have HE : Aside0 ((Kd.int .i64).R 3 Wp13 wr.heap.size (fun k => wr.heap.size ≤ k) v48 (b ++ [x.f2.f0 + (i : Int)])) := ⟨ho⟩
              clear ho hbl hgr hat
              have s0 := cell_two (blk_below BPr.out HBr.out) 0 rfl
              have s1 := cell_two (blk_below BPr.out HBr.out) 1 rfl
              refine hK.out _ _ ⟨s0, s1⟩ (fun hHeld => ?_)
              clear s0 s1
              clear hK K
              try simp only [Act.put, List.setIfInBounds_toArray, List.set_cons_zero, List.set_cons_succ]
              refine wpAnyH_ready (rs := [8]) (by kernel_rfl) (by simp) ?_
              refine AllReadyH.cons (o := { dst := some 50, op := Op.call { callee := Callee.value (Operand.func 30), args := #[Operand.tmp 42, Operand.tmp 48, Operand.tmp 49], argTypes := #[24, 27, 58] }, type := 58, pos := "ref.go:61", after := #[{ on := 0, ground := Ground.data }, { on := 6, ground := Ground.data }, { on := 7, ground := Ground.data }, { on := 6, ground := Ground.chain }], guard := none }) rfl (fun K hK => ?_) ?_
              · obtain ⟨b2, hb2⟩ : ∃ b2, b2 = b ++ [x.f2.f0 + (i : Int)] := ⟨_, rfl⟩
                have HE2 : Aside0 ((Kd.int .i64).R 3 Wp13 wr.heap.size (fun k => wr.heap.size ≤ k) v48 b2) := ⟨by rw [hb2]; exact HE.out⟩
                have hI := HIH.out (x.f2.f0 + (i : Int))
                rw [← hb2] at hI
                have HI := Aside0.mk hI
                have HB2 := Aside0.mk hb2
                clear HE hI hb2
                obtain ⟨A48, c48, rfl⟩ := Kd.R_slice HE2.out
                go_simp
                have HGp := Aside0.mk (HG.out.trans (grown_of_below HBr.out (Value.slice O out.length co).ownBlock))
                have HWs := HBr.out.size
                refine (HI.out _ ok (fun k => wr.heap.size ≤ k) _ _ _ _ cur (bl_next HBw.out HBr.out) (Kd.R_lower HE2.out HBw.out.size) (fun k hk => ⟨HF.out k (Nat.le_trans HG.out.size hk), fun e => absurd (Kd.R_lt HO.out _ e.symm) (by omega)⟩) (Kd.R_below HO.out HBr.out) (fun k hk => HF.out k (Nat.le_trans HG.out.size (Nat.le_trans HBr.out.size hk))) hcap2).mono ?_
                rintro e Wr14 ⟨v50, rfl, hR, hbl, hgr, hat⟩
                have HBP := Aside0.mk (blk_grown (blk_below BPr.out HBr.out) hgr HNP.out)
                have s0 := cell_two HBP.out 0 rfl
                have s1 := cell_two HBP.out 1 rfl
                have HV := Aside0.mk hR
                have HVB := Aside0.mk hbl
                have HVG : Aside0 (w.grownBy Wr14 (Value.slice O out.length co).ownBlock) := ⟨HGp.out.andThen hgr (fun j hj => by rcases HAT.out with e1 | ⟨kk, e1, e2⟩; (right; rw [← e1]; exact hj); (left; rw [e1] at hj; injection hj with hj; omega))⟩
                have HVA : Aside0 (v50.ownBlock = (Value.slice O out.length co).ownBlock ∨ ∃ k, v50.ownBlock = some k ∧ w.heap.size ≤ k) := ⟨by rcases hat with e1 | ⟨kk, e1, e2⟩; (rw [e1]; exact HAT.out); (exact .inr ⟨kk, e1, Nat.le_trans HG.out.size (Nat.le_trans HWs e2)⟩)⟩
                clear hR hbl hgr hat HWs HGp
                refine hK.out _ _ ⟨s0, s1⟩ (fun hHeld => ?_)
                clear s0 s1
                clear hK K
                try simp only [Act.put, List.setIfInBounds_toArray, List.set_cons_zero, List.set_cons_succ]
                refine wpAnyH_take (i := 9) (oi := { dst := some 2, op := Op.assign (Operand.tmp 50), type := 58, pos := "ref.go:61", after := #[{ on := 8, ground := Ground.data }, { on := 8, ground := Ground.chain }, { on := 0, ground := Ground.phase }, { on := 1, ground := Ground.phase }, { on := 2, ground := Ground.phase }, { on := 3, ground := Ground.phase }, { on := 4, ground := Ground.phase }, { on := 5, ground := Ground.phase }, { on := 6, ground := Ground.phase }, { on := 7, ground := Ground.phase }, { on := 8, ground := Ground.phase }], guard := none }) (v := ?vc7) rfl (by kernel_rfl) (by kernel_rfl) (by kernel_rfl) (fun _ _ _ h => h) (Or.inl ⟨by rfl, ?hyc7⟩) (by assumption) ?_
                case hyc7 => (intro wq hSw; (try dsimp only at hSw); go_simp; try (with_reducible rfl))
                try simp only [Act.put, List.setIfInBounds_toArray, List.set_cons_zero, List.set_cons_succ]
                refine wpAnyH_done (by kernel_rfl) ?_ _
                obtain ⟨A50, c50, rfl⟩ := Kd.R_slice HV.out
                go_wp2_with (fail)
                go_roundw
                case rel =>
                  refine ⟨i + 1, A50, c50, cur ++ truFrom l rest b2, ?_, rfl, by omega, ⟨?_⟩, HBP, HV, HVB, HVG, HVA⟩
                  · show Value.int .i64 _ = Value.int .i64 _
                    congr 1
                    omega
                  · rw [HB2.out, HCUR.out, take_span x i hlt, List.flatMap_append, List.flatMap_cons, List.flatMap_nil, List.append_nil, List.append_assoc]
                case measure => simp [intOf]; omega
              exact AllReadyH.nil
            exact AllReadyH.nil
          exact AllReadyH.nil
        exact AllReadyH.nil
      exact AllReadyH.nil
    · have hle : decide (x.f2.f0 + (i : Int) ≤ x.f2.f1) = false := decide_eq_false (by omega)
      have hall : cur = out ++ (spanL x).flatMap (fun g => truFrom l rest (b ++ [g])) := by
        rw [HCUR.out, List.take_of_length_le (by simp [spanL]; omega)]
      have HALL := Aside0.mk hall
      clear hall
      go_wp2_with (fail)
      go_ret
      exact ⟨_, rfl, by rw [← HALL.out]; exact HO.out, HBw.out, HG.out, HAT.out⟩

theorem truths_any (pl : Int) (A : Option Addr) (c : Nat) (l : List S47) (hp : isPlantB pl l = true) (w0 : World) (hr : Kd.C k47 w0 A l.length l) (hc : l.length ≤ c) : ∀ (d : Nat) (b : List Int), b.length + d = l.length → ∀ (w : World) (ok okb : Nat → Prop) (Bb O : Option Addr) (cb co : Nat) (out : List (List Int)) (hB : Below w0.heap.size w0 w) (hb : (Kd.int .i64).R 3 w w0.heap.size okb (.slice Bb b.length cb) b) (hokb : ∀ k, okb k → ok k ∧ some k ≠ (Value.slice O out.length co).ownBlock) (hO : kLI.R 27 w w0.heap.size ok (.slice O out.length co) out) (hfr : ∀ k, w.heap.size ≤ k → ok k) (hcap : out.length + cnt (l.drop b.length) ≤ 1099511627776),
    Calls Try.prog 30 #[.agg #[.int .i64 pl, .slice A l.length c], .slice Bb b.length cb, .slice O out.length co] w (TruPost w0 w ok (.slice O out.length co) (out ++ truFrom l (l.drop b.length) b)) := by
  intro d
  induction d with
  | zero =>
    intro b hb0 w ok okb Bb O cb co out hB hb hokb hO hfr hcap
    have e : l.drop b.length = [] := List.drop_of_length_le (by omega)
    rw [e] at hcap ⊢
    exact truths_leaf pl A c l hp w0 hr hc b (by omega) w ok okb Bb O cb co out hB hb hokb hO hfr hcap
  | succ d ih =>
    intro b hb0 w ok okb Bb O cb co out hB hb hokb hO hfr hcap
    have hlt : b.length < l.length := by omega
    have e : l.drop b.length = rd_T47 l b.length :: l.drop (b.length + 1) := by
      rw [List.drop_eq_getElem_cons hlt, rd_T45_eq _ _ hlt]
    rw [e] at hcap ⊢
    refine truths_step pl A c l hp w0 hr hc b hlt _ rfl (l.drop (b.length + 1)) ?_ w ok okb Bb O cb co out hB hb hokb hO hfr hcap
    intro g w ok okb Bb O cb co out hB hb hokb hO hfr hcap
    have h2 : (b ++ [g]).length = b.length + 1 := by simp
    have := ih (b ++ [g]) (by omega) w ok okb Bb O cb co out hB hb hokb hO hfr (by rw [h2]; exact hcap)
    have e2 : l.drop (b ++ [g]).length = l.drop (b.length + 1) := by rw [h2]
    rwa [e2] at this

end Go.Proofs.Ytalgbihpidpblaa.Print
