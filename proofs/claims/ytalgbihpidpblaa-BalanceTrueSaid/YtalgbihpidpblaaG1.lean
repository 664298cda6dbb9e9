/- The walks of the law: one step put down. -/
import Derived.Test.YtalgbihpidpblaaHF
namespace Go.Proofs.Ytalgbihpidpblaa.Print
open Go.RowKit Go.Shelf Go.Proofs.YtalgbihpidpblaaW.PrintWords Go.Proofs.YtalgbihpidpblaaW.PrintLast Go.Proofs.YtalgbihpidpblaaW.PrintMore
theorem max2_mx (k k' : IntKind) (x y : Int) : Builtin.max2 (.int k x) (.int k' y) = pure (.int k (mx x y)) := max2_int k k' x y
attribute [local go_sem] max2_mx max_two
set_option linter.unusedVariables false
set_option linter.unusedSimpArgs false

structure Wk where
  at_ : Int
  n : Int
  tr : List Int
  fl : List S47
def wdAt (wd : List Int) (z : Int) : Int := rd wd (z % (wd.length : Int))
def hiOf (wd : List Int) (z : Int) : Int := if wdAt wd (z + 1) > 200 then 100000 else wdAt wd z / 16
def putS (wd : List Int) (s : Wk) (x : Int) : Wk :=
  if x ≠ s.at_ ∧ s.tr.length < 16 then
    ⟨x, s.n, s.tr ++ [s.n], s.fl ++ [⟨s.at_, x, ⟨mx 0 (s.n - wdAt wd s.tr.length % 16), s.n + hiOf wd s.tr.length⟩⟩]⟩
  else ⟨x, s.n, s.tr, s.fl⟩

structure PutAt (w0 W : World) (AT TR WD PL N RC : Nat) (pl : Int) (A3 : Option Addr) (c3 : Nat) (wd : List Int) (s : Wk) (tv fv : Value) : Prop where
  bat : W.heap[AT]? = some (.cells #[.int .i64 s.at_] 3 (0, 0))
  bn : W.heap[N]? = some (.cells #[.int .i64 s.n] 3 (0, 0))
  btr : W.heap[TR]? = some (.cells #[tv] 27 (0, 0))
  bwd : W.heap[WD]? = some (.cells #[.slice A3 wd.length c3] 39 (0, 0))
  bpl : W.heap[PL]? = some (.cells #[.int .i64 pl, fv] 24 (0, 0))
  brc : W.heap[RC]? = some (.cells #[.int .i64 0, .slice none 0 0] 24 (0, 0))
  ne : AT ≠ N
  ne2 : PL ≠ RC
  gat : w0.heap.size ≤ AT
  gtr : w0.heap.size ≤ TR
  gpl : w0.heap.size ≤ PL
  gn : w0.heap.size ≤ N
  tr : Kd.R (Kd.int .i64) 3 W w0.heap.size (fun k => k ≠ AT ∧ k ≠ N) tv s.tr
  fl : Kd.R k47 47 W w0.heap.size (fun _ => True) fv s.fl
  bel : Below w0.heap.size w0 W
def WkOk (s : Wk) : Prop := (0 ≤ s.at_ ∧ s.at_ < 8) ∧ (0 ≤ s.n ∧ s.n ≤ 65535) ∧ s.tr.length ≤ 16 ∧ s.fl.length = s.tr.length

theorem store_at {w0 W : World} {AT TR WD PL N RC : Nat} {pl : Int} {A3 : Option Addr} {c3 : Nat} {wd : List Int} {s : Wk} {tv fv : Value} (h : PutAt w0 W AT TR WD PL N RC pl A3 c3 wd s tv fv) (x : Int) :
    PutAt w0 (W.setCell ⟨AT, 0, none⟩ (.int .i64 x)) AT TR WD PL N RC pl A3 c3 wd ⟨x, s.n, s.tr, s.fl⟩ tv fv where
  bat := blk_put h.bat 0 (.int .i64 x) rfl
  bn := blk_set_ne h.bn h.ne 0 _
  btr := blk_set_ne h.btr (blk_ne h.bat h.btr (by decide)) 0 _
  bwd := blk_set_ne h.bwd (blk_ne h.bat h.bwd (by decide)) 0 _
  bpl := blk_set_ne h.bpl (blk_ne h.bat h.bpl (by decide)) 0 _
  brc := blk_set_ne h.brc (blk_ne h.bat h.brc (by decide)) 0 _
  ne := h.ne
  ne2 := h.ne2
  gat := h.gat
  gtr := h.gtr
  gpl := h.gpl
  gn := h.gn
  tr := Kd.R_far h.tr (fun _ hk => hk.1) _
  fl := Kd.R_set h.fl h.bat (by decide) 0 _
  bel := h.bel.setCell h.gat _

theorem wr64 {n : Int} (h0 : -9223372036854775808 ≤ n) (h1 : n ≤ 9223372036854775807) : wrap64 n = n := by
  unfold wrap64
  omega
theorem put_drew {w0 W : World} {AT TR WD PL N RC : Nat} {pl : Int} {A3 : Option Addr} {c3 : Nat} {wd : List Int} {s : Wk} {tv fv : Value} (h : PutAt w0 W AT TR WD PL N RC pl A3 c3 wd s tv fv) :
    PutAt w0 W.drew AT TR WD PL N RC pl A3 c3 wd s tv fv where
  bat := h.bat
  bn := h.bn
  btr := h.btr
  bwd := h.bwd
  bpl := h.bpl
  brc := h.brc
  ne := h.ne
  ne2 := h.ne2
  gat := h.gat
  gtr := h.gtr
  gpl := h.gpl
  gn := h.gn
  tr := Kd.R_drew h.tr
  fl := Kd.R_drew h.fl
  bel := h.bel.drew
theorem put_below {w0 W W' : World} {AT TR WD PL N RC : Nat} {pl : Int} {A3 : Option Addr} {c3 : Nat} {wd : List Int} {s : Wk} {tv fv : Value} (h : PutAt w0 W AT TR WD PL N RC pl A3 c3 wd s tv fv) (hb : Below W.heap.size W W') :
    PutAt w0 W' AT TR WD PL N RC pl A3 c3 wd s tv fv where
  bat := blk_below h.bat hb
  bn := blk_below h.bn hb
  btr := blk_below h.btr hb
  bwd := blk_below h.bwd hb
  bpl := blk_below h.bpl hb
  brc := blk_below h.brc hb
  ne := h.ne
  ne2 := h.ne2
  gat := h.gat
  gtr := h.gtr
  gpl := h.gpl
  gn := h.gn
  tr := Kd.R_below h.tr hb
  fl := Kd.R_below h.fl hb
  bel := bl_next h.bel hb
theorem put_grow {w0 W w1 : World} {AT TR WD PL N RC : Nat} {pl : Int} {A3 : Option Addr} {c3 : Nat} {wd : List Int} {s : Wk} {tv fv v1 : Value} {fl' : List S47} (h : PutAt w0 W AT TR WD PL N RC pl A3 c3 wd s tv fv)
    (ho : Kd.R k47 47 w1 w0.heap.size (fun _ => True) v1 fl') (hb : Below w0.heap.size w0 w1) (hg : W.grownBy w1 fv.ownBlock) :
    PutAt w0 (w1.setCell ⟨PL, 1, none⟩ v1) AT TR WD PL N RC pl A3 c3 wd ⟨s.at_, s.n, s.tr, fl'⟩ tv v1 where
  bat := blk_set_ne (blk_grown h.bat hg (Kd.R_ne h.fl h.bat (by decide))) (blk_ne h.bpl h.bat (by decide)) 1 _
  bn := blk_set_ne (blk_grown h.bn hg (Kd.R_ne h.fl h.bn (by decide))) (blk_ne h.bpl h.bn (by decide)) 1 _
  btr := blk_set_ne (blk_grown h.btr hg (Kd.R_ne h.fl h.btr (by decide))) (blk_ne h.bpl h.btr (by decide)) 1 _
  bwd := blk_set_ne (blk_grown h.bwd hg (Kd.R_ne h.fl h.bwd (by decide))) (blk_ne h.bpl h.bwd (by decide)) 1 _
  bpl := blk_put (blk_grown h.bpl hg (Kd.R_ne h.fl h.bpl (by decide))) 1 v1 rfl
  brc := blk_set_ne (blk_grown h.brc hg (Kd.R_ne h.fl h.brc (by decide))) h.ne2 1 _
  ne := h.ne
  ne2 := h.ne2
  gat := h.gat
  gtr := h.gtr
  gpl := h.gpl
  gn := h.gn
  tr := Kd.R_set (Kd.R_over' h.tr (Kd.R_typed h.fl) (by decide) hg) (blk_grown h.bpl hg (Kd.R_ne h.fl h.bpl (by decide))) (by decide) 1 _
  fl := Kd.R_set ho (blk_grown h.bpl hg (Kd.R_ne h.fl h.bpl (by decide))) (by decide) 1 _
  bel := hb.setCell h.gpl _
theorem put_truth {w0 W w1 : World} {AT TR WD PL N RC : Nat} {pl : Int} {A3 : Option Addr} {c3 : Nat} {wd : List Int} {s : Wk} {tv fv v1 : Value} {tr' : List Int} (h : PutAt w0 W AT TR WD PL N RC pl A3 c3 wd s tv fv)
    (ho : Kd.R (Kd.int .i64) 3 w1 w0.heap.size (fun k => k ≠ AT ∧ k ≠ N) v1 tr') (hb : Below w0.heap.size w0 w1) (hg : W.grownBy w1 tv.ownBlock) :
    PutAt w0 (w1.setCell ⟨TR, 0, none⟩ v1) AT TR WD PL N RC pl A3 c3 wd ⟨s.at_, s.n, tr', s.fl⟩ v1 fv where
  bat := blk_set_ne (blk_grown h.bat hg (fun e => (h.tr.1 _ e.symm).1 rfl)) (blk_ne h.btr h.bat (by decide)) 0 _
  bn := blk_set_ne (blk_grown h.bn hg (fun e => (h.tr.1 _ e.symm).2 rfl)) (blk_ne h.btr h.bn (by decide)) 0 _
  btr := blk_put (blk_grown h.btr hg (Kd.R_ne h.tr h.btr (by decide))) 0 v1 rfl
  bwd := blk_set_ne (blk_grown h.bwd hg (Kd.R_ne h.tr h.bwd (by decide))) (blk_ne h.btr h.bwd (by decide)) 0 _
  bpl := blk_set_ne (blk_grown h.bpl hg (Kd.R_ne h.tr h.bpl (by decide))) (blk_ne h.btr h.bpl (by decide)) 0 _
  brc := blk_set_ne (blk_grown h.brc hg (Kd.R_ne h.tr h.brc (by decide))) (blk_ne h.btr h.brc (by decide)) 0 _
  ne := h.ne
  ne2 := h.ne2
  gat := h.gat
  gtr := h.gtr
  gpl := h.gpl
  gn := h.gn
  tr := Kd.R_set ho (blk_grown h.btr hg (Kd.R_ne h.tr h.btr (by decide))) (by decide) 0 _
  fl := Kd.R_set (Kd.R_over' h.fl (Kd.R_typed h.tr) (by decide) hg) (blk_grown h.btr hg (Kd.R_ne h.tr h.btr (by decide))) (by decide) 0 _
  bel := hb.setCell h.gtr _

theorem put_skip (w0 W : World) (AT TR WD PL N RC : Nat) (pl : Int) (A3 : Option Addr) (c3 : Nat) (wd : List Int) (s : Wk) (tv fv : Value) (h : PutAt w0 W AT TR WD PL N RC pl A3 c3 wd s tv fv) (hs : WkOk s) (x : Int) (hto : 0 ≤ x ∧ x < 8) (hn : ¬ (x ≠ s.at_ ∧ s.tr.length < 16)) :
    Calls Try.prog 42 #[.int .i64 x, .pointer (some ⟨AT, 0, none⟩), .pointer (some ⟨TR, 0, none⟩), .pointer (some ⟨WD, 0, none⟩), .pointer (some ⟨PL, 0, none⟩), .pointer (some ⟨N, 0, none⟩)] W fun e W' =>
      e = .returned (.tuple #[]) ∧ PutAt w0 W' AT TR WD PL N RC pl A3 c3 wd ⟨x, s.n, s.tr, s.fl⟩ tv fv := by
  have H := Aside0.mk h
  have q0 : W.cell? ⟨AT, 0, none⟩ = some (.int .i64 s.at_) := cell_two h.bat 0 rfl
  obtain ⟨At, ct, etv⟩ := Kd.R_slice h.tr
  have q1 : W.cell? ⟨TR, 0, none⟩ = some (.slice At s.tr.length ct) := by rw [← etv]; exact cell_two h.btr 0 rfl
  have f0 := blk_frozen h.bat 0
  clear etv h
  obtain ⟨⟨a0, a1⟩, ⟨n0, n1⟩, l16, lfl⟩ := hs
  by_cases e : x = s.at_
  · have hb : (x != s.at_) = false := by rw [e]; simp
    have HE := Aside0.mk e
    clear e lfl hn
    go_enter Try.func42, Try.ntmps42
    go_wp2_with (fail)
    go_end0
    exact ⟨rfl, store_at H.out x⟩
  · have hb : (x != s.at_) = true := bne_iff_ne.2 e
    have hl : decide ((s.tr.length : Int) < 16) = false := decide_eq_false (fun h => hn ⟨e, by omega⟩)
    clear e lfl hn
    go_enter Try.func42, Try.ntmps42
    go_wp2_with (fail)
    go_end0
    exact ⟨rfl, store_at H.out x⟩

set_option maxHeartbeats 4000000 in
set_option maxRecDepth 100000 in
theorem put_main (w0 W : World) (AT TR WD PL N RC : Nat) (pl : Int) (A3 : Option Addr) (c3 : Nat) (wd : List Int) (s : Wk) (tv fv : Value) (h : PutAt w0 W AT TR WD PL N RC pl A3 c3 wd s tv fv) (hs : WkOk s) (x : Int) (hx : 0 ≤ x ∧ x < 8) (hn : x ≠ s.at_) (hl16 : s.tr.length < 16)
    (hC : Kd.C (Kd.int .u8) w0 A3 wd.length wd) (hwl : 0 < wd.length) (hwb : ∀ i : Int, 0 ≤ i → i < wd.length → 0 ≤ rd wd i ∧ rd wd i ≤ 255) (hwm : wd.length ≤ 9223372036854775807) :
    Calls Try.prog 42 #[.int .i64 x, .pointer (some ⟨AT, 0, none⟩), .pointer (some ⟨TR, 0, none⟩), .pointer (some ⟨WD, 0, none⟩), .pointer (some ⟨PL, 0, none⟩), .pointer (some ⟨N, 0, none⟩)] W fun e W' =>
      e = .returned (.tuple #[]) ∧ ∃ tv' fv', PutAt w0 W' AT TR WD PL N RC pl A3 c3 wd (putS wd s x) tv' fv' := by
  obtain ⟨At, ct, rfl⟩ := Kd.R_slice h.tr
  obtain ⟨Af, cf, rfl⟩ := Kd.R_slice h.fl
  have H := Aside0.mk h
  have HN := Aside0.mk hn
  have q0 : W.cell? ⟨AT, 0, none⟩ = some (.int .i64 s.at_) := cell_two h.bat 0 rfl
  have q5 : W.cell? ⟨N, 0, none⟩ = some (.int .i64 s.n) := cell_two h.bn 0 rfl
  have q3 : W.cell? ⟨WD, 0, none⟩ = some (.slice A3 wd.length c3) := cell_two h.bwd 0 rfl
  have q1 : W.cell? ⟨TR, 0, none⟩ = some (.slice At s.tr.length ct) := cell_two h.btr 0 rfl
  have q4 : W.cell? ⟨PL, 1, none⟩ = some (.slice Af s.fl.length cf) := cell_two h.bpl 1 rfl
  have f0 := blk_frozen h.bat 0
  have hCW := Kd.C_below hC h.bel
  obtain ⟨⟨a0, a1⟩, ⟨n0, n1⟩, l16, lfl⟩ := hs
  have hfl16 : s.fl.length ≤ 16 := by omega
  clear lfl
  have hb : (x != s.at_) = true := bne_iff_ne.2 hn
  have hl : decide ((s.tr.length : Int) < 16) = true := decide_eq_true (by omega)
  have z0 : (0 : Int) ≤ (s.tr.length : Int) := by omega
  have wl0 : (0 : Int) < (wd.length : Int) := by omega
  have i00 : 0 ≤ (s.tr.length : Int) % (wd.length : Int) := Int.emod_nonneg _ (by omega)
  have i01 : (s.tr.length : Int) % (wd.length : Int) < (wd.length : Int) := Int.emod_lt_of_pos _ wl0
  have i10 : 0 ≤ ((s.tr.length : Int) + 1) % (wd.length : Int) := Int.emod_nonneg _ (by omega)
  have i11 : ((s.tr.length : Int) + 1) % (wd.length : Int) < (wd.length : Int) := Int.emod_lt_of_pos _ wl0
  obtain ⟨ad, e, g0⟩ := Kd.at_int hCW _ i00 i01
  cases e
  obtain ⟨ad', e, g1⟩ := Kd.at_int hCW _ i10 i11
  cases e
  have b0 := hwb _ i00 i01
  have b1 := hwb _ i10 i11
  have e0 : ((s.tr.length : Int) % (wd.length : Int)).toNat = s.tr.length % wd.length := by omega
  have e1 : (((s.tr.length : Int) + 1) % (wd.length : Int)).toNat = (s.tr.length + 1) % wd.length := by
    have e : ((s.tr.length : Int) + 1) = ((s.tr.length + 1 : Nat) : Int) := by omega
    rw [e]
    omega
  rw [e0] at g0
  rw [e1] at g1
  obtain ⟨u0, hu0⟩ : ∃ u, u = wdAt wd s.tr.length := ⟨_, rfl⟩
  obtain ⟨u1, hu1⟩ : ∃ u, u = wdAt wd (s.tr.length + 1) := ⟨_, rfl⟩
  have k0 : rd wd ((s.tr.length : Int) % (wd.length : Int)) = u0 := hu0.symm
  have k1 : rd wd (((s.tr.length : Int) + 1) % (wd.length : Int)) = u1 := hu1.symm
  rw [k0] at g0 b0
  rw [k1] at g1 b1
  have HU0 := Aside0.mk hu0
  have HU1 := Aside0.mk hu1
  clear h hC hCW hwb hn hwl e0 e1 k0 k1 hu0 hu1
  have hln : (s.fl.length + 1) * 32 ≤ 140737488355328 := by omega
  have hlt : (s.tr.length + 1) * 8 ≤ 140737488355328 := by omega
  by_cases hq : 200 < u1
  · have hq' : decide (200 < u1) = true := decide_eq_true hq
    have hput : putS wd s x = ⟨x, s.n, s.tr ++ [s.n], s.fl ++ [⟨s.at_, x, ⟨mx 0 (wrap64 (s.n - u0 % 16)), wrap64 (s.n + 100000)⟩⟩]⟩ := by
      unfold putS hiOf
      rw [if_pos ⟨HN.out, hl16⟩, ← HU0.out, ← HU1.out, if_pos hq, wr64 (by omega) (by omega), wr64 (by omega) (by omega)]
    rw [hput]
    clear hput hq
    go_enter Try.func42, Try.ntmps42
    go_wp2_with (fail)
    go_big_region
    go_wp2_with (fail)
    go_big_region
    go_wp2_with (fail)
    refine start_ (n := 17) (S := fun w' => w'.cell? ⟨PL, 1, none⟩ = some (.slice Af s.fl.length cf) ∧ w'.cell? ⟨AT, 0, none⟩ = some (.int .i64 s.at_) ∧ w'.cell? ⟨N, 0, none⟩ = some (.int .i64 s.n)) (ds := [16]) (bs_ 17 0) (by kernel_rfl) rfl rfl (⟨q4, q0, q5⟩) (fun hHeld => ?_)
    have H1 : Aside0 (PutAt w0 W.drew.drew.drew AT TR WD PL N RC pl (some ad) c3 wd s (.slice At s.tr.length ct) (.slice Af s.fl.length cf)) := ⟨put_drew (put_drew (put_drew H.out))⟩
    clear H q0 q5 q3 q1 q4 f0 g0 g1
    generalize W.drew.drew.drew = W1 at H1 hHeld ⊢
    refine pure_ (i := 0) (N := some 47) (v := ?_) (a' := ?_) (bs_ 17 1) rfl rfl (by kernel_rfl) (fun _ _ _ h => h) (Or.inl ⟨by rfl, ?_⟩) ?_ ?_; rotate_left; (· intro w'; go_simp; with_reducible rfl); rotate_left; (· simp only [Act.put, N1_]; rfl)
    refine take_ (i := 1) (N := some 48) (v := ?_) (a' := ?_) (bs_ 17 3) rfl rfl (by kernel_rfl) (fun _ _ _ h => h) (Or.inl ⟨by rfl, ?_⟩) hHeld ?_ ?_; rotate_left; (· rintro w' ⟨s0, s1, s2⟩; go_simp; with_reducible rfl); rotate_left; (· simp only [Act.put, N1_]; rfl)
    refine take_ (i := 2) (N := some 49) (v := ?_) (a' := ?_) (bs_ 17 7) rfl rfl (by kernel_rfl) (fun _ _ _ h => h) (Or.inl ⟨by rfl, ?_⟩) hHeld ?_ ?_; rotate_left; (· rintro w' ⟨s0, s1, s2⟩; go_simp; with_reducible rfl); rotate_left; (· simp only [Act.put, N1_]; rfl)
    refine pure_ (i := 3) (N := some 50) (v := ?_) (a' := ?_) (bs_ 17 15) rfl rfl (by kernel_rfl) (fun _ _ _ h => h) (Or.inl ⟨by rfl, ?_⟩) ?_ ?_; rotate_left; (· intro w'; go_simp; with_reducible rfl); rotate_left; (· simp only [Act.put, N1_]; rfl)
    refine take_ (i := 4) (N := some 51) (v := ?_) (a' := ?_) (bs_ 17 31) rfl rfl (by kernel_rfl) (fun _ _ _ h => h) (Or.inl ⟨by rfl, ?_⟩) hHeld ?_ ?_; rotate_left; (· rintro w' ⟨s0, s1, s2⟩; go_simp; with_reducible rfl); rotate_left; (· simp only [Act.put, N1_]; rfl)
    refine pure_ (i := 5) (N := some 52) (v := ?_) (a' := ?_) (bs_ 17 63) rfl rfl (by kernel_rfl) (fun _ _ _ h => h) (Or.inl ⟨by rfl, ?_⟩) ?_ ?_; rotate_left; (· intro w'; go_simp; with_reducible rfl); rotate_left; (· simp only [Act.put, N1_]; rfl)
    refine pure_ (i := 6) (N := some 53) (v := ?_) (a' := ?_) (bs_ 17 127) rfl rfl (by kernel_rfl) (fun _ _ _ h => h) (Or.inl ⟨by rfl, ?_⟩) ?_ ?_; rotate_left; (· intro w'; go_simp; with_reducible rfl); rotate_left; (· simp only [Act.put, N1_]; rfl)
    refine take_ (i := 8) (N := some 55) (v := ?_) (a' := ?_) (bs_ 17 383) rfl rfl (by kernel_rfl) (fun _ _ _ h => h) (Or.inl ⟨by rfl, ?_⟩) hHeld ?_ ?_; rotate_left; (· rintro w' ⟨s0, s1, s2⟩; go_simp; with_reducible rfl); rotate_left; (· simp only [Act.put, N1_]; rfl)
    refine pure_ (i := 9) (N := some 56) (v := ?_) (a' := ?_) (bs_ 17 895) rfl rfl (by kernel_rfl) (fun _ _ _ h => h) (Or.inl ⟨by rfl, ?_⟩) ?_ ?_; rotate_left; (· intro w'; go_simp; with_reducible rfl); rotate_left; (· simp only [Act.put, N1_]; rfl)
    refine pure_ (i := 10) (N := some 57) (v := ?_) (a' := ?_) (bs_ 17 1919) rfl rfl (by kernel_rfl) (fun _ _ _ h => h) (Or.inl ⟨by rfl, ?_⟩) ?_ ?_; rotate_left; (· intro w'; go_simp; with_reducible rfl); rotate_left; (· simp only [Act.put, N1_]; rfl)
    refine one_ (i := 7) (N := some 54) (bs_ 17 2047) rfl rfl (by kernel_rfl) (by decide) (fun K hK => ?_)
    go_simp
    refine hK.out _ _ hHeld (fun hHeld => ?_)
    clear hK K
    refine one_ (i := 11) (N := some 58) (bs_ 17 4095) rfl rfl (by kernel_rfl) (by decide) (fun K hK => ?_)
    refine goes_ Try.func25 (by kernel_rfl) rfl #[.int .i64 (mx 0 (wrap64 (s.n - u0 % 16))), (.int .i64 (wrap64 (s.n + 100000)))] (by rfl) rfl rfl (by (try simp only [LM_]); try rfl) ?_
    refine (span_any _ _ _).mono ?_
    rintro e W6 ⟨rfl, hb⟩
    refine ⟨_, rfl, ?_⟩
    have H6 := Aside0.mk (put_below H1.out hb)
    clear hb H1 hHeld
    refine hK.out _ _ ⟨cell_two H6.out.bpl 1 rfl, cell_two H6.out.bat 0 rfl, cell_two H6.out.bn 0 rfl⟩ (fun hHeld => ?_)
    clear hK K
    refine norm_ (a' := ?_) ?_ ?_; rotate_left; (· show Act.put _ (some 58) _ = _; simp only [Act.put, N1_]; rfl)
    refine pure_ (i := 12) (N := some 59) (v := ?_) (a' := ?_) (bs_ 17 8191) rfl rfl (by kernel_rfl) (fun _ _ _ h => h) (Or.inl ⟨by rfl, ?_⟩) ?_ ?_; rotate_left; (· intro w'; go_simp; with_reducible rfl); rotate_left; (· simp only [Act.put, N1_]; rfl)
    refine one_ (i := 13) (N := some 60) (bs_ 17 16383) rfl rfl (by kernel_rfl) (by decide) (fun K hK => ?_)
    go_simp
    clear hHeld
    refine hK.out _ _ ⟨cell_two (blk_alloc H6.out.bpl _) 1 rfl, cell_two (blk_alloc H6.out.bat _) 0 rfl, cell_two (blk_alloc H6.out.bn _) 0 rfl⟩ (fun hHeld => ?_)
    clear hK K
    refine one_ (i := 14) (N := some 61) (bs_ 17 32767) rfl rfl (by kernel_rfl) (by decide) (fun K hK => ?_)
    refine Kd.R_append_step k47 (w0 := w0) w0.heap.size (by rfl) (.tmp 48) (.tmp 60) 22 47 (.agg #[(.int .i64 0), (.int .i64 0), (.int .i64 0), (.int .i64 0)]) 32 (by rfl) Try.underlying22 info47 rfl (by decide) (by omega) (.slice Af s.fl.length cf) s.fl ⟨s.at_, x, ⟨mx 0 (wrap64 (s.n - u0 % 16)), wrap64 (s.n + 100000)⟩⟩ [.int .i64 s.at_, .int .i64 x, .int .i64 (mx 0 (wrap64 (s.n - u0 % 16))), .int .i64 (wrap64 (s.n + 100000))] (fun _ => True) (fun _ => False) rfl rfl (k47_mkM _ _ _ ⟨s.at_, x, ⟨mx 0 (wrap64 (s.n - u0 % 16)), wrap64 (s.n + 100000)⟩⟩) (fun _ hk => hk.elim) (fun _ _ => trivial) H6.out.fl H6.out.bel H6.out.bel.size hln ?_
    intro v1 w1 ho hb hg hat
    obtain ⟨A1, c1, rfl⟩ := Kd.R_slice ho
    have H7 := Aside0.mk (put_grow H6.out ho hb hg)
    simp only [List.length_append, List.length_cons, List.length_nil, Nat.zero_add] at H7
    have b1 := blk_grown H6.out.bpl hg (Kd.R_ne H6.out.fl H6.out.bpl (by decide))
    have b2 := blk_grown H6.out.bat hg (Kd.R_ne H6.out.fl H6.out.bat (by decide))
    have b3 := blk_grown H6.out.bn hg (Kd.R_ne H6.out.fl H6.out.bn (by decide))
    have p1 : w1.cell? ⟨PL, 1, none⟩ = some (.slice Af s.fl.length cf) := cell_two b1 1 rfl
    have p2 : w1.cell? ⟨AT, 0, none⟩ = some (.int .i64 s.at_) := cell_two b2 0 rfl
    have p3 : w1.cell? ⟨N, 0, none⟩ = some (.int .i64 s.n) := cell_two b3 0 rfl
    have pf := blk_frozen b1 1
    clear b1 b2 b3 ho hb hg hat H6 hHeld
    refine hK.out _ _ ⟨p1, p2, p3⟩ (fun hHeld => ?_)
    clear hK K
    refine norm_ (a' := ?_) ?_ ?_; rotate_left; (· show Act.put _ (some 61) _ = _; simp only [Act.put, N1_]; rfl)
    refine pure_ (i := 15) (N := some 62) (v := ?_) (a' := ?_) (bs_ 17 65535) rfl rfl (by kernel_rfl) (fun _ _ _ h => h) (Or.inl ⟨by rfl, ?_⟩) ?_ ?_; rotate_left; (· intro w'; go_simp; with_reducible rfl); rotate_left; (· simp only [Act.put, N1_]; rfl)
    refine last_ (i := 16) (N := none) (bs_ 17 131071) rfl rfl (by kernel_rfl) (by decide) (fun K hK => ?_)
    refine skip_ (w1 := ?_) (by rfl) rfl ?_ ?_; rotate_left; (· go_simp; rfl)
    refine hK.out _ _ ?_
    clear hK K
    refine done_ (by kernel_rfl) ?_
    clear p1 p2 p3 pf hHeld
    generalize w1.setCell ⟨PL, 1, none⟩ (.slice A1 (s.fl.length + 1) c1) = W7 at H7 ⊢
    have r1 : W7.cell? ⟨TR, 0, none⟩ = some (.slice At s.tr.length ct) := cell_two H7.out.btr 0 rfl
    have r2 : W7.cell? ⟨N, 0, none⟩ = some (.int .i64 s.n) := cell_two H7.out.bn 0 rfl
    have HFR : Aside0 (∀ k, W7.heap.size ≤ k → k ≠ AT ∧ k ≠ N) := ⟨fun k hk => ⟨by have := blk_lt H7.out.bat; omega, by have := blk_lt H7.out.bn; omega⟩⟩
    go_wp2_with ((with_reducible refine gate_builtin (b := .append) (xs := #[.tmp 63, .tmp 65]) rfl ?_); at_builtin; refine Kd.R_append (Kd.int .i64) (w0 := w0) w0.heap.size rfl (.tmp 63) (.tmp 65) 27 3 (.int .i64 0) 8 rfl Try.underlying27 info3 rfl (by decide) (by omega) (.slice At s.tr.length ct) s.tr s.n [.int .i64 s.n] (fun k => k ≠ AT ∧ k ≠ N) (fun _ => False) rfl rfl rfl (fun _ hk => hk.elim) HFR.out H7.out.tr H7.out.bel H7.out.bel.size hlt ?_; intro v2 w2 ho hb hg hat; obtain ⟨A2, c2, rfl⟩ := Kd.R_slice ho; have H8 := Aside0.mk (put_truth H7.out ho hb hg); simp only [List.length_append, List.length_cons, List.length_nil, Nat.zero_add] at H8; have t1 : w2.cell? ⟨TR, 0, none⟩ = some (.slice At s.tr.length ct) := cell_two (blk_grown H7.out.btr hg (Kd.R_ne H7.out.tr H7.out.btr (by decide))) 0 rfl; have tf := blk_frozen (blk_grown H7.out.btr hg (Kd.R_ne H7.out.tr H7.out.btr (by decide))) 0; have t2 := cell_two H8.out.bat 0 rfl; have tg := blk_frozen H8.out.bat 0; clear r1 r2 ho hb hg hat HFR)
    go_end0
    exact ⟨rfl, _, _, store_at H8.out x⟩
  · have hq' : decide (200 < u1) = false := decide_eq_false hq
    have hput : putS wd s x = ⟨x, s.n, s.tr ++ [s.n], s.fl ++ [⟨s.at_, x, ⟨mx 0 (wrap64 (s.n - u0 % 16)), wrap64 (s.n + u0 / 16)⟩⟩]⟩ := by
      unfold putS hiOf
      rw [if_pos ⟨HN.out, hl16⟩, ← HU0.out, ← HU1.out, if_neg hq, wr64 (by omega) (by omega), wr64 (by omega) (by omega)]
    rw [hput]
    clear hput hq
    go_enter Try.func42, Try.ntmps42
    go_wp2_with (fail)
    go_big_region
    go_wp2_with (fail)
    go_big_region
    go_wp2_with (fail)
    refine start_ (n := 17) (S := fun w' => w'.cell? ⟨PL, 1, none⟩ = some (.slice Af s.fl.length cf) ∧ w'.cell? ⟨AT, 0, none⟩ = some (.int .i64 s.at_) ∧ w'.cell? ⟨N, 0, none⟩ = some (.int .i64 s.n)) (ds := [16]) (bs_ 17 0) (by kernel_rfl) rfl rfl (⟨q4, q0, q5⟩) (fun hHeld => ?_)
    have H1 : Aside0 (PutAt w0 W.drew.drew.drew AT TR WD PL N RC pl (some ad) c3 wd s (.slice At s.tr.length ct) (.slice Af s.fl.length cf)) := ⟨put_drew (put_drew (put_drew H.out))⟩
    clear H q0 q5 q3 q1 q4 f0 g0 g1
    generalize W.drew.drew.drew = W1 at H1 hHeld ⊢
    refine pure_ (i := 0) (N := some 47) (v := ?_) (a' := ?_) (bs_ 17 1) rfl rfl (by kernel_rfl) (fun _ _ _ h => h) (Or.inl ⟨by rfl, ?_⟩) ?_ ?_; rotate_left; (· intro w'; go_simp; with_reducible rfl); rotate_left; (· simp only [Act.put, N1_]; rfl)
    refine take_ (i := 1) (N := some 48) (v := ?_) (a' := ?_) (bs_ 17 3) rfl rfl (by kernel_rfl) (fun _ _ _ h => h) (Or.inl ⟨by rfl, ?_⟩) hHeld ?_ ?_; rotate_left; (· rintro w' ⟨s0, s1, s2⟩; go_simp; with_reducible rfl); rotate_left; (· simp only [Act.put, N1_]; rfl)
    refine take_ (i := 2) (N := some 49) (v := ?_) (a' := ?_) (bs_ 17 7) rfl rfl (by kernel_rfl) (fun _ _ _ h => h) (Or.inl ⟨by rfl, ?_⟩) hHeld ?_ ?_; rotate_left; (· rintro w' ⟨s0, s1, s2⟩; go_simp; with_reducible rfl); rotate_left; (· simp only [Act.put, N1_]; rfl)
    refine pure_ (i := 3) (N := some 50) (v := ?_) (a' := ?_) (bs_ 17 15) rfl rfl (by kernel_rfl) (fun _ _ _ h => h) (Or.inl ⟨by rfl, ?_⟩) ?_ ?_; rotate_left; (· intro w'; go_simp; with_reducible rfl); rotate_left; (· simp only [Act.put, N1_]; rfl)
    refine take_ (i := 4) (N := some 51) (v := ?_) (a' := ?_) (bs_ 17 31) rfl rfl (by kernel_rfl) (fun _ _ _ h => h) (Or.inl ⟨by rfl, ?_⟩) hHeld ?_ ?_; rotate_left; (· rintro w' ⟨s0, s1, s2⟩; go_simp; with_reducible rfl); rotate_left; (· simp only [Act.put, N1_]; rfl)
    refine pure_ (i := 5) (N := some 52) (v := ?_) (a' := ?_) (bs_ 17 63) rfl rfl (by kernel_rfl) (fun _ _ _ h => h) (Or.inl ⟨by rfl, ?_⟩) ?_ ?_; rotate_left; (· intro w'; go_simp; with_reducible rfl); rotate_left; (· simp only [Act.put, N1_]; rfl)
    refine pure_ (i := 6) (N := some 53) (v := ?_) (a' := ?_) (bs_ 17 127) rfl rfl (by kernel_rfl) (fun _ _ _ h => h) (Or.inl ⟨by rfl, ?_⟩) ?_ ?_; rotate_left; (· intro w'; go_simp; with_reducible rfl); rotate_left; (· simp only [Act.put, N1_]; rfl)
    refine take_ (i := 8) (N := some 55) (v := ?_) (a' := ?_) (bs_ 17 383) rfl rfl (by kernel_rfl) (fun _ _ _ h => h) (Or.inl ⟨by rfl, ?_⟩) hHeld ?_ ?_; rotate_left; (· rintro w' ⟨s0, s1, s2⟩; go_simp; with_reducible rfl); rotate_left; (· simp only [Act.put, N1_]; rfl)
    refine pure_ (i := 9) (N := some 56) (v := ?_) (a' := ?_) (bs_ 17 895) rfl rfl (by kernel_rfl) (fun _ _ _ h => h) (Or.inl ⟨by rfl, ?_⟩) ?_ ?_; rotate_left; (· intro w'; go_simp; with_reducible rfl); rotate_left; (· simp only [Act.put, N1_]; rfl)
    refine pure_ (i := 10) (N := some 57) (v := ?_) (a' := ?_) (bs_ 17 1919) rfl rfl (by kernel_rfl) (fun _ _ _ h => h) (Or.inl ⟨by rfl, ?_⟩) ?_ ?_; rotate_left; (· intro w'; go_simp; with_reducible rfl); rotate_left; (· simp only [Act.put, N1_]; rfl)
    refine one_ (i := 7) (N := some 54) (bs_ 17 2047) rfl rfl (by kernel_rfl) (by decide) (fun K hK => ?_)
    go_simp
    refine hK.out _ _ hHeld (fun hHeld => ?_)
    clear hK K
    refine one_ (i := 11) (N := some 58) (bs_ 17 4095) rfl rfl (by kernel_rfl) (by decide) (fun K hK => ?_)
    refine goes_ Try.func25 (by kernel_rfl) rfl #[.int .i64 (mx 0 (wrap64 (s.n - u0 % 16))), (.int .i64 (wrap64 (s.n + u0 / 16)))] (by rfl) rfl rfl (by (try simp only [LM_]); try rfl) ?_
    refine (span_any _ _ _).mono ?_
    rintro e W6 ⟨rfl, hb⟩
    refine ⟨_, rfl, ?_⟩
    have H6 := Aside0.mk (put_below H1.out hb)
    clear hb H1 hHeld
    refine hK.out _ _ ⟨cell_two H6.out.bpl 1 rfl, cell_two H6.out.bat 0 rfl, cell_two H6.out.bn 0 rfl⟩ (fun hHeld => ?_)
    clear hK K
    refine norm_ (a' := ?_) ?_ ?_; rotate_left; (· show Act.put _ (some 58) _ = _; simp only [Act.put, N1_]; rfl)
    refine pure_ (i := 12) (N := some 59) (v := ?_) (a' := ?_) (bs_ 17 8191) rfl rfl (by kernel_rfl) (fun _ _ _ h => h) (Or.inl ⟨by rfl, ?_⟩) ?_ ?_; rotate_left; (· intro w'; go_simp; with_reducible rfl); rotate_left; (· simp only [Act.put, N1_]; rfl)
    refine one_ (i := 13) (N := some 60) (bs_ 17 16383) rfl rfl (by kernel_rfl) (by decide) (fun K hK => ?_)
    go_simp
    clear hHeld
    refine hK.out _ _ ⟨cell_two (blk_alloc H6.out.bpl _) 1 rfl, cell_two (blk_alloc H6.out.bat _) 0 rfl, cell_two (blk_alloc H6.out.bn _) 0 rfl⟩ (fun hHeld => ?_)
    clear hK K
    refine one_ (i := 14) (N := some 61) (bs_ 17 32767) rfl rfl (by kernel_rfl) (by decide) (fun K hK => ?_)
    refine Kd.R_append_step k47 (w0 := w0) w0.heap.size (by rfl) (.tmp 48) (.tmp 60) 22 47 (.agg #[(.int .i64 0), (.int .i64 0), (.int .i64 0), (.int .i64 0)]) 32 (by rfl) Try.underlying22 info47 rfl (by decide) (by omega) (.slice Af s.fl.length cf) s.fl ⟨s.at_, x, ⟨mx 0 (wrap64 (s.n - u0 % 16)), wrap64 (s.n + u0 / 16)⟩⟩ [.int .i64 s.at_, .int .i64 x, .int .i64 (mx 0 (wrap64 (s.n - u0 % 16))), .int .i64 (wrap64 (s.n + u0 / 16))] (fun _ => True) (fun _ => False) rfl rfl (k47_mkM _ _ _ ⟨s.at_, x, ⟨mx 0 (wrap64 (s.n - u0 % 16)), wrap64 (s.n + u0 / 16)⟩⟩) (fun _ hk => hk.elim) (fun _ _ => trivial) H6.out.fl H6.out.bel H6.out.bel.size hln ?_
    intro v1 w1 ho hb hg hat
    obtain ⟨A1, c1, rfl⟩ := Kd.R_slice ho
    have H7 := Aside0.mk (put_grow H6.out ho hb hg)
    simp only [List.length_append, List.length_cons, List.length_nil, Nat.zero_add] at H7
    have b1 := blk_grown H6.out.bpl hg (Kd.R_ne H6.out.fl H6.out.bpl (by decide))
    have b2 := blk_grown H6.out.bat hg (Kd.R_ne H6.out.fl H6.out.bat (by decide))
    have b3 := blk_grown H6.out.bn hg (Kd.R_ne H6.out.fl H6.out.bn (by decide))
    have p1 : w1.cell? ⟨PL, 1, none⟩ = some (.slice Af s.fl.length cf) := cell_two b1 1 rfl
    have p2 : w1.cell? ⟨AT, 0, none⟩ = some (.int .i64 s.at_) := cell_two b2 0 rfl
    have p3 : w1.cell? ⟨N, 0, none⟩ = some (.int .i64 s.n) := cell_two b3 0 rfl
    have pf := blk_frozen b1 1
    clear b1 b2 b3 ho hb hg hat H6 hHeld
    refine hK.out _ _ ⟨p1, p2, p3⟩ (fun hHeld => ?_)
    clear hK K
    refine norm_ (a' := ?_) ?_ ?_; rotate_left; (· show Act.put _ (some 61) _ = _; simp only [Act.put, N1_]; rfl)
    refine pure_ (i := 15) (N := some 62) (v := ?_) (a' := ?_) (bs_ 17 65535) rfl rfl (by kernel_rfl) (fun _ _ _ h => h) (Or.inl ⟨by rfl, ?_⟩) ?_ ?_; rotate_left; (· intro w'; go_simp; with_reducible rfl); rotate_left; (· simp only [Act.put, N1_]; rfl)
    refine last_ (i := 16) (N := none) (bs_ 17 131071) rfl rfl (by kernel_rfl) (by decide) (fun K hK => ?_)
    refine skip_ (w1 := ?_) (by rfl) rfl ?_ ?_; rotate_left; (· go_simp; rfl)
    refine hK.out _ _ ?_
    clear hK K
    refine done_ (by kernel_rfl) ?_
    clear p1 p2 p3 pf hHeld
    generalize w1.setCell ⟨PL, 1, none⟩ (.slice A1 (s.fl.length + 1) c1) = W7 at H7 ⊢
    have r1 : W7.cell? ⟨TR, 0, none⟩ = some (.slice At s.tr.length ct) := cell_two H7.out.btr 0 rfl
    have r2 : W7.cell? ⟨N, 0, none⟩ = some (.int .i64 s.n) := cell_two H7.out.bn 0 rfl
    have HFR : Aside0 (∀ k, W7.heap.size ≤ k → k ≠ AT ∧ k ≠ N) := ⟨fun k hk => ⟨by have := blk_lt H7.out.bat; omega, by have := blk_lt H7.out.bn; omega⟩⟩
    go_wp2_with ((with_reducible refine gate_builtin (b := .append) (xs := #[.tmp 63, .tmp 65]) rfl ?_); at_builtin; refine Kd.R_append (Kd.int .i64) (w0 := w0) w0.heap.size rfl (.tmp 63) (.tmp 65) 27 3 (.int .i64 0) 8 rfl Try.underlying27 info3 rfl (by decide) (by omega) (.slice At s.tr.length ct) s.tr s.n [.int .i64 s.n] (fun k => k ≠ AT ∧ k ≠ N) (fun _ => False) rfl rfl rfl (fun _ hk => hk.elim) HFR.out H7.out.tr H7.out.bel H7.out.bel.size hlt ?_; intro v2 w2 ho hb hg hat; obtain ⟨A2, c2, rfl⟩ := Kd.R_slice ho; have H8 := Aside0.mk (put_truth H7.out ho hb hg); simp only [List.length_append, List.length_cons, List.length_nil, Nat.zero_add] at H8; have t1 : w2.cell? ⟨TR, 0, none⟩ = some (.slice At s.tr.length ct) := cell_two (blk_grown H7.out.btr hg (Kd.R_ne H7.out.tr H7.out.btr (by decide))) 0 rfl; have tf := blk_frozen (blk_grown H7.out.btr hg (Kd.R_ne H7.out.tr H7.out.btr (by decide))) 0; have t2 := cell_two H8.out.bat 0 rfl; have tg := blk_frozen H8.out.bat 0; clear r1 r2 ho hb hg hat HFR)
    go_end0
    exact ⟨rfl, _, _, store_at H8.out x⟩
end Go.Proofs.Ytalgbihpidpblaa.Print
