/- Copies of slices of structs: 'append([]T{}, xs...)' in a region that draws its order; what stands in a row of one's own. -/
import Derived.Test.YtbjinkkmakhbaaaLP
namespace Go.Proofs.Ytbjinkkmakhbaaa.Print
open Go.RowKit Go.Shelf Go.Proofs.YtbjinkkmakhbaaaW.PrintWords Go.Proofs.YtbjinkkmakhbaaaW.PrintLast Go.Proofs.YtbjinkkmakhbaaaW.PrintMore
set_option linter.unusedVariables false
set_option linter.unusedSimpArgs false
theorem M_of_K50 {w W : World} {base : Nat} {ok : Nat → Prop} (x : S50) (cs : List Value) (h : k50.K w x cs) : k50.M W base ok x cs := by
  rw [k50_open h]
  exact k50_mkM _ _ _ _
theorem M_of_K54 {w W : World} {base : Nat} {ok : Nat → Prop} (x : S54) (cs : List Value) (h : k54.K w x cs) : k54.M W base ok x cs := by
  rw [k54_open h]
  exact k54_mkM _ _ _ _
/-- An empty row of one's own. -/
theorem lit_R {α : Type} (d : Kd α) (W : World) (base e : Nat) (hb : base ≤ W.heap.size) : d.R e (W.alloc (.cells #[] e)) base (fun _ => True) (.slice (some ⟨W.heap.size, 0, none⟩) 0 0) [] :=
  ⟨fun _ _ => trivial, [], by
    have h2 := World.ownsRow_lit (base := base) (e := e) (size := d.sz) W #[] 0 hb (by simp [maxLen]) (by simp)
    simpa using h2, Reps.none _ _⟩
/-- 'append([]T{}, xs...)'. -/
theorem copy_step {P : Program} {ops : Array Oper} {o : Oper} {a : Act} {Kc : Act → World → Prop} {Q : Exit → Act → World → Prop} {α : Type} (d : Kd α) {W : World} (base g : Nat)
    (hw : Region.wanted o (yielded ops a.tmps) = true) (s x : Operand) (t e : TypeId) (z : Value) (bytes : Nat)
    (ho : o.op = .call { callee := .builtin .append, args := #[s, x], argTypes := #[t, t] })
    (ht : P.underlying t = some (.slice e)) (hinfo : (P.info? e).map (fun i => (i.zero, i.size, i.bytes)) = some (some z, d.sz, bytes)) (hz : z.cells.size = d.sz) (hs0 : 0 < d.sz) (hb0 : 0 < bytes)
    (ys : List α) (A : Option Addr) (c : Nat) (hs : a.eval s = .slice (some ⟨g, 0, none⟩) 0 0) (hx : a.eval x = .slice A ys.length c)
    (hO : d.R e W base (fun _ => True) (.slice (some ⟨g, 0, none⟩) 0 0) []) (hC : d.C W A ys.length ys) (hKM : ∀ w' x cs, d.K W x cs → d.M w' base (fun _ => False) x cs)
    (hbase : base ≤ W.heap.size) (hl : ys.length * bytes ≤ 140737488355328)
    (h : ∀ A1 c1 w1, d.R e w1 base (fun _ => True) (.slice A1 ys.length c1) ys → Below W.heap.size W w1 → Kc (a.put o.dst (.slice A1 ys.length c1)) w1) :
    if Region.wanted o (yielded ops a.tmps) = true then Oper.wp P o a W Kc Q else Kc (a.put o.dst undef) W := by
  obtain ⟨i0, hi, hzz⟩ := Option.map_eq_some_iff.1 hinfo
  simp only [Prod.mk.injEq] at hzz
  obtain ⟨hz0, hz1, hz2⟩ := hzz
  have hlen : ys.length ≤ 140737488355328 := Nat.le_trans (Nat.le_mul_of_pos_right _ hb0) hl
  have hrun : ∃ A1 c1 w1, (Builtin.append_ #[t, t] o.type #[.slice (some ⟨g, 0, none⟩) 0 0, .slice A ys.length c]).run P W = .ok (.slice A1 ys.length c1) w1 ∧ d.R e w1 base (fun _ => True) (.slice A1 ys.length c1) ys ∧ Below W.heap.size W w1 := by
    by_cases h0 : ys.length = 0
    · obtain rfl : ys = [] := List.eq_nil_of_length_eq_zero h0
      refine ⟨some ⟨g, 0, none⟩, 0, W, ?_, hO, Below.refl _ _⟩
      rcases A with _ | ad
      · simp [Builtin.append_, run_underlying ht, sizeOf, typeInfo, hi, Builtin.lenOf, Builtin.firstCells, storeCells]
      · have hf := run_firstCells_some (P := P) W i0.size 0 ad 0 c [] (by simp) (by simp)
        simp [Builtin.append_, run_underlying ht, sizeOf, typeInfo, hi, Builtin.lenOf, hf, storeCells]
    · have hp : 0 < ys.length := by omega
      obtain ⟨ad, rfl, _⟩ := hC.2.2 hp
      obtain ⟨news, hnr, hnc⟩ := ReadsRow.inner_ hC
      obtain ⟨v1, w1, hr, hown, hg⟩ := run_append_arg_grows (P := P) (w := W) t o.type e i0 z d.sz bytes ht hi hz0 hz1 hz2 hz hs0 ⟨g, 0, none⟩ 0 0 [] (by simp) (by simp) ad ys.length c news hnr.1 hnc (by omega) (by simp only [maxLen]; omega) (by simpa using hl)
      rw [Nat.zero_add, List.nil_append] at hown
      have hB : Below W.heap.size W w1 := ⟨hg.os, hg.tape, hg.output, hg.size, fun k hk => hg.block k hk (by simp)⟩
      rcases hown.2 with ⟨_, hn⟩ | ⟨b, cap, cur, rfl, hb, hrest⟩
      · exact absurd (by simpa [hnr.1] using hn) h0
      · refine ⟨_, _, w1, hr, ⟨fun _ _ => trivial, news, ⟨hown.1, .inr ⟨b, cap, cur, rfl, Nat.le_trans hbase hb, hrest⟩⟩, ?_⟩, hB⟩
        exact hnr.imp_ (fun p c hp => d.M_mono (fun k hk => ⟨trivial, hk.1.elim⟩) (d.M_bound (hKM w1 p c hp)))
  obtain ⟨A1, c1, w1, hr1, h1, hB⟩ := hrun
  rw [if_pos hw]
  unfold Oper.wp execOp
  simp only [ho, resolve, invoke, builtin, Sem.run_bind, Sem.run_pure, Result.andThen_ok, List.map_toArray, List.map_cons, List.map_nil, hs, hx, hr1]
  exact h A1 c1 w1 h1 hB
end Go.Proofs.Ytbjinkkmakhbaaa.Print
