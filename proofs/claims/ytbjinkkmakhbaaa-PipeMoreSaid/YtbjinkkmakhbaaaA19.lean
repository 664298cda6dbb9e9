/- Second mains: the plain functions, their cells, and the law of a copy of a whole slice of structs. -/
import Derived.Test.YtbjinkkmakhbaaaA18
import Derived.Laws.CopyOwn
import Derived.Laws.MakeOwn
namespace Go.Proofs.Ytbjinkkmakhbaaa.Print
open Go.RowKit Go.Shelf Go.Proofs.YtbjinkkmakhbaaaW.PrintWords Go.Proofs.YtbjinkkmakhbaaaW.PrintLast Go.Proofs.YtbjinkkmakhbaaaW.PrintMore
set_option linter.unusedVariables false
set_option linter.unusedSimpArgs false
attribute [local go_sem] Oper.semAt_some
/-- A main with a second one beside it. -/
def halfM (m : S54) : S54 := ⟨m.f0, Int.tdiv (m.f1 + 1) 2, m.f2, m.f3⟩
def withN (set : Nat) : Nat → List S54 → List S54
  | _, [] => []
  | i, m :: l => (if set.testBit i then halfM m else m) :: withN set (i + 1) l
def costN (set : Nat) : Nat → List S54 → Int
  | _, [] => 0
  | i, m :: l => (if set.testBit i then m.f3 else 0) + costN set (i + 1) l
theorem withN_len (set : Nat) : ∀ (l : List S54) (i : Nat), (withN set i l).length = l.length
  | [], _ => rfl
  | m :: l, i => by simp [withN, withN_len set l (i + 1)]
theorem withN_snoc (set : Nat) : ∀ (l : List S54) (i : Nat) (m : S54), withN set i (l ++ [m]) = withN set i l ++ [if set.testBit (i + l.length) then halfM m else m]
  | [], i, m => by simp [withN]
  | x :: l, i, m => by
    simp only [List.cons_append, withN, withN_snoc set l (i + 1) m, List.length_cons]
    rw [show i + 1 + l.length = i + (l.length + 1) by omega]
theorem costN_snoc (set : Nat) : ∀ (l : List S54) (i : Nat) (m : S54), costN set i (l ++ [m]) = costN set i l + (if set.testBit (i + l.length) then m.f3 else 0)
  | [], i, m => by simp [costN]
  | x :: l, i, m => by
    simp only [List.cons_append, costN, costN_snoc set l (i + 1) m, List.length_cons]
    rw [show i + 1 + l.length = i + (l.length + 1) by omega]
    omega
/-- The mains while they are laid: so many are done. -/
def layK (set : Nat) (ms : List S54) (k : Nat) : List S54 := withN set 0 (ms.take k) ++ ms.drop k
theorem layK_len (set : Nat) (ms : List S54) (k : Nat) : (layK set ms k).length = ms.length := by
  unfold layK
  rw [List.length_append, withN_len, List.length_take, List.length_drop]
  omega
theorem layK_0 (set : Nat) (ms : List S54) : layK set ms 0 = ms := by simp [layK, withN]
theorem layK_all (set : Nat) (ms : List S54) : layK set ms ms.length = withN set 0 ms := by simp [layK]
theorem layK_get (set : Nat) (ms : List S54) (k : Nat) (hk : k < ms.length) : rd_T54 (layK set ms k) k = rd_T54 ms k := by
  have h1 : (withN set 0 (ms.take k)).length = k := by rw [withN_len, List.length_take]; omega
  unfold rd_T54 layK
  rw [Int.toNat_natCast, List.getD_eq_getElem?_getD, List.getD_eq_getElem?_getD, List.getElem?_append_right (by omega), h1, Nat.sub_self, List.getElem?_drop, Nat.add_zero]
theorem layK_succ (set : Nat) (ms : List S54) (k : Nat) (hk : k < ms.length) : layK set ms (k + 1) = if set.testBit k then (layK set ms k).set k (halfM (rd_T54 ms k)) else layK set ms k := by
  have h1 : (withN set 0 (ms.take k)).length = k := by rw [withN_len, List.length_take]; omega
  have h2 : (ms.take k).length = k := by rw [List.length_take]; omega
  unfold layK
  rw [List.take_succ_eq_append_getElem hk, withN_snoc, h2, Nat.zero_add, List.append_assoc, rd_T54_eq _ _ hk]
  by_cases hb : set.testBit k = true
  · rw [if_pos hb, if_pos hb, List.set_append_right _ _ (by omega), h1, Nat.sub_self, List.drop_eq_getElem_cons hk]
    rfl
  · rw [if_neg hb, if_neg hb, List.drop_eq_getElem_cons hk]
    rfl
theorem cost_succ (set : Nat) (ms : List S54) (k : Nat) (hk : k < ms.length) : costN set 0 (ms.take (k + 1)) = costN set 0 (ms.take k) + (if set.testBit k then (rd_T54 ms k).f3 else 0) := by
  have h2 : (ms.take k).length = k := by rw [List.length_take]; omega
  rw [List.take_succ_eq_append_getElem hk, costN_snoc, h2, Nat.zero_add, rd_T54_eq _ _ hk]
/-- The cells of mains. -/
def mC (m : S54) : List Value := [.int .i64 m.f0, .int .i64 m.f1, .int .i64 m.f2, .int .i64 m.f3]
def msC (l : List S54) : List Value := l.flatMap mC
theorem msC_cons (m : S54) (l : List S54) : msC (m :: l) = mC m ++ msC l := rfl
theorem msC_len : ∀ l : List S54, (msC l).length = l.length * 4
  | [] => rfl
  | m :: l => by rw [msC_cons, List.length_append, msC_len l, List.length_cons]; simp [mC]; omega
theorem msC_get : ∀ (l : List S54) (k i : Nat), k < l.length → i < 4 → (msC l)[k * 4 + i]? = (mC (rd_T54 l k))[i]?
  | m :: l, 0, i, _, hi => by
    rw [msC_cons, List.getElem?_append_left (by simp [mC]; omega)]
    simp [rd_T54]
  | m :: l, k + 1, i, hk, hi => by
    rw [msC_cons, List.getElem?_append_right (by simp [mC]; omega)]
    have := msC_get l k i (by simpa using hk) hi
    rw [show (k + 1) * 4 + i - (mC m).length = k * 4 + i by simp [mC]; omega, this]
    simp [rd_T54]
theorem msC_set : ∀ (l : List S54) (k : Nat) (v : Int), k < l.length → (msC l).set (k * 4 + 1) (.int .i64 v) = msC (l.set k ⟨(rd_T54 l k).f0, v, (rd_T54 l k).f2, (rd_T54 l k).f3⟩)
  | m :: l, 0, v, _ => by simp [msC_cons, mC, rd_T54]
  | m :: l, k + 1, v, hk => by
    have := msC_set l k v (by simpa using hk)
    rw [msC_cons, List.set_append_right _ _ (by simp [mC]; omega), show (k + 1) * 4 + 1 - (mC m).length = k * 4 + 1 by simp [mC]; omega, this]
    simp [msC_cons, rd_T54]
theorem msC_one (l : List S54) : ∀ v ∈ msC l, v.oneCell' = true := by
  intro v hv
  obtain ⟨m, _, hm⟩ := List.mem_flatMap.1 hv
  simp only [mC, List.mem_cons, List.not_mem_nil, or_false] at hm
  rcases hm with rfl | rfl | rfl | rfl <;> rfl
theorem C_of_blk {W : World} {G : Nat} {l : List S54} (h : W.heap[G]? = some (.cells (msC l).toArray 54 (0, 0))) (hl : l.length ≤ 9223372036854775807) : Kd.C k54 W (some ⟨G, 0, none⟩) l.length l := by
  refine ⟨rfl, hl, fun hpos => ⟨_, rfl, fun j p hj => ⟨mC p, rfl, k54_mk W p, fun i u hu => ?_⟩⟩⟩
  have hj2 : j < l.length := (List.getElem?_eq_some_iff.1 hj).1
  have hi : i < 4 := by
    have := (List.getElem?_eq_some_iff.1 hu).1
    simpa [mC] using this
  have e : rd_T54 l j = p := by
    unfold rd_T54
    rw [Int.toNat_natCast, List.getD_eq_getElem?_getD, hj]
    rfl
  have ha : (⟨G, 0, none⟩ : Addr).add (j * k54.sz + i) = ⟨G, j * 4 + i, none⟩ := by
    show (⟨G, 0, none⟩ : Addr).add (j * 4 + i) = _
    simp [Addr.add]
    omega
  rw [ha]
  refine cell_two h (j * 4 + i) ?_
  rw [List.getElem?_toArray, msC_get l j i hj2 hi, e]
  exact hu
theorem cells_of_C {w : World} {A : Option Addr} {ms : List S54} (h : Kd.C k54 w A ms.length ms) (hpos : 0 < ms.length) : ∃ ad, A = some ad ∧ ∀ j v, (msC ms)[j]? = some v → w.cell? (ad.add j) = some v := by
  obtain ⟨ad, e, hc⟩ := h.2.2 hpos
  refine ⟨ad, e, fun j v hj => ?_⟩
  have hjl : j < ms.length * 4 := by
    have := (List.getElem?_eq_some_iff.1 hj).1
    rwa [msC_len] at this
  have hk : j / 4 < ms.length := by omega
  obtain ⟨c, _, hr, hcell⟩ := hc (j / 4) _ (List.getElem?_eq_getElem hk)
  obtain rfl := k54_open hr
  have h1 := msC_get ms (j / 4) (j % 4) hk (by omega)
  rw [show j / 4 * 4 + j % 4 = j by omega, hj, rd_T54_eq _ _ hk] at h1
  have h2 := hcell (j % 4) v (by rw [h1]; rfl)
  have e2 : j / 4 * k54.sz + j % 4 = j := by show j / 4 * 4 + j % 4 = j; omega
  rwa [e2] at h2
/-- A whole slice of structs copied over a row of its length. -/
theorem run_copy_whole {P : Program} (w : World) (dT sT ty elem sz : Nat) (g n c : Nat) (sp : Option Addr) (sc : Nat) (cur cs : List Value) (t : TypeId) (hu : P.underlying dT = some (.slice elem)) (hs : (P.info? elem).map (·.size) = some sz) (hn : cs.length = n * sz) (hl : cur.length = n * sz) (hsz : 0 < sz)
    (hg : w.heap[g]? = some (.cells cur.toArray t (0, 0))) (hpos : 0 < n → ∃ ad, sp = some ad ∧ ∀ j v, cs[j]? = some v → w.cell? (ad.add j) = some v) (h1 : ∀ v ∈ cs, v.oneCell' = true) :
    (Builtin.copy_ #[dT, sT] ty #[.slice (some ⟨g, 0, none⟩) n c, .slice sp n sc]).run P w = .ok (goInt n) (w.setRow g cs.toArray) := by
  cases hq : P.info? elem with
  | none => simp [hq] at hs
  | some i =>
    have hi : i.size = sz := by simpa [hq] using hs
    by_cases h0 : n = 0
    · subst h0
      have ec : cs = [] := List.eq_nil_of_length_eq_zero (by simpa using hn)
      have er : cur = [] := List.eq_nil_of_length_eq_zero (by simpa using hl)
      subst ec
      subst er
      have hl0 : ∀ (x : Addr), (loadCells x 0).run P w = .ok #[] w := fun x => by simpa using run_loadCells_list (P := P) w x [] (by simp)
      have hself : w.setRow g [].toArray = w := setRow_self w g _ t (0, 0) hg
      cases sp <;> simp [Builtin.copy_, run_underlying hu, Builtin.lenOf, Builtin.firstCells, sizeOf, typeInfo, hq, hi, hl0, storeCells]
      all_goals exact hself.symm
    · obtain ⟨ad, rfl, hsrc⟩ := hpos (by omega)
      have hld := run_loadCells_list (P := P) w ad cs hsrc
      have hst := run_storeCells_at P g 0 t cs 0 cur.toArray w hg (by simp; omega) h1
      rw [hn] at hld
      have e : (cur.toArray.toList.take (0 + 0) ++ cs ++ cur.toArray.toList.drop (0 + 0 + cs.length)).toArray = cs.toArray := by
        have : List.drop cs.length cur = [] := List.drop_eq_nil_of_le (by omega)
        simp [this]
      rw [e] at hst
      simp [Builtin.copy_, run_underlying hu, Builtin.lenOf, Builtin.firstCells, sizeOf, typeInfo, hq, hi, hld, hst]
theorem wpList_copy_whole {P : Program} {w : World} {ops : Array Oper} {rest : List Oper} {o : Oper} {a : Act} {Q : Exit → Act → World → Prop} (hgd : o.guard = none) (d s : Operand) (dT sT : TypeId)
    (ho : o.op = .call { callee := .builtin .copy, args := #[d, s], argTypes := #[dT, sT] }) (elem sz : Nat) (hu : P.underlying dT = some (.slice elem)) (hs : (P.info? elem).map (·.size) = some sz) (hsz : 0 < sz)
    (g n c : Nat) (sp : Option Addr) (sc : Nat) (hd : a.eval d = .slice (some ⟨g, 0, none⟩) n c) (hss : a.eval s = .slice sp n sc) (cur cs : List Value) (t : TypeId) (hn : cs.length = n * sz) (hl : cur.length = n * sz)
    (hg : w.heap[g]? = some (.cells cur.toArray t (0, 0))) (hpos : 0 < n → ∃ ad, sp = some ad ∧ ∀ j v, cs[j]? = some v → w.cell? (ad.add j) = some v) (h1 : ∀ v ∈ cs, v.oneCell' = true)
    (h : wpList P ops Q rest (a.put o.dst (goInt n)) (w.setRow g cs.toArray)) : wpList P ops Q (o :: rest) a w := by
  refine wpList_plain hgd fun K hK => ?_
  have hrun := run_copy_whole (P := P) w dT sT o.type elem sz g n c sp sc cur cs t hu hs hn hl hsz hg hpos h1
  unfold Oper.wp
  simp [execOp, ho, resolve, invoke, builtin, hd, hss, hrun, Result.andThen]
  exact hK _ _ h
theorem bits_set : ((List.range 256).all fun s => (List.range 8).all fun p => ((Go.bits .and .i64 (shr .i64 (s : Int) (p : Int)) 1) == 1) == s.testBit p) = true := by kernel_rfl
theorem bit_is (s p : Nat) (hs : s < 256) (hp : p < 8) : ((Go.bits .and .i64 (shr .i64 (s : Int) (p : Int)) 1) == 1) = s.testBit p := by
  have h := bits_set
  rw [List.all_eq_true] at h
  have h1 := h s (by simpa using hs)
  rw [List.all_eq_true] at h1
  have h2 := h1 p (by simpa using hp)
  simpa using h2
end Go.Proofs.Ytbjinkkmakhbaaa.Print
