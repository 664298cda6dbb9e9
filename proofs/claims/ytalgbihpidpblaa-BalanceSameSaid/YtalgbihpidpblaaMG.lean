/- BalanceSame: the plant with tight spans, as its loop writes it. -/
import Derived.Test.YtalgbihpidpblaaMF
namespace Go.Proofs.Ytalgbihpidpblaa.Print
open Go.RowKit Go.Shelf Go.Proofs.YtalgbihpidpblaaW.PrintWords Go.Proofs.YtalgbihpidpblaaW.PrintLast Go.Proofs.YtalgbihpidpblaaW.PrintMore
set_option linter.unusedVariables false
set_option linter.unusedSimpArgs false

def mixL (l : List S47) (K : List S45) (i : Nat) : List S47 := (List.range l.length).map fun j : Nat => if j < i then { rd_T47 l j with f2 := rd_T45 K j } else rd_T47 l j
theorem mixL_len (l : List S47) (K : List S45) (i : Nat) : (mixL l K i).length = l.length := by simp [mixL]
theorem mixL_zero (l : List S47) (K : List S45) : mixL l K 0 = l := by
  apply List.ext_getElem
  · simp [mixL]
  · intro j h1 h2
    simp [mixL, rd_T45_eq _ _ h2]
theorem mixL_rd (l : List S47) (K : List S45) (i j : Nat) (h : j < l.length) : rd_T47 (mixL l K i) j = if j < i then { rd_T47 l j with f2 := rd_T45 K j } else rd_T47 l j := by
  rw [rd_T45_eq _ _ (by rw [mixL_len]; exact h)]
  simp [mixL]
theorem mixL_set (l : List S47) (K : List S45) (i : Nat) (h : i < l.length) : (mixL l K i).set i { rd_T47 (mixL l K i) i with f2 := rd_T45 K i } = mixL l K (i + 1) := by
  rw [mixL_rd l K i i h, if_neg (by omega)]
  apply List.ext_getElem
  · simp [mixL]
  · intro j h1 h2
    rw [List.getElem_set]
    by_cases hij : i = j
    · subst hij
      rw [if_pos rfl]
      simp [mixL]
    · rw [if_neg hij]
      simp only [mixL, List.getElem_map, List.getElem_range]
      by_cases hji : j < i
      · rw [if_pos hji, if_pos (by omega)]
      · rw [if_neg hji, if_neg (by omega)]
theorem mixL_all (pl : Int) (l : List S47) (K : List S45) (h : ∀ k : Nat, k < l.length → rd_T45 K k = tightAt pl l k) : mixL l K l.length = gasL pl l := by
  apply List.ext_getElem
  · simp [mixL, gasL]
  · intro j h1 h2
    have hj : j < l.length := by rw [mixL_len] at h1; exact h1
    simp only [mixL, gasL, List.getElem_map, List.getElem_range]
    rw [if_pos hj, h j hj]
/-- GB: tight; kv, k2, k3: l, t, m. -/
structure GasAt (w W : World) (GB : Nat) (pl : Int) (n : Nat) (K : List S45) (kv : Value) (K2 : List S45) (k2 : Value) (K3 : List S45) (k3 : Value) (Ag : Option Addr) (co : Nat) (L : List S47) : Prop where
  bg : W.heap[GB]? = some (.cells #[.int .i64 pl, .slice Ag n co] 24 (0, 0))
  gg : w.heap.size ≤ GB
  kk : Kd.R k45 45 W w.heap.size (fun _ => True) kv K
  k2 : Kd.R k45 45 W w.heap.size (fun _ => True) k2 K2
  k3 : Kd.R k45 45 W w.heap.size (fun _ => True) k3 K3
  ll : L.length = n
  lc : n ≤ co
  cl : Kd.C k47 W Ag n L
  own : 0 < n → ∃ g cs, Ag = some ⟨g, 0, none⟩ ∧ w.heap.size ≤ g ∧ W.heap[g]? = some (.cells cs 47 (0, 0))
  bel : Below w.heap.size w W
theorem gas_drew {w W : World} {GB : Nat} {pl : Int} {n : Nat} {K : List S45} {kv : Value} {K2 : List S45} {k2 : Value} {K3 : List S45} {k3 : Value} {Ag : Option Addr} {co : Nat} {L : List S47} (h : GasAt w W GB pl n K kv K2 k2 K3 k3 Ag co L) : GasAt w W.drew GB pl n K kv K2 k2 K3 k3 Ag co L where
  bg := h.bg
  gg := h.gg
  kk := Kd.R_drew h.kk
  k2 := Kd.R_drew h.k2
  k3 := Kd.R_drew h.k3
  ll := h.ll
  lc := h.lc
  cl := Kd.C_drew h.cl
  own := fun hn => h.own hn
  bel := h.bel.drew
theorem gas_put {w W : World} {GB : Nat} {pl : Int} {n : Nat} {K : List S45} {kv : Value} {K2 : List S45} {k2 : Value} {K3 : List S45} {k3 : Value} {g co : Nat} {L : List S47} (h : GasAt w W GB pl n K kv K2 k2 K3 k3 (some ⟨g, 0, none⟩) co L) {i : Nat} (hi : i < n) (s : S45) :
    GasAt w ((W.setCell ⟨g, i * 4 + 2, none⟩ (.int .i64 s.f0)).setCell ⟨g, i * 4 + 2 + 1, none⟩ (.int .i64 s.f1)) GB pl n K kv K2 k2 K3 k3 (some ⟨g, 0, none⟩) co (L.set i { rd_T47 L i with f2 := s }) := by
  obtain ⟨g', cs, e, hg, hb⟩ := h.own (by omega)
  cases e
  have hne : g ≠ GB := fun e => blk_ne hb h.bg (by decide) e
  have hb1 := blk_set hb (i * 4 + 2) (.int .i64 s.f0)
  have hb2 := blk_set hb1 (i * 4 + 2 + 1) (.int .i64 s.f1)
  exact {
    bg := blk_set_ne (blk_set_ne h.bg hne _ _) hne _ _
    gg := h.gg
    kk := Kd.R_set (Kd.R_set h.kk hb (by decide) _ _) hb1 (by decide) _ _
    k2 := Kd.R_set (Kd.R_set h.k2 hb (by decide) _ _) hb1 (by decide) _ _
    k3 := Kd.R_set (Kd.R_set h.k3 hb (by decide) _ _) hb1 (by decide) _ _
    ll := by rw [List.length_set, h.ll]
    lc := h.lc
    cl := C_set47 (c := 0) h.ll.symm (by rw [h.ll]; exact h.cl) (by rw [h.ll]; exact hi) s
    own := fun _ => ⟨g, _, rfl, hg, hb2⟩
    bel := below_set (below_set h.bel hg) hg }
theorem gas_start {w W : World} {GB : Nat} {pl : Int} {K : List S45} {kv : Value} {K2 : List S45} {k2 : Value} {K3 : List S45} {k3 : Value} {Ag : Option Addr} {co : Nat} {A : Option Addr} {c : Nat} {l : List S47}
    (bg : W.heap[GB]? = some (.cells #[.int .i64 pl, .slice A l.length c] 24 (0, 0))) (gg : w.heap.size ≤ GB)
    (kk : Kd.R k45 45 W w.heap.size (fun _ => True) kv K) (hk2 : Kd.R k45 45 W w.heap.size (fun _ => True) k2 K2) (hk3 : Kd.R k45 45 W w.heap.size (fun _ => True) k3 K3)
    (ho : Kd.R k47 47 W w.heap.size (fun _ => True) (.slice Ag l.length co) l) (bel : Below w.heap.size w W) :
    GasAt w (W.setCell ⟨GB, 1, none⟩ (.slice Ag l.length co)) GB pl l.length K kv K2 k2 K3 k3 Ag co (mixL l K 0) := by
  rw [mixL_zero]
  have ho1 := Kd.R_set ho bg (by decide) 1 (.slice Ag l.length co)
  exact {
    bg := blk_put bg 1 _ rfl
    gg := gg
    kk := Kd.R_set kk bg (by decide) _ _
    k2 := Kd.R_set hk2 bg (by decide) _ _
    k3 := Kd.R_set hk3 bg (by decide) _ _
    ll := rfl
    lc := (Kd.R_reads' ho).2.1
    cl := (Kd.R_reads' ho1).2.2
    own := fun hn => by
      obtain ⟨g, cap, e, h1, h2, cs, h3⟩ := Kd.R_form ho1 hn
      cases e
      exact ⟨g, cs, rfl, h1, h3⟩
    bel := below_set bel gg }
def GasLoop (w wr : World) (GB : Nat) (pl : Int) (l : List S47) (K : List S45) (kv : Value) (K2 : List S45) (k2 : Value) (K3 : List S45) (k3 : Value) (Ag : Option Addr) (co : Nat) (iv : Value) : Prop :=
  ∃ i : Nat, iv = .int .i64 (i : Int) ∧ i ≤ l.length ∧ Aside0 (GasAt w wr GB pl l.length K kv K2 k2 K3 k3 Ag co (mixL l K i))
theorem gas_next {w W : World} {GB : Nat} {pl : Int} {l : List S47} {K : List S45} {kv : Value} {K2 : List S45} {k2 : Value} {K3 : List S45} {k3 : Value} {g co : Nat} {i : Nat} (hi : i < l.length) (h : GasAt w W GB pl l.length K kv K2 k2 K3 k3 (some ⟨g, 0, none⟩) co (mixL l K i)) :
    GasLoop w ((W.setCell ⟨g, i * 4 + 2, none⟩ (.int .i64 (rd_T45 K i).f0)).setCell ⟨g, i * 4 + 2 + 1, none⟩ (.int .i64 (rd_T45 K i).f1)) GB pl l K kv K2 k2 K3 k3 (some ⟨g, 0, none⟩) co (.int .i64 ((i : Int) + 1)) :=
  ⟨i + 1, by go_num, hi, ⟨by rw [← mixL_set l K i hi]; exact gas_put h hi _⟩⟩
theorem gas_drew2 {w W : World} {GB : Nat} {pl : Int} {l : List S47} {K : List S45} {kv : Value} {K2 : List S45} {k2 : Value} {K3 : List S45} {k3 : Value} {Ag : Option Addr} {co : Nat} {iv : Value} (h : GasLoop w W GB pl l K kv K2 k2 K3 k3 Ag co iv) : GasLoop w W.drew.drew GB pl l K kv K2 k2 K3 k3 Ag co iv := by
  obtain ⟨i, e, hi, H⟩ := h
  exact ⟨i, e, hi, ⟨gas_drew (gas_drew H.out)⟩⟩
end Go.Proofs.Ytalgbihpidpblaa.Print
