/- BalanceSame: the law's state behind its two new plants. -/
import Derived.Test.YtalgbihpidpblaaMB
namespace Go.Proofs.Ytalgbihpidpblaa.Print
open Go.RowKit Go.Shelf Go.Proofs.YtalgbihpidpblaaW.PrintWords Go.Proofs.YtalgbihpidpblaaW.PrintLast Go.Proofs.YtalgbihpidpblaaW.PrintMore
set_option linter.unusedVariables false
set_option linter.unusedSimpArgs false

/-- PB: p; TB: turned; MB: more; kv: l; wv: s; tv: turned.Flows; mv: more.Flows. -/
structure SameAt (w W : World) (PB TB MB : Nat) (pl : Int) (A : Option Addr) (c : Nat) (l : List S47) (K : List S45) (kv : Value) (wl : List Int) (wv : Value) (T : List S47) (tv mv : Value) : Prop where
  bp : W.heap[PB]? = some (.cells #[.int .i64 pl, .slice A l.length c] 24 (0, 0))
  bt : W.heap[TB]? = some (.cells #[.int .i64 pl, tv] 24 (0, 0))
  bm : W.heap[MB]? = some (.cells #[.int .i64 pl, mv] 24 (0, 0))
  pt : TB ≠ PB
  pm : MB ≠ PB
  tm : TB ≠ MB
  gt : w.heap.size ≤ TB
  gm : w.heap.size ≤ MB
  kk : Kd.R k45 45 W w.heap.size (fun _ => True) kv K
  kw : Kd.R (Kd.int .i64) 3 W w.heap.size (fun _ => True) wv wl
  kt : Kd.R k47 47 W w.heap.size (fun _ => True) tv T
  cc : Kd.C k47 W A l.length l
  bel : Below w.heap.size w W
theorem same_below {w W W' : World} {PB TB MB : Nat} {pl : Int} {A : Option Addr} {c : Nat} {l : List S47} {K : List S45} {kv : Value} {wl : List Int} {wv : Value} {T : List S47} {tv mv : Value} (h : SameAt w W PB TB MB pl A c l K kv wl wv T tv mv) (hb : Below W.heap.size W W') : SameAt w W' PB TB MB pl A c l K kv wl wv T tv mv where
  bp := blk_below h.bp hb
  bt := blk_below h.bt hb
  bm := blk_below h.bm hb
  pt := h.pt
  pm := h.pm
  tm := h.tm
  gt := h.gt
  gm := h.gm
  kk := Kd.R_below h.kk hb
  kw := Kd.R_below h.kw hb
  kt := Kd.R_below h.kt hb
  cc := Kd.C_below h.cc hb
  bel := bl_next h.bel hb
theorem same_drew {w W : World} {PB TB MB : Nat} {pl : Int} {A : Option Addr} {c : Nat} {l : List S47} {K : List S45} {kv : Value} {wl : List Int} {wv : Value} {T : List S47} {tv mv : Value} (h : SameAt w W PB TB MB pl A c l K kv wl wv T tv mv) : SameAt w W.drew PB TB MB pl A c l K kv wl wv T tv mv where
  bp := h.bp
  bt := h.bt
  bm := h.bm
  pt := h.pt
  pm := h.pm
  tm := h.tm
  gt := h.gt
  gm := h.gm
  kk := Kd.R_drew h.kk
  kw := Kd.R_drew h.kw
  kt := Kd.R_drew h.kt
  cc := Kd.C_drew h.cc
  bel := h.bel.drew
/-- One flow more in turned (region 13). -/
theorem same_grow {w W w1 : World} {PB TB MB : Nat} {pl : Int} {A : Option Addr} {c : Nat} {l : List S47} {K : List S45} {kv : Value} {wl : List Int} {wv : Value} {T T' : List S47} {tv mv v1 : Value} (h : SameAt w W PB TB MB pl A c l K kv wl wv T tv mv)
    (ho : Kd.R k47 47 w1 w.heap.size (fun _ => True) v1 T') (hb : Below w.heap.size w w1) (hg : W.grownBy w1 tv.ownBlock) (cc0 : Kd.C k47 w A l.length l) :
    SameAt w (w1.setCell ⟨TB, 1, none⟩ v1) PB TB MB pl A c l K kv wl wv T' v1 mv where
  bp := blk_set_ne (blk_grown h.bp hg (Kd.R_ne h.kt h.bp (by decide))) h.pt 1 _
  bt := blk_put (blk_grown h.bt hg (Kd.R_ne h.kt h.bt (by decide))) 1 v1 rfl
  bm := blk_set_ne (blk_grown h.bm hg (Kd.R_ne h.kt h.bm (by decide))) h.tm 1 _
  pt := h.pt
  pm := h.pm
  tm := h.tm
  gt := h.gt
  gm := h.gm
  kk := Kd.R_set (Kd.R_over' h.kk (Kd.R_typed h.kt) (by decide) hg) (blk_grown h.bt hg (Kd.R_ne h.kt h.bt (by decide))) (by decide) 1 _
  kw := Kd.R_set (Kd.R_over' h.kw (Kd.R_typed h.kt) (by decide) hg) (blk_grown h.bt hg (Kd.R_ne h.kt h.bt (by decide))) (by decide) 1 _
  kt := Kd.R_set ho (blk_grown h.bt hg (Kd.R_ne h.kt h.bt (by decide))) (by decide) 1 _
  cc := Kd.C_below cc0 (hb.setCell h.gt _)
  bel := hb.setCell h.gt _
end Go.Proofs.Ytalgbihpidpblaa.Print
